/- A contract of the document's own function: an image may be. No condition of ours. -/
import Derived.Test.YtgajlhejefjhhaaGreatDoorT51
namespace Go.Proofs.YtgajlhejefjhhaaGreatDoor
open Go.RowKit

set_option maxHeartbeats 4000000 in
set_option maxRecDepth 100000 in
theorem refRight_any (A1 : Option Addr) (n1 c1 : Nat) (A2 : Option Addr) (n2 c2 : Nat) (m : Img) (w : World) (h : IsImg w A1 n1 A2 n2 m) :
    Calls Tryz.prog 15 #[.agg #[.slice A1 n1 c1, .int .i64 m.mem, .slice A2 n2 c2]] w fun e w' => e = .returned (.bool m.right) ∧ Below w.heap.size w w' := by
  obtain ⟨a, ha⟩ : ∃ a, a = m.mem := ⟨_, rfl⟩
  obtain ⟨l, hl⟩ : ∃ l, l = m.syms := ⟨_, rfl⟩
  have hlw := h.r1.int_len
  have hls := h.r2.sym_len
  have hr : m.right = (decide (n1 ≤ 65536) && (!m.words.any oddW && (decide (0 ≤ a) && (decide (a ≤ 4096) && symsB l (n1 : Int))))) := by rw [ha, hl, ← hlw]; rfl
  have b1 := h.b1
  have b2 := h.b2
  have hm := h.mw
  rw [← ha] at hm ⊢
  have HWf := Lib.hid h.wf
  have HZ := Lib.hid (show ∀ x ∈ l, x.1.length ≤ 9223372036854775807 ∧ -9223372036854775808 ≤ x.2 ∧ x.2 ≤ 9223372036854775807 from hl ▸ h.sz)
  have hB := bA (o := .cells #[.slice A1 n1 c1, .int .i64 a, .slice A2 n2 c2] 25) (bR w)
  have HR1 := Lib.hid (h.below hB).r1
  have HR2 := Lib.hid (show Rd (w.alloc (.cells #[.slice A1 n1 c1, .int .i64 a, .slice A2 n2 c2] 25)) 2 A2 n2 (symCells l) from hl ▸ (h.below hB).r2)
  have HN := Lib.hid (box_new w A1 n1 c1 a A2 n2 c2)
  have HB := Lib.hid hB
  have HLw := Lib.hid hlw
  have HL := Lib.hid (show l.length = n2 from hl ▸ hls)
  obtain ⟨W, hW⟩ : ∃ W, W = w.alloc (.cells #[.slice A1 n1 c1, .int .i64 a, .slice A2 n2 c2] 25) := ⟨_, rfl⟩
  rw [← hW] at HR1 HR2 HN HB
  have HW := Lib.hid hW
  clear hB h hlw hls hl hW ha
  obtain ⟨r0, r1, r2, _⟩ := cells3 HN.out
  rw [HW.out] at r0 r1 r2
  by_cases g1 : n1 ≤ 65536
  · by_cases g2 : 0 ≤ a
    · by_cases g3 : a ≤ 4096
      · by_cases g4 : n2 ≤ 1000
        · have HR := Lib.hid (show m.right = (!m.words.any oddW && symsB l (n1 : Int)) by rw [hr]; simp [g1, g2, g3])
          clear hr
          go_enter Tryz.func15, Tryz.ntmps15
          go_wp2_with fail
          rw [← HW.out] at r0 r1 r2 ⊢
          go_loop [3] (fun i => ∃ k : Nat, k ≤ n1 ∧ i = .int .i64 k ∧ ∀ j, j < k → ∀ z, m.words[j]? = some z → oddW z = false) (fun i => n1 - (intOf i).toNat)
          case atStart => exact ⟨0, Nat.zero_le _, rfl, fun _ h => absurd h (by omega)⟩
          case round =>
            obtain ⟨k, hk, rfl, hall⟩ := hrel
            have HA := Lib.hid hall
            clear hall
            by_cases hlt : k < n1
            · obtain ⟨b, off, z, rfl, hz, hc⟩ := HR1.out.int hlt
              obtain ⟨z1, z2⟩ := HWf.out z (List.mem_of_getElem? hz)
              have HNo := Lib.hid (show oddW z = true → m.right = false from fun ho => by
                have : m.words.any oddW = true := List.any_eq_true.2 ⟨z, List.mem_of_getElem? hz, ho⟩
                rw [HR.out, this]
                rfl)
              have HZ2 := Lib.hid hz
              clear hz
              by_cases g5 : z < 0
              · have HF := Lib.hid (HNo.out (by simp only [oddW, bne_iff_ne, ne_eq]; omega))
                go_wp2
                go_ret
                exact ⟨ret_bool HF.out.symm, HB.out⟩
              · by_cases g6 : 4294967296 ≤ z
                · have HF := Lib.hid (HNo.out (by simp only [oddW, bne_iff_ne, ne_eq]; omega))
                  go_wp2
                  go_ret
                  exact ⟨ret_bool HF.out.symm, HB.out⟩
                · have HF := Lib.hid (show oddW z = false by simp only [oddW, bne_eq_false_iff_eq]; omega)
                  go_wp2
                  go_round
                  case rel =>
                    refine ⟨k + 1, by omega, by go_num, fun j hj y hy => ?_⟩
                    by_cases e : j < k
                    · exact HA.out j e y hy
                    · obtain rfl : j = k := by omega
                      rw [HZ2.out] at hy
                      cases hy
                      exact HF.out
                  case measure => simp [intOf]; omega
            · have HAny := Lib.hid (show m.right = symsB l (n1 : Int) by
                have : m.words.any oddW = false := List.any_eq_false.2 fun z hz => by
                  obtain ⟨j, hj, rfl⟩ := List.getElem_of_mem hz
                  have hjl : j < k := by have := HLw.out; omega
                  simp [HA.out j hjl _ (List.getElem?_eq_getElem hj)]
                rw [HR.out, this]
                rfl)
              have HNo := Lib.hid (fun (h : symsB l (n1 : Int) = false) => HAny.out.trans h)
              clear HA
              go_wp2_with fail
              go_loopw [4] (fun i wr => ∃ k : Nat, k ≤ n2 ∧ i = .int .i64 k ∧ Below W.heap.size W wr ∧ ∀ j, j < k → okAt l (n1 : Int) j = true) (fun i _ => n2 - (intOf i).toNat)
              case atStart => exact ⟨0, Nat.zero_le _, rfl, bR W, fun _ h => absurd h (by omega)⟩
              case round =>
                clear hlt hk
                obtain ⟨k, hk, rfl, hbw, hall⟩ := hrel
                have HA := Lib.hid hall
                clear hall r0 r1 r2
                obtain ⟨r0, r1, r2, _⟩ := cells3 (box_below HN.out hbw)
                have HBr := Lib.hid (bT HB.out hbw)
                by_cases hlt : k < n2
                · obtain ⟨b, off, nm, pl, rfl, hx, hc1, hc2⟩ := (HR2.out.below hbw).sym hlt
                  have HX := Lib.hid hx
                  obtain ⟨hz1, hz2, hz3⟩ := HZ.out _ (List.mem_of_getElem? hx)
                  clear hx
                  have hs : (str nm).size ≤ 9223372036854775807 := hz1
                  dsimp only at hz2 hz3
                  have HLen := Lib.hid (show k < l.length by have := HL.out; omega)
                  have ok : okAt l (n1 : Int) k = (labL nm && (decide (0 ≤ pl) && (decide (pl ≤ 4 * (n1 : Int)) && (pl % 4 == 0 && (if k = 0 then true else match l[k - 1]? with | none => true | some y => Op.bytesLess y.1 nm))))) := by
                    simp only [okAt, HX.out]
                    rfl
                  have HO := Lib.hid ok
                  clear ok
                  obtain ⟨w1, hw1⟩ : ∃ w1, w1 = wr.alloc (.cells #[.string (str nm), .int .i64 pl] 45) := ⟨_, rfl⟩
                  have HB1 := Lib.hid (show Below wr.heap.size wr w1 from hw1 ▸ bA (bR wr))
                  have HF := Lib.hid (show ∀ (w2 : World) (q : Nat), Below wr.heap.size wr w2 → Below w.heap.size w (w2.drewN q) from fun w2 q hb => bN (bT HBr.out hb))
                  have HFW := Lib.hid (show ∀ (w2 : World) (q : Nat), Below wr.heap.size wr w2 → Below W.heap.size W (w2.drewN q) from fun w2 q hb => bN (bT hbw hb))
                  have d1 : w1.cell? ⟨wr.heap.size, 0, none⟩ = some (.string (str nm)) := hw1 ▸ new_cell (fz := (0, 0)) rfl
                  have d2 : w1.cell? ⟨wr.heap.size, 1, none⟩ = some (.int .i64 pl) := hw1 ▸ new_cell (fz := (0, 0)) rfl
                  have q0 : w1.cell? ⟨w.heap.size, 0, none⟩ = some (.slice A1 n1 c1) := (HB1.out.cell (p := ⟨w.heap.size, 0, none⟩) (cell_lt r0)).trans r0
                  have q2 : w1.cell? ⟨w.heap.size, 2, none⟩ = some (.slice (some ⟨b, off, none⟩) n2 c2) := (HB1.out.cell (p := ⟨w.heap.size, 2, none⟩) (cell_lt r2)).trans r2
                  go_wp2_with fail
                  refine (refLabel_any (str nm) _ hs).mono ?_
                  rintro e w' ⟨rfl, rfl⟩
                  rw [← hw1]
                  have HW1 := Lib.hid hw1
                  clear hw1 r0 r1 r2
                  by_cases g1 : labL nm = true
                  · by_cases g2 : pl < 0
                    · have HN := Lib.hid (symsB_no HLen.out (n := (n1 : Int)) (by rw [HO.out]; simp [g1]; intro; omega))
                      have g2' : decide (pl < 0) = true := by simpa using g2
                      go_wp2
                      go_quiet (fail)
                      go_wp2
                      go_ret
                      exact ⟨ret_bool (HNo.out HN.out).symm, HF.out _ _ HB1.out⟩
                    · have g2' : decide (pl < 0) = false := by simpa using g2
                      have g2a : 0 ≤ pl := by omega
                      by_cases g3 : 4 * (n1 : Int) < pl
                      · have HN := Lib.hid (symsB_no HLen.out (n := (n1 : Int)) (by rw [HO.out]; simp [g1, g2a]; intro; omega))
                        have g3' : decide (4 * (n1 : Int) < pl) = true := by simpa using g3
                        go_wp2
                        go_quiet (fail)
                        go_wp2
                        go_ret
                        exact ⟨ret_bool (HNo.out HN.out).symm, HF.out _ _ HB1.out⟩
                      · have g3' : decide (4 * (n1 : Int) < pl) = false := by simpa using g3
                        have g3a : pl ≤ 4 * (n1 : Int) := by omega
                        by_cases g4 : pl % 4 = 0
                        · have g4' : (pl % 4 != 0) = false := by simp [g4]
                          have G4 := Lib.hid g4
                          clear g4
                          by_cases g5 : k = 0
                          · subst g5
                            have HN := Lib.hid (show okAt l (n1 : Int) 0 = true by rw [HO.out]; simp [g1, g2a, g3a, G4.out])
                            go_wp2
                            go_quiet (fail)
                            go_wp2
                            go_roundw
                            case rel =>
                              refine ⟨1, by omega, by go_num, HFW.out _ _ HB1.out, fun j hj => ?_⟩
                              obtain rfl : j = 0 := by omega
                              exact HN.out
                            case measure => simp [intOf]; omega
                          · have g5a : 0 < k := by omega
                            have g5' : decide ((0 : Int) < (k : Int)) = true := by simpa using g5a
                            have hkm : k - 1 < n2 := by omega
                            obtain ⟨b2, off2, pn, pp, hA2, hx2, he1, _⟩ := (HR2.out.below hbw).sym hkm
                            cases hA2
                            have e1 : w1.cell? ⟨b, off + (k - 1) * 2, none⟩ = some (.string (str pn)) :=
                              (HB1.out.cell (p := ⟨b, off + (k - 1) * 2, none⟩) (cell_lt he1)).trans he1
                            clear he1
                            have HX2 := Lib.hid hx2
                            clear hx2
                            have i1 : (0 : Int) ≤ (k : Int) - 1 := by omega
                            have i2 : (k : Int) - 1 < (n2 : Int) := by omega
                            by_cases g6 : Op.bytesLess pn nm = true
                            · have HN := Lib.hid (show okAt l (n1 : Int) k = true by rw [HO.out]; simp [g1, g2a, g3a, G4.out, HX2.out, g6])
                              have g6' : Op.bytesLess (str pn).toList (str nm).toList = true := by simpa [ByteArray.toList_eq] using g6
                              go_wp2
                              go_quiet (fail)
                              go_wp2
                              go_roundw
                              case rel =>
                                refine ⟨k + 1, by omega, by go_num, HFW.out _ _ HB1.out, fun j hj => ?_⟩
                                by_cases e : j < k
                                · exact HA.out j e
                                · obtain rfl : j = k := by omega
                                  exact HN.out
                              case measure => simp [intOf]; omega
                            · have g6b : Op.bytesLess pn nm = false := by simpa using g6
                              have HN := Lib.hid (symsB_no HLen.out (n := (n1 : Int)) (by rw [HO.out]; simp [g5, HX2.out, g6b]))
                              have g6' : Op.bytesLess (str pn).toList (str nm).toList = false := by simpa [ByteArray.toList_eq] using g6b
                              go_wp2
                              go_quiet (fail)
                              go_wp2
                              go_ret
                              exact ⟨ret_bool (HNo.out HN.out).symm, HF.out _ _ HB1.out⟩
                        · have g4' : (pl % 4 != 0) = true := by simpa using g4
                          have HN := Lib.hid (symsB_no HLen.out (n := (n1 : Int)) (by rw [HO.out]; simp [g4]))
                          go_wp2
                          go_quiet (fail)
                          go_wp2
                          go_ret
                          exact ⟨ret_bool (HNo.out HN.out).symm, HF.out _ _ HB1.out⟩
                  · have g1' : labL nm = false := by simpa using g1
                    clear g1
                    have HN := Lib.hid (symsB_no HLen.out (n := (n1 : Int)) (by rw [HO.out]; simp [g1']))
                    go_wp2
                    go_quiet (fail)
                    go_wp2
                    go_ret
                    exact ⟨ret_bool (HNo.out HN.out).symm, HF.out _ _ HB1.out⟩
                · have HN2 := Lib.hid (symsB_all (n := (n1 : Int)) fun j hj => HA.out j (by have := HL.out; omega))
                  have HT := Lib.hid (show m.right = true by
                    rw [HAny.out, HN2.out, HL.out]
                    simpa using g4)
                  go_wp2
                  go_ret
                  exact ⟨ret_bool HT.out.symm, HBr.out⟩
        · have HF := Lib.hid (show m.right = false by
            have : symsB l (n1 : Int) = false := by simp [symsB, HL.out, g4]
            rw [hr, this]
            simp)
          clear hr
          go_enter Tryz.func15, Tryz.ntmps15
          go_wp2
          go_ret
          exact ⟨ret_bool HF.out.symm, bA (bR w)⟩
      · have HF := Lib.hid (show m.right = false by rw [hr]; simp [g3])
        clear hr
        go_enter Tryz.func15, Tryz.ntmps15
        go_wp2
        go_ret
        exact ⟨ret_bool HF.out.symm, bA (bR w)⟩
    · have HF := Lib.hid (show m.right = false by rw [hr]; simp [g2])
      clear hr
      go_enter Tryz.func15, Tryz.ntmps15
      go_wp2
      go_ret
      exact ⟨ret_bool HF.out.symm, bA (bR w)⟩
  · have HF := Lib.hid (show m.right = false by rw [hr]; simp [g1])
    clear hr
    go_enter Tryz.func15, Tryz.ntmps15
    go_wp2
    go_ret
    exact ⟨ret_bool HF.out.symm, bA (bR w)⟩
end Go.Proofs.YtgajlhejefjhhaaGreatDoor
