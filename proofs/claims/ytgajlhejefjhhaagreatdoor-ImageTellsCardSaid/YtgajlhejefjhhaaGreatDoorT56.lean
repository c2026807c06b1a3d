/- A contract of the document's own function: two images are alike. No condition of ours. -/
import Derived.Test.YtgajlhejefjhhaaGreatDoorT55
namespace Go.Proofs.YtgajlhejefjhhaaGreatDoor
open Go.RowKit

set_option maxHeartbeats 4000000 in
set_option maxRecDepth 100000 in
theorem refSame_any (A1 : Option Addr) (n1 c1 : Nat) (A2 : Option Addr) (n2 c2 : Nat) (m : Img) (B1 : Option Addr) (k1 d1 : Nat) (B2 : Option Addr) (k2 d2 : Nat) (k : Img) (w : World) (h : IsImg w A1 n1 A2 n2 m) (h' : IsImg w B1 k1 B2 k2 k) :
    Calls Tryz.prog 21 #[.agg #[.slice A1 n1 c1, .int .i64 m.mem, .slice A2 n2 c2], .agg #[.slice B1 k1 d1, .int .i64 k.mem, .slice B2 k2 d2]] w fun e w' => e = .returned (.bool (m.same k)) ∧ Below w.heap.size w w' := by
  obtain ⟨a, ha⟩ : ∃ a, a = m.mem := ⟨_, rfl⟩
  obtain ⟨b, hb⟩ : ∃ b, b = k.mem := ⟨_, rfl⟩
  have HS := Lib.hid (show m.same k = (decide (a = b) && (decide (m.words = k.words) && decide (m.syms = k.syms))) from by rw [ha, hb]; rfl)
  rw [← ha, ← hb]
  have b1 := h.b1
  have b2 := h.b2
  have L1 := Lib.hid h.r1.int_len
  have L2 := Lib.hid h'.r1.int_len
  have L3 := Lib.hid h.r2.sym_len
  have L4 := Lib.hid h'.r2.sym_len
  have hB := bA (o := .cells #[.slice B1 k1 d1, .int .i64 b, .slice B2 k2 d2] 25) (bA (o := .cells #[.slice A1 n1 c1, .int .i64 a, .slice A2 n2 c2] 25) (bR w))
  have hn' := box_new (w.alloc (.cells #[.slice A1 n1 c1, .int .i64 a, .slice A2 n2 c2] 25)) B1 k1 d1 b B2 k2 d2
  rw [World.size_alloc] at hn'
  obtain ⟨W, hW⟩ : ∃ W, W = (w.alloc (.cells #[.slice A1 n1 c1, .int .i64 a, .slice A2 n2 c2] 25)).alloc (.cells #[.slice B1 k1 d1, .int .i64 b, .slice B2 k2 d2] 25) := ⟨_, rfl⟩
  have HB := Lib.hid (show Below w.heap.size w W from hW ▸ hB)
  have H := Lib.hid (show IsImg W A1 n1 A2 n2 m from hW ▸ h.below hB)
  have H' := Lib.hid (show IsImg W B1 k1 B2 k2 k from hW ▸ h'.below hB)
  have HN' := Lib.hid (show Box W (w.heap.size + 1) B1 k1 d1 b B2 k2 d2 from hW ▸ hn')
  have HN := Lib.hid (show Box W w.heap.size A1 n1 c1 a A2 n2 c2 from hW ▸ box_below (box_new w A1 n1 c1 a A2 n2 c2) (bA (o := .cells #[.slice B1 k1 d1, .int .i64 b, .slice B2 k2 d2] 25) (bR _)))
  have HW := Lib.hid hW
  clear hB hn' hW h h' ha hb
  obtain ⟨r0, r1, r2, _⟩ := cells3 HN.out
  obtain ⟨t0, t1, t2, _⟩ := cells3 HN'.out
  rw [HW.out] at r0 r1 r2 t0 t1 t2
  by_cases g1 : n1 = k1
  · by_cases g2 : a = b
    · by_cases g3 : n2 = k2
      · subst g1 g2 g3
        have HSw := Lib.hid (show m.same k = (decide (m.words = k.words) && decide (m.syms = k.syms)) by rw [HS.out]; simp)
        go_enter Tryz.func21, Tryz.ntmps21
        go_wp2_with fail
        rw [← HW.out] at r0 r1 r2 t0 t1 t2 ⊢
        go_loopw [5] (fun i wr => ∃ j : Nat, j ≤ n1 ∧ i = .int .i64 j ∧ Below W.heap.size W wr ∧ ∀ q, q < j → m.words[q]? = k.words[q]?) (fun i _ => n1 - (intOf i).toNat)
        case atStart => exact ⟨0, Nat.zero_le _, rfl, bR W, fun _ h => absurd h (by omega)⟩
        case round =>
          obtain ⟨j, hj, rfl, hbr, hall⟩ := hrel
          have HA := Lib.hid hall
          have HBr := Lib.hid hbr
          have HBw := Lib.hid (bT HB.out hbr)
          clear hall r0 r1 r2 t0 t1 t2
          obtain ⟨r0, r1, r2, _⟩ := cells3 (box_below HN.out hbr)
          obtain ⟨t0, t1, t2, _⟩ := cells3 (box_below HN'.out hbr)
          by_cases hlt : j < n1
          · obtain ⟨b, off, z, rfl, hz, hc⟩ := (H.out.below hbr).r1.int hlt
            obtain ⟨b', off', z', rfl, hz', hc'⟩ := (H'.out.below hbr).r1.int hlt
            clear hbr
            by_cases he : z = z'
            · subst he
              have HE := Lib.hid (hz.trans hz'.symm)
              clear hz hz'
              go_wp2_with fail
              go_quiet (fail)
              go_wp2_with fail
              go_roundw
              case rel =>
                refine ⟨j + 1, by omega, by go_num, bN HBr.out, fun q hq => ?_⟩
                by_cases e : q < j
                · exact HA.out q e
                · obtain rfl : q = j := by omega
                  exact HE.out
              case measure => simp [intOf]; omega
            · have HF := Lib.hid (show m.same k = false by
                have : decide (m.words = k.words) = false := by
                  simp only [decide_eq_false_iff_not]
                  intro e
                  rw [e, hz'] at hz
                  exact he (Option.some.inj hz).symm
                rw [HSw.out, this]
                rfl)
              have he' : (z != z') = true := by simpa using he
              clear hz hz' he
              go_wp2_with fail
              go_quiet (fail)
              go_wp2_with fail
              go_ret
              exact ⟨ret_bool HF.out.symm, bN HBw.out⟩
          · have HSs := Lib.hid (show m.same k = decide (m.syms = k.syms) by
              have : m.words = k.words := eq_take (L1.out.trans L2.out.symm) fun q hq => HA.out q (by have := L1.out; omega)
              rw [HSw.out, this]
              simp)
            clear hbr
            go_wp2_with fail
            go_loopw [6] (fun i wr => ∃ j : Nat, j ≤ n2 ∧ i = .int .i64 j ∧ Below W.heap.size W wr ∧ ∀ q, q < j → m.syms[q]? = k.syms[q]?) (fun i _ => n2 - (intOf i).toNat)
            case atStart => exact ⟨0, Nat.zero_le _, rfl, HBr.out, fun _ h => absurd h (by omega)⟩
            case round =>
              clear hlt hj r0 r1 r2 t0 t1 t2
              obtain ⟨j, hj, rfl, hbr, hall⟩ := hrel
              have HA2 := Lib.hid hall
              have HBs := Lib.hid hbr
              have HBw2 := Lib.hid (bT HB.out hbr)
              clear hall
              obtain ⟨r0, r1, r2, _⟩ := cells3 (box_below HN.out hbr)
              obtain ⟨t0, t1, t2, _⟩ := cells3 (box_below HN'.out hbr)
              by_cases hlt : j < n2
              · obtain ⟨b, off, nm, pl, rfl, hz, hc, hd⟩ := (H.out.below hbr).r2.sym hlt
                obtain ⟨b', off', nm', pl', rfl, hz', hc', hd'⟩ := (H'.out.below hbr).r2.sym hlt
                clear hbr
                by_cases he : nm = nm' ∧ pl = pl'
                · obtain ⟨rfl, rfl⟩ := he
                  have HE := Lib.hid (hz.trans hz'.symm)
                  clear hz hz'
                  go_wp2_with fail
                  go_quiet (fail)
                  go_wp2_with fail
                  go_roundw
                  case rel =>
                    refine ⟨j + 1, by omega, by go_num, bN HBs.out, fun q hq => ?_⟩
                    by_cases e : q < j
                    · exact HA2.out q e
                    · obtain rfl : q = j := by omega
                      exact HE.out
                  case measure => simp [intOf]; omega
                · have HF := Lib.hid (show m.same k = false by
                    rw [HSs.out]
                    simp only [decide_eq_false_iff_not]
                    intro e
                    rw [e, hz'] at hz
                    have := Option.some.inj hz
                    exact he ⟨(Prod.mk.inj this).1.symm, (Prod.mk.inj this).2.symm⟩)
                  clear hz hz'
                  by_cases hnm : nm = nm'
                  · have hpl : ¬ pl = pl' := fun e => he ⟨hnm, e⟩
                    subst hnm
                    clear he
                    go_wp2_with fail
                    go_quiet (fail)
                    go_wp2_with fail
                    go_ret
                    exact ⟨ret_bool HF.out.symm, bN HBw2.out⟩
                  · clear he
                    go_wp2_with fail
                    go_quiet (fail)
                    go_wp2_with fail
                    go_ret
                    exact ⟨ret_bool HF.out.symm, bN HBw2.out⟩
              · have HF := Lib.hid (show m.same k = true by
                  rw [HSs.out]
                  simp only [decide_eq_true_eq]
                  exact eq_take (L3.out.trans L4.out.symm) fun q hq => HA2.out q (by have := L3.out; omega))
                clear hbr
                go_wp2_with fail
                go_ret
                exact ⟨ret_bool HF.out.symm, HBw2.out⟩
      · have HF := Lib.hid (show m.same k = false by
          have : decide (m.syms = k.syms) = false := by
            simp only [decide_eq_false_iff_not]
            intro e
            have := L3.out
            rw [e] at this
            exact g3 (this.symm.trans L4.out)
          rw [HS.out, this]
          simp)
        have g3' : ((n2 : Int) != (k2 : Int)) = true := by simp; omega
        subst g1 g2
        clear g3
        go_enter Tryz.func21, Tryz.ntmps21
        go_wp2_with fail
        go_ret
        exact ⟨ret_bool HF.out.symm, HW.out ▸ HB.out⟩
    · have HF := Lib.hid (show m.same k = false by rw [HS.out]; simp [g2])
      have g2' : (a != b) = true := by simpa using g2
      subst g1
      clear g2
      go_enter Tryz.func21, Tryz.ntmps21
      go_wp2_with fail
      go_ret
      exact ⟨ret_bool HF.out.symm, HW.out ▸ HB.out⟩
  · have HF := Lib.hid (show m.same k = false by
      have : decide (m.words = k.words) = false := by
        simp only [decide_eq_false_iff_not]
        intro e
        have := L1.out
        rw [e] at this
        exact g1 (this.symm.trans L2.out)
      rw [HS.out, this]
      simp)
    have g1' : ((n1 : Int) != (k1 : Int)) = true := by simp; omega
    clear g1
    go_enter Tryz.func21, Tryz.ntmps21
    go_wp2_with fail
    go_ret
    exact ⟨ret_bool HF.out.symm, HW.out ▸ HB.out⟩
end Go.Proofs.YtgajlhejefjhhaaGreatDoor
