/- A contract: symbols may be. No condition of ours. -/
import Derived.Test.YtgajlhejefjhhaaGreatDoorT2
import Derived.Deep.QuietTactic
import Derived.BigQuiet
namespace Go.Proofs.YtgajlhejefjhhaaGreatDoor
open Go.RowKit

/-! ### symbols -/
/-- is the symbol at j one that may be, of so many words -/
def okAt (l : List (List UInt8 × Int)) (n : Int) (j : Nat) : Bool :=
  match l[j]? with
  | none => true
  | some x => labL x.1 && (decide (0 ≤ x.2) && (decide (x.2 ≤ 4 * n) && (x.2 % 4 == 0 && (if j = 0 then true else match l[j - 1]? with | none => true | some y => Op.bytesLess y.1 x.1))))

def symsB (l : List (List UInt8 × Int)) (n : Int) : Bool := (List.range l.length).all (okAt l n) && decide (l.length ≤ 1000)

theorem symsB_no {l : List (List UInt8 × Int)} {n : Int} {k : Nat} (hk : k < l.length) (h : okAt l n k = false) : symsB l n = false := by
  have : (List.range l.length).all (okAt l n) = false := by
    rw [List.all_eq_false]
    exact ⟨k, List.mem_range.2 hk, by simp [h]⟩
  simp [symsB, this]
theorem symsB_all {l : List (List UInt8 × Int)} {n : Int} (h : ∀ j, j < l.length → okAt l n j = true) : symsB l n = decide (l.length ≤ 1000) := by
  have : (List.range l.length).all (okAt l n) = true := by
    rw [List.all_eq_true]
    exact fun x hx => h x (List.mem_range.1 hx)
  simp [symsB, this]

set_option maxHeartbeats 1000000 in
set_option maxRecDepth 100000 in
theorem symbols_any (A : Option Addr) (m c : Nat) (l : List (List UInt8 × Int)) (n : Int) (w : World) (hr : Rd w 2 A m (symCells l)) (hm : m ≤ 9223372036854775807) (hn0 : 0 ≤ n) (hn : n ≤ 65536)
    (hsz : ∀ x ∈ l, x.1.length ≤ 9223372036854775807 ∧ -9223372036854775808 ≤ x.2 ∧ x.2 ≤ 9223372036854775807) :
    Calls Tryz.prog 32 #[.slice A m c, .int .i64 n] w fun e w' => e = .returned (.bool (symsB l n)) ∧ Below w.heap.size w w' := by
  have hlen := hr.sym_len
  have HL := Lib.hid hlen
  have HR := Lib.hid hr
  have HZ := Lib.hid hsz
  clear hlen hr hsz
  go_enter Tryz.func32, Tryz.ntmps32
  go_wp2
  go_loopw [10] (fun i wr => ∃ k : Nat, k ≤ m ∧ i = .int .i64 k ∧ Below w.heap.size w wr ∧ ∀ j, j < k → okAt l n j = true) (fun i _ => m - (intOf i).toNat)
  case atStart => exact ⟨0, Nat.zero_le _, rfl, bR w, fun _ h => absurd h (by omega)⟩
  case round =>
    obtain ⟨k, hk, rfl, hbw, hall⟩ := hrel
    have HA := Lib.hid hall
    clear hall
    by_cases hlt : k < m
    · obtain ⟨b, off, nm, pl, rfl, hx, hc1, hc2⟩ := (HR.out.below hbw).sym hlt
      have HX := Lib.hid hx
      obtain ⟨hz1, hz2, hz3⟩ := HZ.out _ (List.mem_of_getElem? hx)
      clear hx
      have hs : (str nm).size ≤ 9223372036854775807 := hz1
      dsimp only at hz2 hz3
      have hlen : k < l.length := by have := HL.out; omega
      have HLen := Lib.hid hlen
      clear hlen
      have ok : okAt l n k = (labL nm && (decide (0 ≤ pl) && (decide (pl ≤ 4 * n) && (pl % 4 == 0 && (if k = 0 then true else match l[k - 1]? with | none => true | some y => Op.bytesLess y.1 nm))))) := by
        simp only [okAt, HX.out]
      have HO := Lib.hid ok
      clear ok
      have hfin : ∀ w1 q, Below (wr.alloc (Obj.cells #[Value.string (str nm), Value.int .i64 pl] 45)).heap.size (wr.alloc (Obj.cells #[Value.string (str nm), Value.int .i64 pl] 45)) w1 → Below w.heap.size w (w1.drewN q) := fun w1 q h => bN (bT (bA hbw) h)
      have HF := Lib.hid hfin
      clear hfin
      have hcc : ∀ w1, Below (wr.alloc (Obj.cells #[Value.string (str nm), Value.int .i64 pl] 45)).heap.size (wr.alloc (Obj.cells #[Value.string (str nm), Value.int .i64 pl] 45)) w1 →
          w1.cell? ⟨wr.heap.size, 0, none⟩ = some (.string (str nm)) ∧ w1.cell? ⟨wr.heap.size, 1, none⟩ = some (.int .i64 pl) := by
        intro w1 h
        exact ⟨(h.cell (p := ⟨wr.heap.size, 0, none⟩) (by simp)).trans (new_cell (fz := (0, 0)) rfl), (h.cell (p := ⟨wr.heap.size, 1, none⟩) (by simp)).trans (new_cell (fz := (0, 0)) rfl)⟩
      have HCC := Lib.hid hcc
      clear hcc
      go_wp2_with fail
      refine (labelRight_any (str nm) _ hs).mono ?_
      rintro e w1 ⟨rfl, hb1⟩
      obtain ⟨d1, d2⟩ := HCC.out w1 hb1
      have HB1 := Lib.hid hb1
      clear hb1 HCC
      by_cases g1 : labL nm = true
      · by_cases g2 : pl < 0
        · have HN := Lib.hid (symsB_no HLen.out (n := n) (by rw [HO.out]; simp [g1]; intro; omega))
          have g2' : decide (pl < 0) = true := by simpa using g2
          go_wp2
          go_quiet (fail)
          go_wp2
          go_ret
          exact ⟨ret_bool HN.out.symm, HF.out _ _ HB1.out⟩
        · have g2' : decide (pl < 0) = false := by simpa using g2
          have g2a : 0 ≤ pl := by omega
          by_cases g3 : 4 * n < pl
          · have HN := Lib.hid (symsB_no HLen.out (n := n) (by rw [HO.out]; simp [g1, g2a]; intro; omega))
            have g3' : decide (4 * n < pl) = true := by simpa using g3
            go_wp2
            go_quiet (fail)
            go_wp2
            go_ret
            exact ⟨ret_bool HN.out.symm, HF.out _ _ HB1.out⟩
          · have g3' : decide (4 * n < pl) = false := by simpa using g3
            have g3a : pl ≤ 4 * n := by omega
            by_cases g4 : pl % 4 = 0
            · have g4' : (pl % 4 != 0) = false := by simp [g4]
              have G4 := Lib.hid g4
              clear g4
              by_cases g5 : k = 0
              · subst g5
                have HN := Lib.hid (show okAt l n 0 = true by rw [HO.out]; simp [g1, g2a, g3a, G4.out])
                go_wp2
                go_quiet (fail)
                go_wp2
                go_roundw
                case rel =>
                  refine ⟨1, by omega, by go_num, HF.out _ _ HB1.out, fun j hj => ?_⟩
                  obtain rfl : j = 0 := by omega
                  exact HN.out
                case measure => simp [intOf]; omega
              · have g5a : 0 < k := by omega
                have g5' : decide ((0 : Int) < (k : Int)) = true := by simpa using g5a
                have hkm : k - 1 < m := by omega
                obtain ⟨b2, off2, pn, pp, hA2, hx2, he1, _⟩ := (HR.out.below hbw).sym hkm
                cases hA2
                have e1 : w1.cell? ⟨b, off + (k - 1) * 2, none⟩ = some (.string (str pn)) :=
                  (HB1.out.cell (p := ⟨b, off + (k - 1) * 2, none⟩) (by have := cell_lt he1; simp; omega)).trans ((World.cell?_alloc_lt _ _ _ (cell_lt he1)).trans he1)
                clear he1
                have HX2 := Lib.hid hx2
                clear hx2
                have i1 : (0 : Int) ≤ (k : Int) - 1 := by omega
                have i2 : (k : Int) - 1 < (m : Int) := by omega
                by_cases g6 : Op.bytesLess pn nm = true
                · have HN := Lib.hid (show okAt l n k = true by rw [HO.out]; simp [g1, g2a, g3a, G4.out, HX2.out, g6])
                  have g6' : Op.bytesLess (str pn).toList (str nm).toList = true := by simpa [ByteArray.toList_eq] using g6
                  go_wp2
                  go_quiet (fail)
                  go_wp2
                  go_roundw
                  case rel =>
                    refine ⟨k + 1, by omega, by go_num, HF.out _ _ HB1.out, fun j hj => ?_⟩
                    by_cases e : j < k
                    · exact HA.out j e
                    · obtain rfl : j = k := by omega
                      exact HN.out
                  case measure => simp [intOf]; omega
                · have g6b : Op.bytesLess pn nm = false := by simpa using g6
                  have HN := Lib.hid (symsB_no HLen.out (n := n) (by rw [HO.out]; simp [g5, HX2.out, g6b]))
                  have g6' : Op.bytesLess (str pn).toList (str nm).toList = false := by simpa [ByteArray.toList_eq] using g6b
                  go_wp2
                  go_quiet (fail)
                  go_wp2
                  go_ret
                  exact ⟨ret_bool HN.out.symm, HF.out _ _ HB1.out⟩
            · have g4' : (pl % 4 != 0) = true := by simpa using g4
              have HN := Lib.hid (symsB_no HLen.out (n := n) (by rw [HO.out]; simp [g4]))
              go_wp2
              go_quiet (fail)
              go_wp2
              go_ret
              exact ⟨ret_bool HN.out.symm, HF.out _ _ HB1.out⟩
      · have g1' : labL nm = false := by simpa using g1
        clear g1
        have HN := Lib.hid (symsB_no HLen.out (n := n) (by rw [HO.out]; simp [g1']))
        go_wp2
        go_quiet (fail)
        go_wp2
        go_ret
        exact ⟨ret_bool HN.out.symm, HF.out _ _ HB1.out⟩
    · have HN := Lib.hid (symsB_all (n := n) fun j hj => HA.out j (by have := HL.out; omega))
      have hl : l.length = m := HL.out
      have HL2 := Lib.hid (show decide (l.length ≤ 1000) = decide ((m : Int) ≤ 1000) by rw [hl]; simp only [decide_eq_decide]; omega)
      clear hl
      go_wp2
      go_ret
      exact ⟨ret_bool (HL2.out.symm.trans HN.out.symm), hbw⟩
end Go.Proofs.YtgajlhejefjhhaaGreatDoor
