/- Contracts: two slices are alike. No condition of ours. -/
import Derived.Test.YtgajlhejefjhhaaGreatDoorT20
namespace Go.Proofs.YtgajlhejefjhhaaGreatDoor
open Go.RowKit

theorem eq_take {α : Type} {xs ys : List α} (hl : xs.length = ys.length) (h : ∀ j, j < xs.length → xs[j]? = ys[j]?) : xs = ys := by
  apply List.ext_getElem? fun j => ?_
  by_cases hj : j < xs.length
  · exact h j hj
  · rw [List.getElem?_eq_none (by omega), List.getElem?_eq_none (by omega)]

set_option maxHeartbeats 400000 in
set_option maxRecDepth 100000 in
theorem eqInt_any (A1 : Option Addr) (n1 c1 : Nat) (A2 : Option Addr) (n2 c2 : Nat) (xs ys : List Int) (w : World) (h1 : Rd w 1 A1 n1 (xs.map (Value.int .i64))) (h2 : Rd w 1 A2 n2 (ys.map (Value.int .i64))) (hn1 : n1 ≤ 9223372036854775807) (hn2 : n2 ≤ 9223372036854775807) :
    Calls Tryz.prog 37 #[.slice A1 n1 c1, .slice A2 n2 c2] w fun e w' => e = .returned (.bool (decide (xs = ys))) ∧ Below w.heap.size w w' := by
  have L1 := Lib.hid h1.int_len
  have L2 := Lib.hid h2.int_len
  have R1 := Lib.hid h1
  have R2 := Lib.hid h2
  clear h1 h2
  by_cases hn : n1 = n2
  · subst hn
    go_enter Tryz.func37, Tryz.ntmps37
    go_wp2
    go_loopw [13] (fun i wr => ∃ k : Nat, k ≤ n1 ∧ i = .int .i64 k ∧ Below w.heap.size w wr ∧ ∀ j, j < k → xs[j]? = ys[j]?) (fun i _ => n1 - (intOf i).toNat)
    case atStart => exact ⟨0, Nat.zero_le _, rfl, bR w, fun _ h => absurd h (by omega)⟩
    case round =>
      obtain ⟨k, hk, rfl, hb, hall⟩ := hrel
      have HA := Lib.hid hall
      have HB := Lib.hid hb
      clear hall hb
      by_cases hlt : k < n1
      · obtain ⟨b, off, z, rfl, hz, hc⟩ := (R1.out.below HB.out).int hlt
        obtain ⟨b', off', z', rfl, hz', hc'⟩ := (R2.out.below HB.out).int hlt
        by_cases he : z = z'
        · subst he
          have HE := Lib.hid (hz.trans hz'.symm)
          clear hz hz'
          go_wp2
          go_quiet (fail)
          go_wp2
          go_roundw
          case rel =>
            refine ⟨k + 1, by omega, by go_num, bN HB.out, fun j hj => ?_⟩
            by_cases e : j < k
            · exact HA.out j e
            · obtain rfl : j = k := by omega
              exact HE.out
          case measure => simp [intOf]; omega
        · have HF := Lib.hid (show decide (xs = ys) = false by
            simp only [decide_eq_false_iff_not]
            rintro rfl
            rw [hz] at hz'
            exact he (Option.some.inj hz'))
          have he' : (z != z') = true := by simpa using he
          clear hz hz'
          go_wp2
          go_quiet (fail)
          go_wp2
          go_ret
          exact ⟨ret_bool HF.out.symm, bN HB.out⟩
      · have HF := Lib.hid (show decide (xs = ys) = true by
          simp only [decide_eq_true_eq]
          exact eq_take (L1.out.trans L2.out.symm) fun j hj => HA.out j (by have := L1.out; omega))
        go_wp2
        go_ret
        exact ⟨ret_bool HF.out.symm, HB.out⟩
  · have HF := Lib.hid (show decide (xs = ys) = false by
      simp only [decide_eq_false_iff_not]
      rintro rfl
      exact hn (L1.out.symm.trans L2.out))
    have hn' : ((n1 : Int) != (n2 : Int)) = true := by simp; omega
    go_enter Tryz.func37, Tryz.ntmps37
    go_wp2
    go_ret
    exact ⟨ret_bool HF.out.symm, bR w⟩

set_option maxHeartbeats 400000 in
set_option maxRecDepth 100000 in
theorem eqSym_any (A1 : Option Addr) (n1 c1 : Nat) (A2 : Option Addr) (n2 c2 : Nat) (xs ys : List (List UInt8 × Int)) (w : World) (h1 : Rd w 2 A1 n1 (symCells xs)) (h2 : Rd w 2 A2 n2 (symCells ys)) (hn1 : n1 ≤ 9223372036854775807) (hn2 : n2 ≤ 9223372036854775807) :
    Calls Tryz.prog 38 #[.slice A1 n1 c1, .slice A2 n2 c2] w fun e w' => e = .returned (.bool (decide (xs = ys))) ∧ Below w.heap.size w w' := by
  have L1 := Lib.hid h1.sym_len
  have L2 := Lib.hid h2.sym_len
  have R1 := Lib.hid h1
  have R2 := Lib.hid h2
  clear h1 h2
  by_cases hn : n1 = n2
  · subst hn
    go_enter Tryz.func38, Tryz.ntmps38
    go_wp2
    go_loopw [13] (fun i wr => ∃ k : Nat, k ≤ n1 ∧ i = .int .i64 k ∧ Below w.heap.size w wr ∧ ∀ j, j < k → xs[j]? = ys[j]?) (fun i _ => n1 - (intOf i).toNat)
    case atStart => exact ⟨0, Nat.zero_le _, rfl, bR w, fun _ h => absurd h (by omega)⟩
    case round =>
      obtain ⟨k, hk, rfl, hb, hall⟩ := hrel
      have HA := Lib.hid hall
      have HB := Lib.hid hb
      clear hall hb
      by_cases hlt : k < n1
      · obtain ⟨b, off, nm, pl, rfl, hz, hc, hd⟩ := (R1.out.below HB.out).sym hlt
        obtain ⟨b', off', nm', pl', rfl, hz', hc', hd'⟩ := (R2.out.below HB.out).sym hlt
        by_cases he : nm = nm' ∧ pl = pl'
        · obtain ⟨rfl, rfl⟩ := he
          have HE := Lib.hid (hz.trans hz'.symm)
          clear hz hz'
          go_wp2
          go_quiet (fail)
          go_wp2
          go_roundw
          case rel =>
            refine ⟨k + 1, by omega, by go_num, bN HB.out, fun j hj => ?_⟩
            by_cases e : j < k
            · exact HA.out j e
            · obtain rfl : j = k := by omega
              exact HE.out
          case measure => simp [intOf]; omega
        · have HF := Lib.hid (show decide (xs = ys) = false by
            simp only [decide_eq_false_iff_not]
            rintro rfl
            rw [hz] at hz'
            have := Option.some.inj hz'
            exact he (Prod.mk.inj this))
          clear hz hz'
          by_cases hnm : nm = nm'
          · have hpl : ¬ pl = pl' := fun e => he ⟨hnm, e⟩
            subst hnm
            clear he
            go_wp2
            go_quiet (fail)
            go_wp2
            go_ret
            exact ⟨ret_bool HF.out.symm, bN HB.out⟩
          · clear he
            go_wp2
            go_quiet (fail)
            go_wp2
            go_ret
            exact ⟨ret_bool HF.out.symm, bN HB.out⟩
      · have HF := Lib.hid (show decide (xs = ys) = true by
          simp only [decide_eq_true_eq]
          exact eq_take (L1.out.trans L2.out.symm) fun j hj => HA.out j (by have := L1.out; omega))
        go_wp2
        go_ret
        exact ⟨ret_bool HF.out.symm, HB.out⟩
  · have HF := Lib.hid (show decide (xs = ys) = false by
      simp only [decide_eq_false_iff_not]
      rintro rfl
      exact hn (L1.out.symm.trans L2.out))
    have hn' : ((n1 : Int) != (n2 : Int)) = true := by simp; omega
    go_enter Tryz.func38, Tryz.ntmps38
    go_wp2
    go_ret
    exact ⟨ret_bool HF.out.symm, bR w⟩
end Go.Proofs.YtgajlhejefjhhaaGreatDoor
