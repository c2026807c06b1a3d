/- A contract: a symbol is searched. No condition of ours. -/
import Derived.Test.YtgajlhejefjhhaaGreatDoorT18
namespace Go.Proofs.YtgajlhejefjhhaaGreatDoor
open Go.RowKit

/-! ### the order of texts -/
theorem cmp_self : ∀ a : List UInt8, Lib.compareBytes a a = 0
  | [] => rfl
  | c :: l => by simp [Lib.compareBytes, cmp_self l]

theorem cmp_eq : ∀ {a b : List UInt8}, Lib.compareBytes a b = 0 → a = b
  | [], [], _ => rfl
  | [], _ :: _, h => by simp [Lib.compareBytes] at h
  | _ :: _, [], h => by simp [Lib.compareBytes] at h
  | a :: al, b :: bl, h => by
    unfold Lib.compareBytes at h
    split at h
    · cases h
    · split at h
      · cases h
      · rename_i h1 h2
        rw [UInt8.le_antisymm (UInt8.not_lt.1 h2) (UInt8.not_lt.1 h1), cmp_eq h]

theorem less_cmp : ∀ {a b : List UInt8}, Op.bytesLess a b = true ↔ Lib.compareBytes a b < 0
  | [], [] => by simp [Lib.compareBytes, Op.bytesLess]
  | [], _ :: _ => by simp [Lib.compareBytes, Op.bytesLess]
  | _ :: _, [] => by simp [Lib.compareBytes, Op.bytesLess]
  | a :: al, b :: bl => by
    unfold Lib.compareBytes Op.bytesLess
    by_cases h1 : a < b
    · simp [h1]
    · by_cases h2 : b < a
      · have : ¬ a = b := fun e => by subst e; exact h1 h2
        simp [h1, h2, this]
      · have : a = b := UInt8.le_antisymm (UInt8.not_lt.1 h2) (UInt8.not_lt.1 h1)
        subst this
        simp [h1, less_cmp (a := al) (b := bl)]

theorem cmp_trans : ∀ {a b c : List UInt8}, Lib.compareBytes a b < 0 → Lib.compareBytes b c < 0 → Lib.compareBytes a c < 0
  | [], _, [], _, h => by
    rename_i b _
    cases b <;> simp [Lib.compareBytes] at *
  | [], _, _ :: _, _, _ => by simp [Lib.compareBytes]
  | _ :: _, [], _, h, _ => by simp [Lib.compareBytes] at h
  | _ :: _, _ :: _, [], _, h => by simp [Lib.compareBytes] at h
  | a :: al, b :: bl, c :: cl, h, k => by
    unfold Lib.compareBytes at h k ⊢
    by_cases h1 : a < b
    · by_cases k1 : b < c
      · rw [if_pos (UInt8.lt_trans h1 k1)]; decide
      · rw [if_neg k1] at k
        split at k
        · simp at k
        · rename_i k2
          obtain rfl := UInt8.le_antisymm (UInt8.not_lt.1 k2) (UInt8.not_lt.1 k1)
          rw [if_pos h1]; decide
    · rw [if_neg h1] at h
      split at h
      · simp at h
      · rename_i h2
        obtain rfl := UInt8.le_antisymm (UInt8.not_lt.1 h2) (UInt8.not_lt.1 h1)
        by_cases k1 : a < c
        · rw [if_pos k1]; decide
        · rw [if_neg k1] at k ⊢
          split at k
          · simp at k
          · rename_i k2
            rw [if_neg k2]
            exact cmp_trans h k

/-- names that rise -/
def Rise (l : List (List UInt8 × Int)) : Prop := ∀ (i j : Nat) (x y : List UInt8 × Int), i < j → l[i]? = some x → l[j]? = some y → Lib.compareBytes x.1 y.1 < 0

theorem rise_of {l : List (List UInt8 × Int)} {n : Int} (h : symsB l n = true) : Rise l := by
  have hall : ∀ j, j < l.length → okAt l n j = true := by
    simp only [symsB, Bool.and_eq_true, List.all_eq_true] at h
    exact fun j hj => h.1 j (List.mem_range.2 hj)
  have step : ∀ i x y, l[i]? = some x → l[i + 1]? = some y → Lib.compareBytes x.1 y.1 < 0 := by
    intro i x y hx hy
    have := hall (i + 1) (List.getElem?_eq_some_iff.1 hy).1
    simp only [okAt, hy, Bool.and_eq_true, Nat.add_sub_cancel, hx, if_neg (Nat.succ_ne_zero i)] at this
    exact less_cmp.1 this.2.2.2.2
  intro i j
  induction j with
  | zero => intro x y hij; omega
  | succ j ih =>
    intro x y hij hx hy
    by_cases e : i = j
    · subst e
      exact step i x y hx hy
    · have hj : j < l.length := by have := (List.getElem?_eq_some_iff.1 hy).1; omega
      exact cmp_trans (ih x l[j] (by omega) hx (List.getElem?_eq_getElem hj)) (step j _ y (List.getElem?_eq_getElem hj) hy)

set_option maxHeartbeats 400000 in
theorem findCmp (x t : List UInt8) (pl : Int) (w : World) :
    Calls Tryz.prog 35 #[.agg #[.string (str x), .int .i64 pl], .string (str t)] w fun e w' => e = .returned (.int .i64 (Lib.compareBytes x t)) ∧ Below w.heap.size w w' := by
  go_enter Tryz.func35, Tryz.ntmps35
  go_wp2_with fail
  refine (Tryz.strings_Compare (str x) (str t) _).mono ?_
  rintro e w' ⟨rfl, rfl⟩
  go_wp2
  go_ret
  exact ⟨rfl, bA (bR w)⟩

/-- what the search tells -/
def Found (l : List (List UInt8 × Int)) (t : List UInt8) (e : Ending) : Prop :=
  (∃ (k : Nat) (x : List UInt8 × Int), e = .returned (.tuple #[.int .i64 k, .bool true]) ∧ l[k]? = some x ∧ x.1 = t) ∨ (∃ k : Nat, e = .returned (.tuple #[.int .i64 k, .bool false]) ∧ ∀ x ∈ l, x.1 ≠ t)

set_option maxHeartbeats 1000000 in
set_option maxRecDepth 100000 in
theorem search_any (A : Option Addr) (n c : Nat) (l : List (List UInt8 × Int)) (t : List UInt8) (w : World) (hr : Rd w 2 A n (symCells l)) (hn : n ≤ 1000000) (hrise : Rise l) :
    Calls Tryz.prog 34 #[.slice A n c, .string (str t), .func (.func 35) #[] #[]] w fun e w' => Found l t e ∧ Below w.heap.size w w' := by
  have HL := Lib.hid hr.sym_len
  have HR := Lib.hid hr
  have HS := Lib.hid hrise
  clear hr hrise
  go_enter Tryz.func34, Tryz.ntmps34
  go_wp2
  go_loopw [9, 10] (fun vi vj wr => ∃ i j : Nat, i ≤ j ∧ j ≤ n ∧ vi = .int .i64 i ∧ vj = .int .i64 j ∧ Below w.heap.size w wr ∧ (∀ k x, k < i → l[k]? = some x → Lib.compareBytes x.1 t < 0) ∧ (∀ k x, j ≤ k → l[k]? = some x → 0 ≤ Lib.compareBytes x.1 t)) (fun vi vj _ => (intOf vj).toNat - (intOf vi).toNat)
  case atStart => exact ⟨0, n, Nat.zero_le _, Nat.le_refl _, rfl, rfl, bR w, fun k x h => absurd h (by omega), fun k x h hx => absurd (List.getElem?_eq_some_iff.1 hx).1 (by have := HL.out; omega)⟩
  case round =>
    obtain ⟨i, j, hij, hj, rfl, rfl, hbw, hlo, hhi⟩ := hrel
    have HB := Lib.hid hbw
    have HLo := Lib.hid hlo
    have HHi := Lib.hid hhi
    clear hbw hlo hhi
    by_cases hlt : i < j
    · obtain ⟨h, hh⟩ : ∃ h, h = (i + j) / 2 := ⟨_, rfl⟩
      have h1 : i ≤ h := by omega
      have h2 : h < j := by omega
      obtain ⟨b, off, nm, pl, rfl, hx, hc1, hc2⟩ := (HR.out.below HB.out).sym (k := h) (by omega)
      have HX := Lib.hid hx
      obtain ⟨z, hz⟩ : ∃ z, z = Lib.compareBytes nm t := ⟨_, rfl⟩
      have HF := Lib.hid (hz ▸ findCmp nm t pl wr)
      have HZ := Lib.hid hz
      have hmid : ((i : Int) + (j : Int)) / 2 = ((h : Nat) : Int) := by omega
      clear hx hh hz
      have hsl : h < l.length := by have := HL.out; omega
      by_cases hz0 : z < 0
      · have HLo2 := Lib.hid (show ∀ (k : Nat) (x : List UInt8 × Int), k < h + 1 → l[k]? = some x → Lib.compareBytes x.1 t < 0 from fun k x hk hx => by
          by_cases e : k = h
          · subst e
            rw [HX.out] at hx
            cases hx
            rw [← HZ.out]
            exact hz0
          · exact cmp_trans (HS.out k h x _ (by omega) hx HX.out) (by rw [← HZ.out]; exact hz0))
        go_wp2_with fail
        refine HF.out.mono ?_
        rintro e w2 ⟨rfl, hb2⟩
        have HB2 := Lib.hid (bT HB.out hb2)
        clear hb2
        go_wp2
        go_roundw
        case rel => exact ⟨h + 1, j, by omega, hj, by go_num, rfl, HB2.out, HLo2.out, HHi.out⟩
        case measure => simp [intOf]; omega
      · have HHi2 := Lib.hid (show ∀ (k : Nat) (x : List UInt8 × Int), h ≤ k → l[k]? = some x → 0 ≤ Lib.compareBytes x.1 t from fun k x hk hx => by
          by_cases e : k = h
          · subst e
            rw [HX.out] at hx
            cases hx
            rw [← HZ.out]
            omega
          · refine Int.not_lt.1 fun hlt => hz0 ?_
            rw [HZ.out]
            exact cmp_trans (HS.out h k _ x (by omega) HX.out hx) hlt)
        go_wp2_with fail
        refine HF.out.mono ?_
        rintro e w2 ⟨rfl, hb2⟩
        have HB2 := Lib.hid (bT HB.out hb2)
        clear hb2
        go_wp2
        go_roundw
        case rel => exact ⟨i, h, h1, by omega, rfl, rfl, HB2.out, HLo.out, HHi2.out⟩
        case measure => simp [intOf]; omega
    · obtain rfl : i = j := by omega
      by_cases hin : i < n
      · obtain ⟨b, off, nm, pl, rfl, hx, hc1, hc2⟩ := (HR.out.below HB.out).sym (k := i) hin
        have HX := Lib.hid hx
        obtain ⟨z, hz⟩ : ∃ z, z = Lib.compareBytes nm t := ⟨_, rfl⟩
        have HF := Lib.hid (hz ▸ findCmp nm t pl wr)
        have HZ := Lib.hid hz
        clear hx hz
        by_cases hz0 : z = 0
        · have HDone := Lib.hid (show nm = t from cmp_eq (by rw [← HZ.out, hz0]))
          subst hz0
          go_wp2_with (go_at_call 35; refine HF.out.mono ?_; rintro e w2 ⟨rfl, hb2⟩; have HB2 := Lib.hid (bT HB.out hb2); clear hb2)
          go_ret2
          exact ⟨.inl ⟨i, _, rfl, HX.out, HDone.out⟩, HB2.out⟩
        · have hz0' : (z == 0) = false := by simpa using hz0
          have HDone := Lib.hid (show ∀ x ∈ l, x.1 ≠ t from fun x hx hxt => by
            obtain ⟨k, hk, rfl⟩ := List.getElem_of_mem hx
            rcases Nat.lt_trichotomy k i with h | h | h
            · have := HLo.out k _ h (List.getElem?_eq_getElem hk)
              rw [hxt, cmp_self] at this
              omega
            · subst h
              have e := HX.out
              rw [List.getElem?_eq_getElem hk] at e
              have e2 := congrArg Prod.fst (Option.some.inj e)
              rw [hxt] at e2
              dsimp only at e2
              exact hz0 (by rw [HZ.out, ← e2, cmp_self])
            · have h3 := HS.out i k _ _ h HX.out (List.getElem?_eq_getElem hk)
              rw [hxt] at h3
              have h4 := HHi.out i _ (Nat.le_refl _) HX.out
              dsimp only at h3 h4
              omega)
          go_wp2_with (go_at_call 35; refine HF.out.mono ?_; rintro e w2 ⟨rfl, hb2⟩; have HB2 := Lib.hid (bT HB.out hb2); clear hb2)
          go_ret2
          exact ⟨.inr ⟨i, by simp, HDone.out⟩, HB2.out⟩
      · have HDone := Lib.hid (show ∀ x ∈ l, x.1 ≠ t from fun x hx hxt => by
          obtain ⟨k, hk, rfl⟩ := List.getElem_of_mem hx
          have := HLo.out k _ (by have := HL.out; omega) (List.getElem?_eq_getElem hk)
          rw [hxt, cmp_self] at this
          omega)
        go_wp2
        go_ret2
        exact ⟨.inr ⟨i, rfl, HDone.out⟩, HB.out⟩
end Go.Proofs.YtgajlhejefjhhaaGreatDoor
