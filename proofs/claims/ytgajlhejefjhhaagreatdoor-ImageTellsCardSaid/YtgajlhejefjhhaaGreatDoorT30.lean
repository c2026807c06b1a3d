/- Plain laws: what is read is what is printed; one byte that is another one. No condition of ours. -/
import Derived.Test.YtgajlhejefjhhaaGreatDoorT29
namespace Go.Proofs.YtgajlhejefjhhaaGreatDoor
open Go.RowKit

/-! ### what Parse lets be is what Print tells -/
theorem pre_split {s p : List UInt8} (h : Lib.hasPrefix s p = true) : s = p ++ Lib.trimPrefix s p := by
  have h1 : Lib.trimPrefix s p = s.drop p.length := by unfold Lib.trimPrefix; rw [if_pos h]
  unfold Lib.hasPrefix at h
  obtain ⟨t, rfl⟩ := List.isPrefixOf_iff_prefix.1 h
  rw [h1, List.drop_left]
theorem suf_split {s p : List UInt8} (h : Lib.hasSuffix s p = true) : s = Lib.trimSuffix s p ++ p := by
  have h1 : Lib.trimSuffix s p = s.take (s.length - p.length) := by unfold Lib.trimSuffix; rw [if_pos h]
  unfold Lib.hasSuffix at h
  obtain ⟨t, rfl⟩ := List.isSuffixOf_iff_suffix.1 h
  rw [h1, List.length_append, Nat.add_sub_cancel, List.take_left]

theorem parse_both {s : List UInt8} {o : Option Img} (h : parseR s = some o) : ∃ n m, s = s.take (atL s) ++ ([115, 117, 109, 32] ++ digN 8 n ++ [10]) ∧ n < 4294967296 ∧ m.right = true ∧ m.head = s.take (atL s) ∧ o = if n = sumL m.head then some m else none := by
  unfold parseR at h
  split at h
  · rename_i hc
    simp only [Bool.and_eq_true] at hc
    split at h
    · rename_i n m hn hm
      obtain ⟨hn1, hn2⟩ := hexO_some hn
      obtain ⟨hm1, hm2⟩ := parseO_sound hm
      refine ⟨n, m, ?_, hn1, hm1, hm2, ?_⟩
      · have e1 := pre_split hc.1
        have e2 := suf_split hc.2
        rw [hn2] at e2
        have e3 : s.drop (atL s) = [115, 117, 109, 32] ++ digN 8 n ++ [10] := by
          rw [e1]
          show [115, 117, 109, 32] ++ toldL s = _
          rw [e2, List.append_assoc]
        rw [← e3, List.take_append_drop]
      · rw [hm2]
        split at h
        · rename_i hq
          rw [if_pos hq]
          exact (Option.some.inj h).symm
        · rename_i hq
          rw [if_neg hq]
          exact (Option.some.inj h).symm
    · cases h
  · cases h

theorem parse_sound {s : List UInt8} {m : Img} (h : parseR s = some (some m)) : m.right = true ∧ m.print = s := by
  obtain ⟨n, m', h1, _, h3, h4, h5⟩ := parse_both h
  split at h5
  · rename_i hn
    obtain rfl := Option.some.inj h5
    refine ⟨h3, ?_⟩
    rw [print_parts, ← hn, h4]
    exact h1.symm
  · cases h5

theorem print_len (m : Img) : m.print.length = m.head.length + 13 := by
  rw [print_parts]
  simp [digN_length]

theorem print_inj {m k : Img} (hm : m.right = true) (hk : k.right = true) (h : m.print = k.print) : m = k := by
  have h1 := parse_print hm
  rw [h, parse_print hk] at h1
  exact (Option.some.inj (Option.some.inj h1)).symm

/-! ### one byte that is another one -/
def byteSum (l : List UInt8) : Nat := (l.map UInt8.toNat).sum
theorem sumP_fst (l : List UInt8) : (sumP l).1 = (1 + byteSum l) % 65521 := by
  have : ∀ (l : List UInt8) (p : Nat × Nat), (l.foldl sumS p).1 % 65521 = (p.1 + byteSum l) % 65521 := by
    intro l
    induction l with
    | nil => intro p; simp [byteSum]
    | cons c l ih =>
      intro p
      rw [List.foldl_cons, ih]
      simp only [sumS, byteSum, List.map_cons, List.sum_cons]
      omega
  have h := this l (1, 0)
  have h2 := (sumP_lt l).1
  unfold sumP at h2 ⊢
  omega
theorem sumL_fst {l k : List UInt8} (h : sumL l = sumL k) : (1 + byteSum l) % 65521 = (1 + byteSum k) % 65521 := by
  have h1 := sumP_lt l
  have h2 := sumP_lt k
  rw [← sumP_fst, ← sumP_fst]
  unfold sumL at h
  omega
theorem byteSum_set {l : List UInt8} {k : Nat} (hk : k < l.length) (c : UInt8) : byteSum (l.set k c) + l[k].toNat = byteSum l + c.toNat := by
  induction l generalizing k with
  | nil => simp at hk
  | cons x l ih =>
    cases k with
    | zero => simp [byteSum]; omega
    | succ k =>
      have := ih (k := k) (by simpa using hk)
      simp only [byteSum, List.set_cons_succ, List.map_cons, List.sum_cons, List.getElem_cons_succ] at this ⊢
      omega
theorem sum_set {l : List UInt8} {k : Nat} (hk : k < l.length) {c : UInt8} (hc : c ≠ l[k]) : sumL (l.set k c) ≠ sumL l := by
  intro h
  have h1 := sumL_fst h
  have h2 := byteSum_set hk c
  have h3 : c.toNat ≠ l[k].toNat := fun e => hc (UInt8.toNat_inj.1 e)
  have h4 := c.toNat_lt
  have h5 := (l[k]).toNat_lt
  omega

/-- a text of which one byte is another one -/
theorem one_none {x : Img} {k : Nat} (hk : k < x.print.length) {c : UInt8} (hc : c ≠ x.print[k]) {m : Img} (h : parseR (x.print.set k c) = some (some m)) : False := by
  obtain ⟨hm, he⟩ := parse_sound h
  have hl : m.head.length = x.head.length := by
    have := congrArg List.length he
    rw [print_len, List.length_set, print_len] at this
    omega
  have hne : m.print ≠ x.print := fun e => by
    rw [e] at he
    have := congrArg (fun l => l[k]?) he
    simp only [List.getElem?_set_self hk, List.getElem?_eq_getElem hk, Option.some.injEq] at this
    exact hc this.symm
  rcases Nat.lt_or_ge k x.head.length with hlt | hge
  · have e1 : m.head = x.head.set k c := by
      have := congrArg (List.take x.head.length) he
      rw [print_parts m, ← hl, List.take_left, hl, List.take_set, print_parts x, List.take_left] at this
      exact this
    have e2 : ([115, 117, 109, 32] ++ digN 8 (sumL m.head) ++ [10] : List UInt8) = [115, 117, 109, 32] ++ digN 8 (sumL x.head) ++ [10] := by
      have := congrArg (List.drop x.head.length) he
      rw [print_parts m, ← hl, List.drop_left, hl, List.drop_set_of_lt hlt, print_parts x, List.drop_left] at this
      exact this
    have e3 : sumL m.head = sumL x.head := digN_inj (sumL_lt _) (sumL_lt _) (by
      have := List.append_cancel_right e2
      exact List.append_cancel_left this)
    rw [e1] at e3
    refine sum_set hlt ?_ e3
    have : x.print[k] = x.head[k] := by
      have h1 : x.print[k]? = x.head[k]? := by rw [print_parts, List.getElem?_append_left hlt]
      rw [List.getElem?_eq_getElem hk, List.getElem?_eq_getElem hlt] at h1
      exact Option.some.inj h1
    rw [← this]
    exact hc
  · have e1 : m.head = x.head := by
      have := congrArg (List.take x.head.length) he
      rw [print_parts m, ← hl, List.take_left, hl, List.take_set_of_le hge, print_parts x, List.take_left] at this
      exact this
    exact hne (by rw [print_parts, print_parts, e1])

theorem count_app (l k : List UInt8) (c : UInt8) : Lib.countByte (l ++ k) c = Lib.countByte l c + Lib.countByte k c := by
  simp [Lib.countByte]

theorem sum_lines {s : List UInt8} (h : parseR s = some none) : 2 < Lib.countByte s 10 := by
  obtain ⟨n, m, h1, _, _, h4, _⟩ := parse_both h
  rw [h1, ← h4]
  have e : m.head = ([105, 109, 97, 103, 101, 32] ++ Lib.itoa m.mem) ++ ([10] ++ (m.syms.flatMap symLine ++ ([99, 111, 100, 101] ++ ([10] ++ (pieces m.words ((m.words.length + 7) / 8)).flatMap wordLine)))) := by
    unfold Img.head headOf
    simp
  rw [e]
  have e10 : Lib.countByte [10] 10 = 1 := rfl
  simp only [count_app, e10]
  omega
end Go.Proofs.YtgajlhejefjhhaaGreatDoor
