/- Plain law: what the document's own Parse tells is what the program's Parse tells. No condition of ours. -/
import Derived.Test.YtgajlhejefjhhaaGreatDoorT57
namespace Go.Proofs.YtgajlhejefjhhaaGreatDoor
open Go.RowKit

theorem rdL_n (st : RSt) (l : List UInt8) : (rdL st l).n = st.n + 1 := by
  unfold rdL
  split
  · rfl
  · split
    · rfl
    · split
      · rfl
      · split <;> rfl
theorem rdS_n : ∀ (s : List UInt8) (st : RSt) (cur : List UInt8), (rdS st cur s).n = st.n + Lib.countByte s 10
  | [], st, cur => by simp [rdS, Lib.countByte]
  | c :: s, st, cur => by
    rw [rdS]
    split
    · rename_i h
      subst h
      rw [rdS_n s, rdL_n]
      simp [Lib.countByte]
      omega
    · rename_i h
      rw [rdS_n s]
      simp [Lib.countByte, h]
theorem readO_n (s : List UInt8) : (readO s).n = Lib.countByte s 10 := by
  unfold readO
  rw [rdS_n]
  simp [rd0]

/-- the second test of the document's Parse -/
def nearB (s : List UInt8) (m : Img) : Prop := m.print.length = s.length ∧ m.print.take (s.length - 9) = s.take (s.length - 9) ∧ s[s.length - 1]? = some 10 ∧ 0 ≤ valO hexB 16 ((s.drop (s.length - 9)).take 8)

theorem ref_ok {s : List UInt8} {m : Img} (h : parseR s = some (some m)) : (readO s).m = m ∧ m.right = true ∧ m.print = s := by
  obtain ⟨h1, h2⟩ := parse_sound h
  refine ⟨?_, h1, h2⟩
  rw [← h2, print_parts]
  exact (rd_printed h1 (digN_byte _ _).1).1

theorem near_cut {s : List UInt8} {m : Img} (h : nearB s m) : ∃ v, v < 4294967296 ∧ s = m.head ++ ([115, 117, 109, 32] ++ digN 8 v ++ [10]) := by
  obtain ⟨h1, h2, h3, h4⟩ := h
  have hl := print_len m
  have hk : s.length - 9 = m.head.length + 4 := by omega
  have hd8 : ((s.drop (s.length - 9)).take 8).length = 8 := by rw [List.length_take, List.length_drop]; omega
  obtain ⟨v, hv, hd⟩ := valO_hex hd8 h4
  refine ⟨v, hv, ?_⟩
  have e1 : m.print.take (m.head.length + 4) = m.head ++ [115, 117, 109, 32] := by
    have : m.print = (m.head ++ [115, 117, 109, 32]) ++ (digN 8 (sumL m.head) ++ [10]) := by rw [print_parts]; simp
    rw [this, List.take_left' (by simp)]
  rw [hk, e1] at h2
  have e2 : s = s.take (m.head.length + 4) ++ ((s.drop (m.head.length + 4)).take 8 ++ (s.drop (m.head.length + 4)).drop 8) := by
    rw [List.take_append_drop, List.take_append_drop]
  have e3 : (s.drop (m.head.length + 4)).drop 8 = [10] := by
    rw [List.drop_drop]
    have hlt : s.length - 1 < s.length := by omega
    have e4 : m.head.length + 4 + 8 = s.length - 1 := by omega
    rw [e4, List.drop_eq_getElem_cons hlt, List.drop_of_length_le (by omega)]
    rw [List.getElem?_eq_getElem hlt] at h3
    rw [Option.some.inj h3]
  rw [hk] at hd
  rw [e2, ← h2, hd, e3]
  simp

theorem ref_near {s : List UInt8} (h : parseR s = some none) : (readO s).m.right = true ∧ (readO s).m.print ≠ s ∧ nearB s (readO s).m := by
  obtain ⟨n, m, h1, h2, h3, h4, h5⟩ := parse_both h
  rw [← h4] at h1
  have hm : (readO s).m = m := by
    rw [h1]
    exact (rd_printed h3 (digN_byte _ _).1).1
  rw [hm]
  have hl : s.length = m.head.length + 13 := by rw [h1]; simp [digN_length]
  have hne : m.print ≠ s := fun e => by
    rw [← e, parse_print h3] at h
    cases h
  refine ⟨h3, hne, by rw [print_len, hl], ?_, ?_, ?_⟩
  · have hk : s.length - 9 = m.head.length + 4 := by omega
    have e1 : m.print = (m.head ++ [115, 117, 109, 32]) ++ (digN 8 (sumL m.head) ++ [10]) := by rw [print_parts]; simp
    have e2 : s = (m.head ++ [115, 117, 109, 32]) ++ (digN 8 n ++ [10]) := h1.trans (by simp)
    rw [hk, e1, List.take_left' (by simp)]
    conv => rhs; rw [e2]
    rw [List.take_left' (by simp)]
  · have e2 : s = (m.head ++ ([115, 117, 109, 32] ++ digN 8 n)) ++ [10] := h1.trans (by simp)
    have hk : s.length - 1 = (m.head ++ ([115, 117, 109, 32] ++ digN 8 n)).length := by rw [hl]; simp [digN_length]
    rw [hk]
    conv => lhs; rw [e2]
    simp
  · have hk : s.length - 9 = m.head.length + 4 := by omega
    have e2 : s = (m.head ++ [115, 117, 109, 32]) ++ (digN 8 n ++ [10]) := h1.trans (by simp)
    have e3 : (s.drop (s.length - 9)).take 8 = digN 8 n := by
      rw [hk]
      conv => lhs; rw [e2]
      rw [List.drop_left' (by simp), List.take_left' (digN_length _ _)]
    rw [e3, valO_digN h2]
    omega

theorem ref_no {s : List UInt8} (h : parseR s = none) (m : Img) : ¬ (m.right = true ∧ m.print = s) ∧ ¬ (m.right = true ∧ nearB s m) := by
  constructor
  · rintro ⟨h1, h2⟩
    rw [← h2, parse_print h1] at h
    cases h
  · rintro ⟨h1, h2⟩
    obtain ⟨v, hv, hs⟩ := near_cut h2
    have hlen : ([115, 117, 109, 32] ++ digN 8 v ++ [10] : List UInt8).length = 13 := by simp [digN_length]
    have hat : atL s = m.head.length := by
      unfold atL
      rw [hs, List.length_append, hlen]
      omega
    have hd : s.drop (atL s) = [115, 117, 109, 32] ++ digN 8 v ++ [10] := by rw [hat, hs, List.drop_left]
    have ht : s.take (atL s) = m.head := by rw [hat, hs, List.take_left]
    have hpre : Lib.hasPrefix ([115, 117, 109, 32] ++ digN 8 v ++ [10]) [115, 117, 109, 32] = true := by
      unfold Lib.hasPrefix
      simp [List.isPrefixOf]
    have htold : toldL s = digN 8 v ++ [10] := by
      unfold toldL
      rw [hd]
      unfold Lib.trimPrefix
      rw [if_pos hpre]
      simp
    have hsuf : Lib.hasSuffix (digN 8 v ++ [10]) [10] = true := suf_snoc _ _
    unfold parseR at h
    rw [htold, hd, ht, hpre, hsuf, trim_snoc, hexO_digN hv, parse_head h1] at h
    simp only [Bool.and_self, if_true] at h
    split at h <;> cases h
end Go.Proofs.YtgajlhejefjhhaaGreatDoor
