/- Plain laws: what may not be; what may be with a word more. No condition of ours. -/
import Derived.Test.YtgajlhejefjhhaaGreatDoorT30
namespace Go.Proofs.YtgajlhejefjhhaaGreatDoor
open Go.RowKit

/-! ### what may not be, and what may be with a word more (plain) -/
theorem small_len {m : Img} (h : m.right = true) (hw : m.words.length ≤ 41) (hs : m.syms.length ≤ 9) : m.head.length ≤ 1000 ∧ m.print.length ≤ 1013 := by
  have hg := Img.good h
  have h1 := itoa_small m.mem hg.mem.1 hg.mem.2
  have h2 := symLines_length (l := m.syms) fun x hx => (hg.syms x hx).1
  have h3 := chunk_len (pieces m.words ((m.words.length + 7) / 8)) (fun x hx => by
    obtain ⟨j, _, rfl⟩ := List.mem_map.1 hx
    rw [pieceAt, List.length_take]
    omega)
  have h4 : (pieces m.words ((m.words.length + 7) / 8)).length = (m.words.length + 7) / 8 := by simp [pieces]
  have h5 : m.head.length ≤ 1000 := by
    unfold Img.head headOf
    simp only [List.length_append, List.length_cons, List.length_nil]
    omega
  rw [print_len]
  omega

theorem wrong_word (m : Img) (z : Int) (hz : z < 0 ∨ 4294967296 ≤ z) : ({ m with words := m.words ++ [z] } : Img).right = false := by
  have : (m.words ++ [z]).any oddW = true := by
    rw [List.any_eq_true]
    refine ⟨z, by simp, ?_⟩
    simp only [oddW, bne_iff_ne, ne_eq]
    omega
  simp [Img.right, this]
theorem wrong_mem (m : Img) (z : Int) (hz : 4096 < z) : ({ m with mem := z } : Img).right = false := by
  have : decide (z ≤ 4096) = false := by simpa using hz
  simp [Img.right, this]
theorem wrong_sym (m : Img) (l : List (List UInt8 × Int)) (k : Nat) (hk : k < l.length) (h : okAt l m.words.length k = false) : ({ m with syms := l } : Img).right = false := by
  simp [Img.right, symsB_no hk h]
theorem wrong_twice (m : Img) : ({ m with syms := m.syms ++ [([126], 0), ([126], 0)] } : Img).right = false := by
  refine wrong_sym m _ (m.syms.length + 1) (by simp) ?_


  have e3 : Op.bytesLess [126] [126] = false := by decide
  simp [okAt, e3]
theorem wrong_place (m : Img) (nm : List UInt8) (z : Int) (hz : 4 * (m.words.length : Int) < z) : ({ m with syms := m.syms ++ [(nm, z)] } : Img).right = false := by
  refine wrong_sym m _ m.syms.length (by simp) ?_
  have e3 : decide (z ≤ 4 * (m.words.length : Int)) = false := by simpa using hz
  simp [okAt, e3]
theorem wrong_name (m : Img) (nm : List UInt8) (z : Int) (hz : labL nm = false) : ({ m with syms := m.syms ++ [(nm, z)] } : Img).right = false := by
  refine wrong_sym m _ m.syms.length (by simp) ?_
  simp [okAt, hz]

/-- one with a word more, and a symbol at its end -/
def Img.more (x : Img) (q : Int) : Img := ⟨x.words ++ [q], x.mem, x.syms ++ [([126, 126, 126], 4 * ((x.words.length : Int) + 1))]⟩

theorem names_more : ∀ a : Fin 8, Op.bytesLess (nameAt a.1) [126, 126, 126] = true := by decide +kernel

theorem more_right (m : Img) (q : Int) (h0 : 0 ≤ q) (h1 : q < 4294967296) : (m.fit.more q).right = true := by
  have hw := fitWords_len m.words
  have hs := fitSyms_len m.syms (fitWords m.words).length 8
  have hg := Img.good (fit_right m)
  refine right_of ?_ (fun z hz => ?_) ⟨hg.mem.1, hg.mem.2⟩ ?_ (fun x hx => ?_) ?_
  · show (fitWords m.words ++ [q]).length ≤ 65536
    simp
    omega
  · rcases List.mem_append.1 hz with hz | hz
    · exact fitWords_mem hz
    · rw [List.mem_singleton] at hz
      omega
  · show (fitSyms m.syms (fitWords m.words).length 8 ++ [_]).length ≤ 1000
    simp
    omega
  · have hwl : (((m.fit.more q).words.length : Nat) : Int) = ((fitWords m.words).length : Int) + 1 := by
      show (((fitWords m.words ++ [q]).length : Nat) : Int) = _
      simp
    rcases List.mem_append.1 hx with hx | hx
    · obtain ⟨i, hi, h1, k, h2, h3, h4⟩ := fitSyms_mem hx
      exact ⟨h1 ▸ names_lab_all ⟨i, hi⟩, k, h2, h3, by omega⟩
    · rw [List.mem_singleton] at hx
      subst hx
      refine ⟨(by decide : labL [126, 126, 126] = true), ((fitWords m.words).length : Int) + 1, rfl, by omega, by omega⟩
  · show (fitSyms m.syms (fitWords m.words).length 8 ++ [_]).Pairwise _
    rw [List.pairwise_append]
    refine ⟨fitSyms_rise _ _ 8 (by omega), by simp, fun x hx y hy => ?_⟩
    obtain ⟨i, hi, h1, _⟩ := fitSyms_mem hx
    rw [List.mem_singleton] at hy
    subst hy
    rw [h1]
    exact names_more ⟨i, hi⟩

theorem find_at {m : Img} (h : m.right = true) {k : Nat} {x : List UInt8 × Int} (hx : m.syms[k]? = some x) : m.find x.1 = x.2 := by
  rw [Img.find, if_pos h, rise_find (Img.rise h) hx]

theorem more_find (m : Img) (q : Int) (h0 : 0 ≤ q) (h1 : q < 4294967296) {k : Nat} {x : List UInt8 × Int} (hx : m.fit.syms[k]? = some x) : (m.fit.more q).find x.1 = x.2 :=
  find_at (more_right m q h0 h1) (k := k) (by
    show (m.fit.syms ++ [_])[k]? = _
    rw [List.getElem?_append_left (List.getElem?_eq_some_iff.1 hx).1]
    exact hx)
theorem more_last (m : Img) (q : Int) (h0 : 0 ≤ q) (h1 : q < 4294967296) : (m.fit.more q).find [126, 126, 126] = 4 * ((m.fit.words.length : Int) + 1) :=
  find_at (more_right m q h0 h1) (k := m.fit.syms.length) (x := ([126, 126, 126], _)) (by
    show (m.fit.syms ++ [_])[m.fit.syms.length]? = _
    simp)

/-- the words' lines, by their lengths -/
theorem join_len8 : ∀ (ls : List (List UInt8)), (∀ l ∈ ls, l.length = 8) → ls ≠ [] → (Lib.join ls [32]).length + 1 = 9 * ls.length
  | [], _, h => absurd rfl h
  | [x], h, _ => by rw [Lib.join_one]; have := h x (by simp); simp [this]
  | x :: y :: l, h, _ => by
    have : Lib.join (x :: y :: l) [32] = x ++ [32] ++ Lib.join (y :: l) [32] := by simp [Lib.join, List.intercalate, List.intersperse]
    have h1 := h x (by simp)
    have h2 := join_len8 (y :: l) (fun z hz => h z (by simp [hz])) (by simp)
    rw [this]
    simp only [List.length_append, List.length_cons, List.length_nil] at h2 ⊢
    omega
theorem wordLine_eq (p : List Int) (h : p ≠ []) : (wordLine p).length = 9 * p.length := by
  unfold wordLine
  have := join_len8 (p.map fun z => digN 8 z.toNat) (fun l hl => by
    obtain ⟨z, _, rfl⟩ := List.mem_map.1 hl
    exact digN_length _ _) (by simpa using h)
  rw [List.length_map] at this
  simp only [List.length_append, List.length_cons, List.length_nil]
  omega
theorem wordLines_eq : ∀ (ps : List (List Int)), (∀ p ∈ ps, p ≠ []) → (ps.flatMap wordLine).length = 9 * ps.flatten.length
  | [], _ => rfl
  | p :: ps, h => by
    have h1 := wordLine_eq p (h p (by simp))
    have h2 := wordLines_eq ps fun q hq => h q (by simp [hq])
    simp only [List.flatMap_cons, List.flatten_cons, List.length_append]
    omega
theorem head_eq (m : Img) : m.head.length = 12 + (Lib.itoa m.mem).length + (m.syms.flatMap symLine).length + 9 * m.words.length := by
  have h := wordLines_eq (pieces m.words ((m.words.length + 7) / 8)) (fun p hp => pieces_ne hp)
  rw [pieces_flat, List.take_of_length_le (by omega)] at h
  unfold Img.head headOf
  simp only [List.length_append, List.length_cons, List.length_nil, h]
  omega
theorem more_len (x : Img) (q : Int) : (x.more q).print.length = x.print.length + 22 := by
  rw [print_len, print_len, head_eq, head_eq]
  simp only [Img.more, List.length_append, List.length_cons, List.length_nil, List.flatMap_append, List.flatMap_cons, List.flatMap_nil, symLine, digN_length]
  omega
theorem more_other (x : Img) (q : Int) : x.same (x.more q) = false := by
  have : ¬ (x.same (x.more q) = true) := fun h => by
    have := (same_iff _ _).1 h
    have := congrArg (fun m : Img => m.words.length) this
    simp [Img.more] at this
  simpa using this

/-- a strange name is not found -/
theorem find_none {m : Img} {t : List UInt8} (h : ∀ x ∈ m.syms, x.1 ≠ t) : m.find t = -1 := by
  unfold Img.find
  split
  · have : m.syms.find? (fun x => x.1 == t) = none := List.find?_eq_none.2 fun x hx => by simpa using h x hx
    rw [this]
  · rfl
theorem names_strange : ∀ a : Fin 8, nameAt a.1 ≠ [115, 116, 114, 97, 110, 103, 101] ∧ nameAt a.1 ≠ [] := by decide +kernel
theorem fit_strange (m : Img) : m.fit.find [115, 116, 114, 97, 110, 103, 101] = -1 ∧ m.fit.find [] = -1 := by
  constructor
  · refine find_none fun x hx => ?_
    obtain ⟨i, hi, h1, _⟩ := fitSyms_mem hx
    rw [h1]
    exact (names_strange ⟨i, hi⟩).1
  · refine find_none fun x hx => ?_
    obtain ⟨i, hi, h1, _⟩ := fitSyms_mem hx
    rw [h1]
    exact (names_strange ⟨i, hi⟩).2
end Go.Proofs.YtgajlhejefjhhaaGreatDoor
