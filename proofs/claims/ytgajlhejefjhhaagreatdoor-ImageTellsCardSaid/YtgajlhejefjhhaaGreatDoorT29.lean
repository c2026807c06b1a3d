/- Plain law: what Fit gives may be. No condition of ours. -/
import Derived.Test.YtgajlhejefjhhaaGreatDoorT27
namespace Go.Proofs.YtgajlhejefjhhaaGreatDoor
open Go.RowKit

/-! ### what Fit gives may be -/
theorem fitSym_mem {l : List (List UInt8 × Int)} {n i : Nat} {x : List UInt8 × Int} (h : x ∈ fitSym l n i) : x.1 = nameAt i ∧ ∃ q : Int, x.2 = 4 * q ∧ 0 ≤ q ∧ q ≤ n := by
  unfold fitSym at h
  split at h
  · rename_i y _
    obtain rfl := List.mem_singleton.1 h
    have h1 := pk_lo y.2 ((n : Int) + 1) (by omega)
    have h2 := pk_hi y.2 ((n : Int) + 1) (by omega)
    exact ⟨rfl, _, rfl, h1, by omega⟩
  · simp at h

theorem fitSyms_mem {l : List (List UInt8 × Int)} {n k : Nat} {x : List UInt8 × Int} (h : x ∈ fitSyms l n k) : ∃ i, i < k ∧ x.1 = nameAt i ∧ ∃ q : Int, x.2 = 4 * q ∧ 0 ≤ q ∧ q ≤ n := by
  obtain ⟨i, hi, hx⟩ := List.mem_flatMap.1 h
  obtain ⟨h1, h2⟩ := fitSym_mem hx
  exact ⟨i, List.mem_range.1 hi, h1, h2⟩

theorem names_rise_all : ∀ a b : Fin 8, a < b → Op.bytesLess (nameAt a.1) (nameAt b.1) = true := by decide +kernel
theorem names_lab_all : ∀ a : Fin 8, labL (nameAt a.1) = true := by decide +kernel

theorem fitSyms_rise (l : List (List UInt8 × Int)) (n : Nat) : ∀ k, k ≤ 8 → (fitSyms l n k).Pairwise (fun x y => Op.bytesLess x.1 y.1 = true)
  | 0, _ => by simp [fitSyms]
  | k + 1, hk => by
    rw [fitSyms_succ, List.pairwise_append]
    refine ⟨fitSyms_rise l n k (by omega), ?_, fun x hx y hy => ?_⟩
    · unfold fitSym
      split <;> simp
    · obtain ⟨i, hi, hxi, _⟩ := fitSyms_mem hx
      rw [hxi, (fitSym_mem hy).1]
      exact names_rise_all ⟨i, by omega⟩ ⟨k, by omega⟩ hi

theorem right_of {m : Img} (h1 : m.words.length ≤ 65536) (h2 : ∀ z ∈ m.words, 0 ≤ z ∧ z < 4294967296) (h3 : 0 ≤ m.mem ∧ m.mem ≤ 4096) (h4 : m.syms.length ≤ 1000)
    (h5 : ∀ x ∈ m.syms, labL x.1 = true ∧ ∃ q : Int, x.2 = 4 * q ∧ 0 ≤ q ∧ q ≤ m.words.length) (h6 : m.syms.Pairwise (fun x y => Op.bytesLess x.1 y.1 = true)) : m.right = true := by
  have a2 : m.words.any oddW = false := by
    rw [List.any_eq_false]
    intro z hz
    have := h2 z hz
    simp only [oddW, bne_iff_ne, ne_eq, Decidable.not_not]
    omega
  have a6 : symsB m.syms m.words.length = true := by
    rw [symsB_all fun j hj => ?_]
    · simpa using h4
    · have hx := List.getElem?_eq_getElem hj
      obtain ⟨b1, q, b2, b3, b4⟩ := h5 _ (List.getElem_mem hj)
      simp only [okAt, hx, b1, b2, Bool.true_and]
      have c1 : decide ((0 : Int) ≤ 4 * q) = true := by simp; omega
      have c2 : decide (4 * q ≤ 4 * (m.words.length : Int)) = true := by simp; omega
      have c3 : (4 * q % 4 == 0) = true := by simp
      rw [c1, c2, c3]
      simp only [Bool.true_and]
      by_cases h0 : j = 0
      · rw [if_pos h0]
      · rw [if_neg h0, List.getElem?_eq_getElem (show j - 1 < m.syms.length by omega)]
        exact (List.pairwise_iff_getElem.1 h6) (j - 1) j (by omega) hj (by omega)
  simp only [Img.right, a2, a6]
  simp
  omega

theorem fitWords_len (l : List Int) : (fitWords l).length ≤ 40 := by simp [fitWords]; omega
theorem fitWords_mem {l : List Int} {z : Int} (h : z ∈ fitWords l) : 0 ≤ z ∧ z < 4294967296 := by
  obtain ⟨y, _, rfl⟩ := List.mem_map.1 h
  exact ⟨pk_lo y 4294967296 (by omega), pk_hi y 4294967296 (by omega)⟩

theorem fit_right (m : Img) : m.fit.right = true := by
  refine right_of ?_ (fun z hz => fitWords_mem hz) ⟨pk_lo m.mem 4097 (by omega), ?_⟩ ?_ (fun x hx => ?_) (fitSyms_rise _ _ 8 (by omega))
  · have := fitWords_len m.words
    show (fitWords m.words).length ≤ 65536
    omega
  · have := pk_hi m.mem 4097 (by omega)
    show pk m.mem 4097 ≤ 4096
    omega
  · have := fitSyms_len m.syms (fitWords m.words).length 8
    show (fitSyms m.syms (fitWords m.words).length 8).length ≤ 1000
    omega
  · obtain ⟨i, hi, h1, h2⟩ := fitSyms_mem hx
    exact ⟨h1 ▸ names_lab_all ⟨i, hi⟩, h2⟩
end Go.Proofs.YtgajlhejefjhhaaGreatDoor
