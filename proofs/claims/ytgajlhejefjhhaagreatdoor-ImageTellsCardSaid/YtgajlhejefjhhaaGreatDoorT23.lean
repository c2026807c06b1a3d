/- Plain laws of cutting and of digits. No condition of ours. -/
import Derived.Test.YtgajlhejefjhhaaGreatDoorT22
import Derived.Lib.IndexMore
namespace Go.Proofs.YtgajlhejefjhhaaGreatDoor
open Go.RowKit

/-! ### cutting at one byte -/
theorem idx_hit : ∀ {l : List UInt8} (c : UInt8) (r : List UInt8), c ∉ l → Lib.index (l ++ c :: r) [c] = l.length
  | [], c, r, _ => by simp [Lib.index, List.isPrefixOf]
  | b :: l, c, r, h => by
    have hb : ¬ c = b := fun e => h (by simp [e])
    have ih := idx_hit c r (fun hc => h (List.mem_cons_of_mem _ hc))
    have hp : ([c] : List UInt8).isPrefixOf (b :: (l ++ c :: r)) = false := by simp [List.isPrefixOf, hb]
    have hne : ((l.length : Int) == -1) = false := by simp
    rw [List.cons_append, Lib.index, hp, ih, hne]
    simp

theorem idx_miss : ∀ {l : List UInt8} {c : UInt8}, c ∉ l → Lib.index l [c] = -1
  | [], c, _ => by simp [Lib.index]
  | b :: l, c, h => by
    have hb : ¬ c = b := fun e => h (by simp [e])
    have hp : ([c] : List UInt8).isPrefixOf (b :: l) = false := by simp [List.isPrefixOf, hb]
    rw [Lib.index, hp, idx_miss (fun hc => h (List.mem_cons_of_mem _ hc))]
    rfl

theorem cut_hit {l r : List UInt8} {c : UInt8} (h : c ∉ l) : Lib.cut (l ++ c :: r) [c] = (l, r, true) := by
  unfold Lib.cut
  rw [idx_hit c r h, if_pos (by omega)]
  simp

theorem split_hit {l r : List UInt8} {c : UInt8} (h : c ∉ l) : Lib.split (l ++ c :: r) [c] = l :: Lib.split r [c] := by
  have hi := idx_hit c r h
  have hc := Lib.count_hit (by simp) hi
  have hd : (l ++ c :: r).drop (l.length + [c].length) = r := by simp
  rw [hd] at hc
  have hne : ((l.length : Int) == -1) = false := by simp
  unfold Lib.split
  rw [hc, Nat.add_comm, Lib.splitK, hi, hne]
  simp

theorem split_miss {l : List UInt8} {c : UInt8} (h : c ∉ l) : Lib.split l [c] = [l] := by
  unfold Lib.split
  rw [Lib.count_miss (idx_miss h)]
  rfl

theorem split_lines : ∀ {ls : List (List UInt8)} {c : UInt8} {r : List UInt8}, (∀ l ∈ ls, c ∉ l) → c ∉ r → Lib.split ((ls.flatMap fun l => l ++ [c]) ++ r) [c] = ls ++ [r]
  | [], c, r, _, hr => by simpa using split_miss hr
  | l :: ls, c, r, h, hr => by
    have : ((l :: ls).flatMap fun l => l ++ [c]) ++ r = l ++ c :: ((ls.flatMap fun l => l ++ [c]) ++ r) := by simp
    rw [this, split_hit (h l (by simp)), split_lines (fun y hy => h y (by simp [hy])) hr]
    rfl

theorem join_lines : ∀ (ls : List (List UInt8)) (r : List UInt8) (c : UInt8), Lib.join (ls ++ [r]) [c] = (ls.flatMap fun l => l ++ [c]) ++ r
  | [], r, c => by simp [Lib.join_one]
  | l :: ls, r, c => by
    have ih := join_lines ls r c
    have hne : ls ++ [r] ≠ [] := by simp
    obtain ⟨y, ys, hy⟩ := List.exists_cons_of_ne_nil hne
    have : Lib.join (l :: (ls ++ [r])) [c] = l ++ [c] ++ Lib.join (ls ++ [r]) [c] := by
      rw [hy]
      simp [Lib.join, List.intercalate, List.intersperse]
    rw [List.cons_append, this, ih]
    simp

theorem split_join {ls : List (List UInt8)} {c : UInt8} (hne : ls ≠ []) (h : ∀ l ∈ ls, c ∉ l) : Lib.split (Lib.join ls [c]) [c] = ls := by
  obtain ⟨xs, x, rfl⟩ : ∃ xs x, ls = xs ++ [x] := ⟨ls.dropLast, ls.getLast hne, (List.dropLast_concat_getLast hne).symm⟩
  rw [join_lines, split_lines (fun l hl => h l (by simp [hl])) (h x (by simp))]

/-! ### digits -/
theorem hexd_byte : ∀ d : Fin 16, (hexd d.1) ≠ 10 ∧ hexd d.1 ≠ 32 := by decide +kernel
theorem digN_byte : ∀ (k u : Nat), (10 : UInt8) ∉ digN k u ∧ (32 : UInt8) ∉ digN k u
  | 0, u => by simp [digN]
  | k + 1, u => by
    have h := hexd_byte ⟨u / 16 ^ k % 16, Nat.mod_lt _ (by omega)⟩
    have ih := digN_byte k u
    simp only [digN, List.mem_cons, not_or]
    exact ⟨⟨fun e => h.1 e.symm, ih.1⟩, ⟨fun e => h.2 e.symm, ih.2⟩⟩

theorem dec_byte (u : Nat) : ∀ c ∈ Lib.decDigits u, 48 ≤ c.toNat ∧ c.toNat ≤ 57 := by
  induction u using Nat.strongRecOn with
  | ind u ih =>
    intro c hc
    rw [Lib.decDigits] at hc
    split at hc
    · obtain rfl := List.mem_singleton.1 hc
      rw [UInt8.toNat_ofNat']
      omega
    · rcases List.mem_append.1 hc with hc | hc
      · exact ih (u / 10) (by omega) c hc
      · obtain rfl := List.mem_singleton.1 hc
        rw [UInt8.toNat_ofNat']
        omega

theorem parse_snoc : ∀ (l : List UInt8) (acc v : Nat) (c : UInt8), Lib.parseUint10 acc l = .ok v → 48 ≤ c.toNat → c.toNat ≤ 57 → v < 1000000 → Lib.parseUint10 acc (l ++ [c]) = .ok (v * 10 + (c.toNat - 48))
  | [], acc, v, c, h, h1, h2, hv => by
    simp only [Lib.parseUint10, Lib.NumEnd.ok.injEq] at h
    subst h
    simp only [List.nil_append, Lib.parseUint10]
    rw [if_pos ⟨h1, h2⟩, if_neg (by omega), if_neg (by omega)]
  | b :: l, acc, v, c, h, h1, h2, hv => by
    simp only [Lib.parseUint10] at h
    simp only [List.cons_append, Lib.parseUint10]
    split at h
    · rename_i hb
      rw [if_pos hb]
      split at h
      · cases h
      · rename_i ha
        rw [if_neg ha]
        split at h
        · cases h
        · rename_i ha2
          rw [if_neg ha2]
          exact parse_snoc l _ v c h h1 h2 hv
    · cases h

theorem parse_dec (u : Nat) (hu : u < 1000000) : Lib.parseUint10 0 (Lib.decDigits u) = .ok u := by
  induction u using Nat.strongRecOn with
  | ind u ih =>
    rw [Lib.decDigits]
    split
    · rename_i h
      have e : (UInt8.ofNat (48 + u)).toNat = 48 + u := by rw [UInt8.toNat_ofNat']; omega
      simp only [Lib.parseUint10, e]
      rw [if_pos (by omega), if_neg (by omega), if_neg (by omega)]
      simp
    · rename_i h
      have e : (UInt8.ofNat (48 + u % 10)).toNat = 48 + u % 10 := by rw [UInt8.toNat_ofNat']; omega
      rw [parse_snoc _ 0 (u / 10) _ (ih (u / 10) (by omega) (by omega)) (by omega) (by omega) (by omega), e]
      congr 1
      omega

theorem dec_ne (u : Nat) : Lib.decDigits u ≠ [] := by
  rw [Lib.decDigits]
  split <;> simp

theorem atoi_itoa (n : Int) (h0 : 0 ≤ n) (h1 : n ≤ 4096) : Lib.atoiAll (Lib.itoa n) = .ok n := by
  obtain ⟨u, rfl⟩ := Int.eq_ofNat_of_zero_le h0
  rw [Lib.itoa_nonneg]
  have hp := parse_dec u (by omega)
  have hb := dec_byte u
  cases hd : Lib.decDigits u with
  | nil => exact absurd hd (dec_ne u)
  | cons c r =>
    rw [hd] at hp hb
    have hc := hb c (by simp)
    unfold Lib.atoiAll
    have e1 : ¬ (c.toNat = 43 ∨ c.toNat = 45) := by omega
    simp only [if_neg e1, Lib.parseMag, if_neg (List.cons_ne_nil c r), hp]
    rw [if_neg (by omega), if_neg (by omega), if_neg (by omega)]
end Go.Proofs.YtgajlhejefjhhaaGreatDoor
