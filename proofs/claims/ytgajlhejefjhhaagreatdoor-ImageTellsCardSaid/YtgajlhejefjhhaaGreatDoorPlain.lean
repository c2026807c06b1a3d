/- Plain law: digits to the base 16. No program in sight. -/
namespace Go.Proofs.YtgajlhejefjhhaaGreatDoor

/-- the digit d, to the base 16 -/
def hexd (d : Nat) : UInt8 := if d < 10 then UInt8.ofNat (48 + d) else UInt8.ofNat (87 + d)

/-- the lowest k digits of u, to the base 16 -/
def digN : Nat → Nat → List UInt8
  | 0, _ => []
  | k + 1, u => hexd (u / 16 ^ k % 16) :: digN k u

theorem digN_length : ∀ k u, (digN k u).length = k
  | 0, _ => rfl
  | k + 1, u => by simp [digN, digN_length k u]

theorem digN_pad : ∀ (j k u : Nat), u < 16 ^ k → List.replicate j 48 ++ digN k u = digN (j + k) u
  | 0, k, u, _ => by simp
  | j + 1, k, u, h => by
    have e : j + 1 + k = (j + k) + 1 := by omega
    have hlt : u < 16 ^ (j + k) := Nat.lt_of_lt_of_le h (Nat.pow_le_pow_right (by omega) (by omega))
    rw [e, List.replicate_succ, List.cons_append, digN_pad j k u h, digN, Nat.div_eq_of_lt hlt]
    rfl

theorem digN_next {u k : Nat} : digN (k + 1) u = hexd (u / 16 ^ k % 16) :: digN k u := rfl

theorem dig_more {u k : Nat} (hu : u < 16 ^ 8) (h : 16 ≤ u / 16 ^ k) : k + 1 ≤ 7 := by
  have h1 : 16 * 16 ^ k ≤ u := (Nat.le_div_iff_mul_le (Nat.pow_pos (by omega))).1 h
  have h2 : 16 ^ (k + 1) < 16 ^ 8 := by rw [Nat.pow_succ]; omega
  have := (Nat.pow_lt_pow_iff_right (by omega)).1 h2
  omega

theorem dig_last {u k : Nat} (h : u / 16 ^ k < 16) : u < 16 ^ (k + 1) := by
  have := (Nat.div_lt_iff_lt_mul (Nat.pow_pos (n := k) (by omega : 0 < 16))).1 h
  rw [Nat.pow_succ]; omega

theorem div_step (u k : Nat) : u / 16 ^ (k + 1) = u / 16 ^ k / 16 := by rw [Nat.pow_succ, Nat.div_div_eq_div_mul]

/-! ### the sum of a text -/
def sumS (p : Nat × Nat) (c : UInt8) : Nat × Nat := ((p.1 + c.toNat) % 65521, (p.2 + (p.1 + c.toNat) % 65521) % 65521)
def sumP (l : List UInt8) : Nat × Nat := l.foldl sumS (1, 0)
def sumL (l : List UInt8) : Nat := 65536 * (sumP l).2 + (sumP l).1

theorem sumP_snoc (l : List UInt8) (c : UInt8) : sumP (l ++ [c]) = sumS (sumP l) c := by simp [sumP, List.foldl_append]

theorem sumP_lt (l : List UInt8) : (sumP l).1 < 65521 ∧ (sumP l).2 < 65521 := by
  have : ∀ (l : List UInt8) (p : Nat × Nat), p.1 < 65521 ∧ p.2 < 65521 → (l.foldl sumS p).1 < 65521 ∧ (l.foldl sumS p).2 < 65521 := by
    intro l
    induction l with
    | nil => intro p h; exact h
    | cons c l ih =>
      intro p _
      exact ih _ ⟨Nat.mod_lt _ (by omega), Nat.mod_lt _ (by omega)⟩
  exact this l (1, 0) ⟨by decide, by decide⟩

theorem sumL_lt (l : List UInt8) : sumL l < 4294967296 := by
  have := sumP_lt l
  unfold sumL
  omega

end Go.Proofs.YtgajlhejefjhhaaGreatDoor
