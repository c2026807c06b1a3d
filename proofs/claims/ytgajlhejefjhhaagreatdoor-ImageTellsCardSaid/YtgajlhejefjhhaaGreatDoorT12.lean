/- A contract: eight digits are read. No condition of ours. -/
import Derived.Test.YtgajlhejefjhhaaGreatDoorT11
namespace Go.Proofs.YtgajlhejefjhhaaGreatDoor
open Go.RowKit

/-- what strconv.ParseUint tells of a text, to the base 16 and of 32 bits -/
def HexPub (s : ByteArray) (e : Ending) : Prop :=
  (∃ n : Nat, n < 4294967296 ∧ e = .returned (.tuple #[.int .u64 n, .nilIface]) ∧ ∀ v, v < 4294967296 → s.data.toList = digN 8 v → n = v) ∨
  (∃ (n N : Nat), n < 4294967296 ∧ e = .returned (.tuple #[.int .u64 n, .iface 135 (.pointer (some ⟨N, 0, none⟩))]) ∧ ∀ v, v < 4294967296 → s.data.toList ≠ digN 8 v)

set_option maxHeartbeats 1000000 in
set_option maxRecDepth 100000 in
theorem parseUint_pub (s : ByteArray) (w : World) (hs : s.size ≤ 281474976710656) (hG : Glob w) :
    Calls Tryz.prog 58 #[.string s, .int .i64 16, .int .i64 32] w fun e w' => HexPub s e ∧ Below w.heap.size w w' := by
  have HG := Lib.hid hG
  clear hG
  go_enter Tryz.func58, Tryz.ntmps58
  go_wp2_with fail
  refine (parseUint_in s _ (by omega)).mono ?_
  rintro e w1 ⟨ht, hb⟩
  rcases ht with ⟨n, hn, rfl, hv⟩ | ⟨n, k, hn, hk, rfl, hv⟩
  · have HV := Lib.hid hv
    clear hv
    go_wp2
    go_ret2
    exact ⟨.inl ⟨n, hn, rfl, HV.out⟩, hb⟩
  · have HV := Lib.hid hv
    clear hv
    have HG2 := Lib.hid (HG.out.below hb)
    rcases hk with rfl | rfl
    · obtain ⟨te, pe, hc⟩ := HG2.out.rng
      go_wp2_with fail
      refine (Tryz.strconv_toError_range _ s 16 32 (.iface te pe) _ hs hc (.inr ⟨te, pe, rfl⟩)).mono ?_
      rintro e w2 ⟨N, rfl, _, _, hb2⟩
      go_wp2
      go_ret2
      exact ⟨.inr ⟨n, N, hn, rfl, HV.out⟩, bT hb hb2⟩
    · obtain ⟨te, pe, hc⟩ := HG2.out.syn
      go_wp2_with fail
      refine (Tryz.strconv_toError_syntax _ s 16 32 (.iface te pe) _ hs hc (.inr ⟨te, pe, rfl⟩)).mono ?_
      rintro e w2 ⟨N, rfl, _, _, hb2⟩
      go_wp2
      go_ret2
      exact ⟨.inr ⟨n, N, hn, rfl, HV.out⟩, bT hb hb2⟩

open Classical in
/-- the number that eight digits are; none: they are none -/
noncomputable def hexO (l : List UInt8) : Option Nat := if h : ∃ v, v < 4294967296 ∧ l = digN 8 v then some h.choose else none

theorem hexO_some {l : List UInt8} {v : Nat} (h : hexO l = some v) : v < 4294967296 ∧ l = digN 8 v := by
  unfold hexO at h
  split at h
  · rename_i hx
    obtain rfl := Option.some.inj h
    exact hx.choose_spec
  · cases h
theorem hexO_none {l : List UInt8} (h : hexO l = none) : ∀ v, v < 4294967296 → l ≠ digN 8 v := by
  unfold hexO at h
  split at h
  · cases h
  · rename_i hx
    exact fun v hv he => hx ⟨v, hv, he⟩

/-- what hex tells -/
def HexIs (l : List UInt8) (e : Ending) : Prop :=
  (∃ v, hexO l = some v ∧ v < 4294967296 ∧ e = .returned (.tuple #[.int .i64 (v : Nat), .bool true])) ∨ (∃ k : Nat, hexO l = none ∧ k < 4294967296 ∧ e = .returned (.tuple #[.int .i64 (k : Nat), .bool false]))

set_option maxHeartbeats 1000000 in
set_option maxRecDepth 100000 in
theorem hex_any (l : List UInt8) (w : World) (hs : l.length ≤ 281474976710656) (hG : Glob w) :
    Calls Tryz.prog 40 #[.string (str l)] w fun e w' => HexIs l e ∧ Below w.heap.size w w' := by
  have HG := Lib.hid hG
  clear hG
  go_enter Tryz.func40, Tryz.ntmps40
  go_wp2_with fail
  refine (parseUint_pub (str l) _ hs HG.out).mono ?_
  rintro e w1 ⟨ht, hb⟩
  rcases ht with ⟨n, hn, rfl, hv⟩ | ⟨n, N, hn, rfl, hv⟩
  · have hD := digits_any n w1 hn (HG.out.below hb).deb
    have HD := Lib.hid hD
    have HV := Lib.hid hv
    clear hv hD
    go_wp2_with (go_at_call 26; refine HD.out.mono ?_; rintro e w' ⟨rfl, hb2⟩)
    go_ret2
    refine ⟨?_, bT hb hb2⟩
    cases hx : hexO l with
    | some v =>
      obtain ⟨h1, h2⟩ := hexO_some hx
      obtain rfl := HV.out v h1 h2
      exact .inl ⟨n, hx, hn, by rw [h2]; simp⟩
    | none =>
      have : (digN 8 n == l) = false := by
        have := hexO_none hx n hn
        simpa using fun e => this e.symm
      exact .inr ⟨n, hx, hn, by rw [this]; rfl⟩
  · have HV := Lib.hid hv
    clear hv
    go_wp2
    go_ret2
    refine ⟨.inr ⟨n, ?_, hn, rfl⟩, hb⟩
    cases hx : hexO l with
    | some v => exact absurd (hexO_some hx).2 (HV.out v (hexO_some hx).1)
    | none => rfl

theorem hexd_inj_all : ∀ a b : Fin 16, hexd a.1 = hexd b.1 → a = b := by decide +kernel
theorem hexd_inj {a b : Nat} (ha : a < 16) (hb : b < 16) (h : hexd a = hexd b) : a = b := congrArg Fin.val (hexd_inj_all ⟨a, ha⟩ ⟨b, hb⟩ h)

theorem digN_mod : ∀ {k u v : Nat}, digN k u = digN k v → u % 16 ^ k = v % 16 ^ k
  | 0, u, v, _ => by simp [Nat.mod_one]
  | k + 1, u, v, h => by
    rw [digN, digN, List.cons.injEq] at h
    rw [Nat.mod_pow_succ, Nat.mod_pow_succ, digN_mod h.2, hexd_inj (Nat.mod_lt _ (by omega)) (Nat.mod_lt _ (by omega)) h.1]

theorem digN_inj {u v : Nat} (hu : u < 4294967296) (hv : v < 4294967296) (h : digN 8 u = digN 8 v) : u = v := by
  have := digN_mod h
  rwa [Nat.mod_eq_of_lt (by omega), Nat.mod_eq_of_lt (by omega)] at this

theorem hexO_digN {v : Nat} (hv : v < 4294967296) : hexO (digN 8 v) = some v := by
  cases hx : hexO (digN 8 v) with
  | some u => rw [digN_inj hv (hexO_some hx).1 (hexO_some hx).2]
  | none => exact absurd rfl (hexO_none hx v hv)
end Go.Proofs.YtgajlhejefjhhaaGreatDoor
