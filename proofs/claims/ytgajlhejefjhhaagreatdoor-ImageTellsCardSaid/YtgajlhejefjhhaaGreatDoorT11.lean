/- A contract: a numeral to the base 16 is read. No condition of ours. -/
import Derived.Test.YtgajlhejefjhhaaGreatDoorT10
namespace Go.Proofs.YtgajlhejefjhhaaGreatDoor
open Go.RowKit

def lowN (c : UInt8) : Nat := (c ||| 32).toNat

theorem low_all : ∀ c : Fin 256, bits .or .u8 (c.1 : Int) 32 = ((lowN (UInt8.ofNat c.1) : Nat) : Int) := by decide +kernel
theorem low_at (c : UInt8) : bits .or .u8 (c.toNat : Int) 32 = ((lowN c : Nat) : Int) := by
  have := low_all ⟨c.toNat, c.toNat_lt⟩
  simpa using this

theorem low_95_all : ∀ c : Fin 256, c.1 = 95 → lowN (UInt8.ofNat c.1) = 127 := by decide +kernel
theorem low_95 (c : UInt8) (h : c.toNat = 95) : lowN c = 127 := by
  have := low_95_all ⟨c.toNat, c.toNat_lt⟩ h
  simpa using this

theorem dig_num_all : ∀ d : Fin 16, ∀ c : Fin 10, hexd d.1 = UInt8.ofNat (48 + c.1) → d.1 = c.1 := by decide +kernel
theorem dig_any_all : ∀ d : Fin 16, (48 ≤ (hexd d.1).toNat ∧ (hexd d.1).toNat ≤ 57 ∧ d.1 = (hexd d.1).toNat - 48) ∨ (¬ (hexd d.1).toNat ≤ 57 ∧ 97 ≤ lowN (hexd d.1) ∧ lowN (hexd d.1) ≤ 122 ∧ d.1 = lowN (hexd d.1) - 87) := by decide +kernel

theorem dig_any {d : Nat} (h : d < 16) : (48 ≤ (hexd d).toNat ∧ (hexd d).toNat ≤ 57 ∧ d = (hexd d).toNat - 48) ∨ (¬ (hexd d).toNat ≤ 57 ∧ 97 ≤ lowN (hexd d) ∧ lowN (hexd d) ≤ 122 ∧ d = lowN (hexd d) - 87) := dig_any_all ⟨d, h⟩

theorem digN_get : ∀ (k u j : Nat) (_ : j < k), (digN k u)[j]? = some (hexd (u / 16 ^ (k - 1 - j) % 16))
  | k + 1, u, 0, _ => by simp [digN]
  | k + 1, u, j + 1, h => by
    rw [digN, List.getElem?_cons_succ, digN_get k u j (by omega)]
    congr 4
    congr 1
    omega

/-- what the first k digits are worth, of each number that the text may be the digits of -/
def HexAt (s : ByteArray) (k n : Nat) : Prop := ∀ v, v < 4294967296 → s.data.toList = digN 8 v → n = v / 16 ^ (8 - k)

theorem HexAt.step {s : ByteArray} {k n d : Nat} (h : HexAt s k n) (hk : k < s.size) (hd : ∀ x, x < 16 → hexd x = s[k] → x = d) : HexAt s (k + 1) (n * 16 + d) := by
  intro v hv he
  have h1 := h v hv he
  have h8 : s.size = 8 := by
    have := congrArg List.length he
    rw [digN_length] at this
    simpa using this
  have hg := digN_get 8 v k (by omega)
  rw [← he] at hg
  have hg2 : s.data.toList[k]? = some s[k] := by
    rw [Array.getElem?_toList]
    exact Array.getElem?_eq_getElem hk
  rw [hg2] at hg
  have hx := hd _ (Nat.mod_lt _ (by omega)) (Option.some.inj hg).symm
  have e1 : 8 - k = (8 - 1 - k) + 1 := by omega
  have e2 : 8 - (k + 1) = 8 - 1 - k := by omega
  rw [e2, h1, e1, div_step, ← hx]
  exact (Nat.div_add_mod' _ 16)

theorem hex_none {s : ByteArray} {k : Nat} (hk : k < s.size) (hd : ∀ x, x < 16 → hexd x ≠ s[k]) : ∀ v, v < 4294967296 → s.data.toList ≠ digN 8 v := by
  intro v _ he
  have h8 : s.size = 8 := by
    have := congrArg List.length he
    rw [digN_length] at this
    simpa using this
  have hg := digN_get 8 v k (by omega)
  rw [← he] at hg
  have hg2 : s.data.toList[k]? = some s[k] := by
    rw [Array.getElem?_toList]
    exact Array.getElem?_eq_getElem hk
  rw [hg2] at hg
  exact hd _ (Nat.mod_lt _ (by omega)) (Option.some.inj hg).symm

theorem HexAt.big {s : ByteArray} {k n : Nat} (h : HexAt s k n) (hn : 4294967295 < n) : ∀ v, v < 4294967296 → s.data.toList ≠ digN 8 v := by
  intro v hv he
  have h1 := h v hv he
  have := Nat.div_le_self v (16 ^ (8 - k))
  omega

/-- what ParseUint tells of a text, to the base 16 and of 32 bits -/
def HexTold (s : ByteArray) (e : Ending) : Prop :=
  (∃ n : Nat, n < 4294967296 ∧ e = .returned (.tuple #[.int .u64 n, .nilIface]) ∧ ∀ v, v < 4294967296 → s.data.toList = digN 8 v → n = v) ∨
  (∃ (n : Nat) (k : Int), n < 4294967296 ∧ (k = 1 ∨ k = 2) ∧ e = .returned (.tuple #[.int .u64 n, .iface 133 (.int .i64 k)]) ∧ ∀ v, v < 4294967296 → s.data.toList ≠ digN 8 v)

theorem lower_at {c l : Nat} (h : bits .or .u8 (c : Int) 32 = (l : Int)) (w : World) : Calls Tryz.prog 100 #[.int .u8 (c : Int)] w fun e w' => e = .returned (.int .u8 (l : Int)) ∧ w' = w := by
  have := Tryz.internal_strconv_lower (c : Int) w
  rwa [h] at this

theorem dig_num {c : UInt8} (h1 : 48 ≤ c.toNat) (h2 : c.toNat ≤ 57) : ∀ x, x < 16 → hexd x = c → x = c.toNat - 48 := by
  rintro x hx rfl
  have := dig_any hx
  omega
theorem dig_let {c : UInt8} (h1 : ¬ (48 ≤ c.toNat ∧ c.toNat ≤ 57)) : ∀ x, x < 16 → hexd x = c → x = lowN c - 87 ∧ 97 ≤ lowN c ∧ lowN c ≤ 122 := by
  rintro x hx rfl
  have := dig_any hx
  omega

set_option maxHeartbeats 1000000 in
set_option maxRecDepth 100000 in
theorem parseUint_in (s : ByteArray) (w : World) (hs : s.size ≤ 9223372036854775807) :
    Calls Tryz.prog 82 #[.string s, .int .i64 16, .int .i64 32] w fun e w' => HexTold s e ∧ Below w.heap.size w w' := by
  by_cases h0 : s = ⟨#[]⟩
  · subst h0
    go_enter Tryz.func82, Tryz.ntmps82
    go_wp2
    go_ret2
    exact ⟨.inr ⟨0, 2, by omega, .inr rfl, rfl, fun v _ he => by have := congrArg List.length he; rw [digN_length] at this; simp at this⟩, bR w⟩
  · obtain ⟨cap, C, fz, hrun, hC⟩ := bytes_of s w
    have fin : Below w.heap.size w (w.alloc (Obj.cells C 5 fz)).drew := bD (bA (bR w))
    have h0' : s.toList.isEmpty = false := by
      rw [ByteArray.toList_eq]
      cases e : s.data.toList with
      | nil => exact absurd (by rw [← str_eta s, e]) h0
      | cons a l => rfl
    go_enter Tryz.func82, Tryz.ntmps82
    go_wp2
    go_loop [12, 13, 101] (fun vb vn i => ∃ k n : Nat, k ≤ s.size ∧ i = .int .i64 k ∧ vb = .bool false ∧ vn = .int .u64 n ∧ n < 4294967296 ∧ HexAt s k n) (fun _ _ i => s.size - (intOf i).toNat)
    case atStart => exact ⟨0, 0, Nat.zero_le _, rfl, rfl, rfl, by omega, fun v hv _ => by rw [Nat.div_eq_of_lt (by simpa using hv)]⟩
    case round =>
      obtain ⟨k, n, hk, rfl, rfl, rfl, hn, hall⟩ := hrel
      have HA := Lib.hid hall
      clear hall
      by_cases hlt : k < s.size
      · have hc := new_cell (w := w) (t := 5) (fz := fz) (hC k hlt)
        obtain ⟨c, hce⟩ : ∃ c, c = s[k].toNat := ⟨_, rfl⟩
        obtain ⟨l, hle⟩ : ∃ l, l = lowN s[k] := ⟨_, rfl⟩
        have hb8 : c < 256 := hce ▸ s[k].toNat_lt
        have hlow := low_at s[k]
        rw [← hce] at hc
        rw [← hce, ← hle] at hlow
        have hl8 : l < 256 := hle ▸ (s[k] ||| 32).toNat_lt
        have Hlow := Lib.hid (lower_at hlow)
        clear hlow
        have k16 : ∀ x : Nat, n * 16 + x < 4294967296 → decide ((1152921504606846976 : Int) ≤ (n : Int)) = false := fun _ _ => by simp; omega
        have i3 : decide ((1152921504606846976 : Int) ≤ (n : Int)) = false := by simp; omega
        have i4 : decide ((n : Int) ≥ (1152921504606846976 : Int)) = false := by simp; omega
        clear k16
        by_cases g1 : 48 ≤ c ∧ c ≤ 57
        · have hst := HA.out.step hlt (d := c - 48) (hce ▸ dig_num (c := s[k]) (by omega) (by omega))
          have HN := Lib.hid hst
          clear hce hle hst
          obtain ⟨g1, g2⟩ := g1
          have i1 : (48 : Int) ≤ (c : Int) := by omega
          have i2 : (c : Int) ≤ 57 := by omega
          have i6 : ((n * 16 + (c - 48) : Nat) : Int) = (n : Int) * 16 + ((c : Int) - 48) := by omega
          by_cases g3 : n * 16 + (c - 48) < 4294967296
          · go_wp2
            go_round
            case rel => exact ⟨k + 1, n * 16 + (c - 48), by omega, by go_num, rfl, by rw [i6], g3, HN.out⟩
            case measure => simp [intOf]; omega
          · go_wp2
            go_ret2
            exact ⟨.inr ⟨4294967295, 1, by omega, .inl rfl, rfl, HN.out.big (by omega)⟩, fin⟩
        · have HL := Lib.hid (show ∀ x, x < 16 → hexd x = s[k] → x = l - 87 ∧ 97 ≤ l ∧ l ≤ 122 from hle ▸ dig_let (c := s[k]) (by omega))
          have h95 : c = 95 → l = 127 := fun h => by rw [hle]; exact low_95 s[k] (hce ▸ h)
          have HNo := Lib.hid (fun hd => hex_none hlt hd)
          clear hce hle
          by_cases g4 : 97 ≤ l ∧ l ≤ 122
          · obtain ⟨g4, g5⟩ := g4
            have i1 : (97 : Int) ≤ (l : Int) := by omega
            have i2 : (l : Int) ≤ 122 := by omega
            have i9 : ¬ ((c : Int) = 95) := by omega
            by_cases g6 : l - 87 < 16
            · have HN := Lib.hid (HA.out.step hlt (d := l - 87) fun x hx hy => (HL.out x hx hy).1)
              have i6 : ((n * 16 + (l - 87) : Nat) : Int) = (n : Int) * 16 + ((l : Int) - 97 + 10) := by omega
              by_cases g3 : n * 16 + (l - 87) < 4294967296
              · have HR := Lib.hid g3
                by_cases g7 : 48 ≤ c
                · have i7 : (48 : Int) ≤ (c : Int) := by omega
                  have i8 : ¬ ((c : Int) ≤ 57) := by omega
                  go_wp2_with (go_at_call 100; refine (Hlow.out _).mono ?_; rintro e w' ⟨rfl, rfl⟩)
                  go_round
                  case rel => exact ⟨k + 1, n * 16 + (l - 87), by omega, by go_num, rfl, by rw [i6], HR.out, HN.out⟩
                  case measure => simp [intOf]; omega
                · have i7 : ¬ ((48 : Int) ≤ (c : Int)) := by omega
                  go_wp2_with (go_at_call 100; refine (Hlow.out _).mono ?_; rintro e w' ⟨rfl, rfl⟩)
                  go_round
                  case rel => exact ⟨k + 1, n * 16 + (l - 87), by omega, by go_num, rfl, by rw [i6], HR.out, HN.out⟩
                  case measure => simp [intOf]; omega
              · have HR := Lib.hid (HN.out.big (by omega))
                by_cases g7 : 48 ≤ c
                · have i7 : (48 : Int) ≤ (c : Int) := by omega
                  have i8 : ¬ ((c : Int) ≤ 57) := by omega
                  go_wp2_with (go_at_call 100; refine (Hlow.out _).mono ?_; rintro e w' ⟨rfl, rfl⟩)
                  go_ret2
                  exact ⟨.inr ⟨4294967295, 1, by omega, .inl rfl, rfl, HR.out⟩, fin⟩
                · have i7 : ¬ ((48 : Int) ≤ (c : Int)) := by omega
                  go_wp2_with (go_at_call 100; refine (Hlow.out _).mono ?_; rintro e w' ⟨rfl, rfl⟩)
                  go_ret2
                  exact ⟨.inr ⟨4294967295, 1, by omega, .inl rfl, rfl, HR.out⟩, fin⟩
            · have HR := Lib.hid (HNo.out fun x hx hy => g6 (by have := HL.out x hx hy; omega))
              by_cases g7 : 48 ≤ c
              · have i7 : (48 : Int) ≤ (c : Int) := by omega
                have i8 : ¬ ((c : Int) ≤ 57) := by omega
                go_wp2_with (go_at_call 100; refine (Hlow.out _).mono ?_; rintro e w' ⟨rfl, rfl⟩)
                go_ret2
                exact ⟨.inr ⟨0, 2, by omega, .inr rfl, rfl, HR.out⟩, fin⟩
              · have i7 : ¬ ((48 : Int) ≤ (c : Int)) := by omega
                go_wp2_with (go_at_call 100; refine (Hlow.out _).mono ?_; rintro e w' ⟨rfl, rfl⟩)
                go_ret2
                exact ⟨.inr ⟨0, 2, by omega, .inr rfl, rfl, HR.out⟩, fin⟩
          · have HR := Lib.hid (HNo.out fun x hx hy => g4 (HL.out x hx hy).2)
            by_cases g9 : c = 95
            · have := h95 g9
              subst g9 this
              go_wp2_with (go_at_call 100; refine (Hlow.out _).mono ?_; rintro e w' ⟨rfl, rfl⟩)
              go_ret2
              exact ⟨.inr ⟨0, 2, by omega, .inr rfl, rfl, HR.out⟩, fin⟩
            · have i9 : ¬ ((c : Int) = 95) := by omega
              by_cases g10 : 97 ≤ l
              · have i10 : (97 : Int) ≤ (l : Int) := by omega
                have i11 : ¬ (l : Int) ≤ 122 := by omega
                by_cases g7 : 48 ≤ c
                · have i7 : (48 : Int) ≤ (c : Int) := by omega
                  have i8 : ¬ ((c : Int) ≤ 57) := by omega
                  go_wp2_with (go_at_call 100; refine (Hlow.out _).mono ?_; rintro e w' ⟨rfl, rfl⟩)
                  go_ret2
                  exact ⟨.inr ⟨0, 2, by omega, .inr rfl, rfl, HR.out⟩, fin⟩
                · have i7 : ¬ ((48 : Int) ≤ (c : Int)) := by omega
                  go_wp2_with (go_at_call 100; refine (Hlow.out _).mono ?_; rintro e w' ⟨rfl, rfl⟩)
                  go_ret2
                  exact ⟨.inr ⟨0, 2, by omega, .inr rfl, rfl, HR.out⟩, fin⟩
              · have i10 : ¬ (97 : Int) ≤ (l : Int) := by omega
                by_cases g7 : 48 ≤ c
                · have i7 : (48 : Int) ≤ (c : Int) := by omega
                  have i8 : ¬ ((c : Int) ≤ 57) := by omega
                  go_wp2_with (go_at_call 100; refine (Hlow.out _).mono ?_; rintro e w' ⟨rfl, rfl⟩)
                  go_ret2
                  exact ⟨.inr ⟨0, 2, by omega, .inr rfl, rfl, HR.out⟩, fin⟩
                · have i7 : ¬ ((48 : Int) ≤ (c : Int)) := by omega
                  go_wp2_with (go_at_call 100; refine (Hlow.out _).mono ?_; rintro e w' ⟨rfl, rfl⟩)
                  go_ret2
                  exact ⟨.inr ⟨0, 2, by omega, .inr rfl, rfl, HR.out⟩, fin⟩
      · have HN := HA.out
        have hks : k = s.size := by omega
        go_wp2
        go_ret2
        refine ⟨.inl ⟨n, hn, rfl, fun v hv he => ?_⟩, fin⟩
        have h8 : s.size = 8 := by
          have := congrArg List.length he
          rw [digN_length] at this
          simpa using this
        have := HN v hv he
        rw [hks, h8] at this
        simpa using this
end Go.Proofs.YtgajlhejefjhhaaGreatDoor
