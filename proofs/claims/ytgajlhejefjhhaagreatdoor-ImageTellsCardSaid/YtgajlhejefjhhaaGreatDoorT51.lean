/- Contracts of the document's own small functions: a label, digits, a value. No condition of ours. -/
import Derived.Test.YtgajlhejefjhhaaGreatDoorT31
import Derived.Deep.QuietTactic
import Derived.BigQuiet
import Derived.Deep.RegionHeld3
import Derived.IntWalk
namespace Go.Proofs.YtgajlhejefjhhaaGreatDoor
open Go.RowKit

theorem labL_all' {l : List UInt8} (h : ∀ j (h : j < l.length), labC l[j] = true) : labL l = (decide (1 ≤ l.length) && decide (l.length ≤ 40)) := by
  have h1 : l.all labC = true := by
    rw [List.all_eq_true]
    intro x hx
    obtain ⟨j, hj, rfl⟩ := List.getElem_of_mem hx
    exact h j hj
  cases l with
  | nil => simp [labL]
  | cons x l => simp [labL, h1]

set_option maxHeartbeats 400000 in
set_option maxRecDepth 100000 in
theorem refLabel_any (s : ByteArray) (w : World) (hs : s.size ≤ 9223372036854775807) :
    Calls Tryz.prog 33 #[.string s] w fun e w' => e = .returned (.bool (labL s.data.toList)) ∧ w = w' := by
  go_enter Tryz.func33, Tryz.ntmps33
  go_wp2
  go_loop [3] (fun i => ∃ k : Nat, k ≤ s.size ∧ i = .int .i64 k ∧ ∀ j (h : j < s.size), j < k → labC s[j] = true) (fun i => s.size - (intOf i).toNat)
  case atStart => exact ⟨0, Nat.zero_le _, rfl, fun _ _ h => absurd h (by omega)⟩
  case round =>
    obtain ⟨k, hk, rfl, hall⟩ := hrel
    have HA := Lib.hid hall
    clear hall
    by_cases hlt : k < s.size
    · have hb := s[k].toNat_lt
      by_cases h1 : s[k].toNat < 33
      · have HF := Lib.hid (labL_no hlt (by simp [labC]; omega))
        go_wp2
        go_ret
        exact ⟨ret_bool HF.out.symm, rfl⟩
      · by_cases h2 : 126 < s[k].toNat
        · have HF := Lib.hid (labL_no hlt (by simp [labC]; omega))
          go_wp2
          go_ret
          exact ⟨ret_bool HF.out.symm, rfl⟩
        · have HF := Lib.hid (show labC s[k] = true by simp [labC]; omega)
          go_wp2
          go_round
          case rel =>
            refine ⟨k + 1, by omega, by go_num, fun j h hj => ?_⟩
            by_cases e : j < k
            · exact HA.out j h e
            · obtain rfl : j = k := by omega
              exact HF.out
          case measure => simp [intOf]; omega
    · have hF := labL_all' (l := s.data.toList) fun j h => HA.out j h (by have : j < s.size := h; omega)
      have hsz : s.data.toList.length = s.size := rfl
      rw [hsz] at hF
      by_cases h1 : 1 ≤ s.size
      · have HT := Lib.hid (show decide ((s.size : Int) ≤ 40) = labL s.data.toList by
          rw [hF]
          simp only [h1, decide_true, Bool.true_and]
          exact decide_eq_decide.2 (by omega))
        clear hF hsz
        go_wp2
        go_ret
        exact ⟨ret_bool HT.out, rfl⟩
      · have HT := Lib.hid (show labL s.data.toList = false by rw [hF]; simp [h1])
        clear hF hsz
        go_wp2
        go_ret
        exact ⟨ret_bool HT.out.symm, rfl⟩

/-! ### a number to a base -/
/-- the digit of a byte to the base 16; none: it is none -/
def hexB (c : UInt8) : Option Nat := if 48 ≤ c.toNat ∧ c.toNat ≤ 57 then some (c.toNat - 48) else if 97 ≤ c.toNat ∧ c.toNat ≤ 102 then some (c.toNat - 87) else none
/-- the digit of a byte to the base 10 -/
def decB (c : UInt8) : Option Nat := if 48 ≤ c.toNat ∧ c.toNat ≤ 57 then some (c.toNat - 48) else none
/-- digits that go on from n; none: they are none, or too many -/
def valF (f : UInt8 → Option Nat) (base : Nat) : Nat → List UInt8 → Option Nat
  | n, [] => some n
  | n, c :: l => match f c with
    | some d => if 1099511627776 < n then none else valF f base (n * base + d) l
    | none => none
def valO (f : UInt8 → Option Nat) (base : Nat) (l : List UInt8) : Int := if l = [] then -1 else match valF f base 0 l with
  | some n => n
  | none => -1

theorem valF_take {f : UInt8 → Option Nat} {base : Nat} : ∀ (l : List UInt8) (n k v : Nat), valF f base n (l.take k) = some v → valF f base n l = valF f base v (l.drop k)
  | [], n, k, v, h => by simp [valF] at h; simp [valF, h]
  | c :: l, n, 0, v, h => by simp [valF] at h; simp [h]
  | c :: l, n, k + 1, v, h => by
    rw [List.take_succ_cons, valF] at h
    rw [List.drop_succ_cons, valF]
    split at h
    · split at h
      · cases h
      · rename_i hn
        rw [if_neg hn]
        exact valF_take l _ k v h
    · cases h
theorem valF_snoc {f : UInt8 → Option Nat} {base : Nat} : ∀ (l : List UInt8) (n v d : Nat) (c : UInt8), valF f base n l = some v → f c = some d → ¬ 1099511627776 < v → valF f base n (l ++ [c]) = some (v * base + d)
  | [], n, v, d, c, h, hc, hv => by
    simp [valF] at h
    subst h
    simp [valF, hc, hv]
  | x :: l, n, v, d, c, h, hc, hv => by
    rw [List.cons_append, valF]
    rw [valF] at h
    split at h
    · split at h
      · cases h
      · rename_i hn
        rw [if_neg hn]
        exact valF_snoc l _ v d c h hc hv
    · cases h

set_option maxHeartbeats 1000000 in
set_option maxRecDepth 100000 in
theorem value16_any (s : ByteArray) (w : World) (hs : s.size ≤ 9223372036854775807) :
    Calls Tryz.prog 46 #[.string s, .int .i64 16] w fun e w' => e = .returned (.int .i64 (valO hexB 16 s.data.toList)) ∧ w = w' := by
  go_enter Tryz.func46, Tryz.ntmps46
  go_wp2_with fail
  go_loop [5, 6] (fun vn i => ∃ k n : Nat, k ≤ s.size ∧ i = .int .i64 k ∧ vn = .int .i64 n ∧ n ≤ 17592186044432 ∧ valF hexB 16 0 (s.data.toList.take k) = some n) (fun _ i => s.size - (intOf i).toNat)
  case atStart => exact ⟨0, 0, Nat.zero_le _, rfl, rfl, by omega, rfl⟩
  case round =>
    obtain ⟨k, n, hk, rfl, rfl, hn, hv⟩ := hrel
    have HV := Lib.hid hv
    clear hv
    by_cases hlt : k < s.size
    · have hb := s[k].toNat_lt
      have HT := Lib.hid (take_next hlt)
      have HD := Lib.hid (show s.data.toList.drop k = s[k] :: s.data.toList.drop (k + 1) by
        rw [List.drop_eq_getElem_cons (by simpa using hlt)]
        rfl)
      have hno : hexB s[k] = none → valO hexB 16 s.data.toList = -1 := fun h => by
        have hne : s.data.toList ≠ [] := fun e => by rw [e] at HD; have := HD.out; simp at this
        rw [valO, if_neg hne, valF_take _ _ _ _ HV.out, HD.out, valF, h]
      have hbig : 1099511627776 < n → valO hexB 16 s.data.toList = -1 := fun h => by
        have hne : s.data.toList ≠ [] := fun e => by rw [e] at HD; have := HD.out; simp at this
        rw [valO, if_neg hne, valF_take _ _ _ _ HV.out, HD.out, valF]
        cases hexB s[k] with
        | none => rfl
        | some d => simp [h]
      have hgo : ∀ d, hexB s[k] = some d → ¬ 1099511627776 < n → valF hexB 16 0 (s.data.toList.take (k + 1)) = some (n * 16 + d) := fun d hd hn => by
        rw [HT.out]
        exact valF_snoc _ _ _ _ _ HV.out hd hn
      have HNo := Lib.hid hno
      have HBig := Lib.hid hbig
      have HGo := Lib.hid hgo
      clear hno hbig hgo
      by_cases h1 : 48 ≤ s[k].toNat ∧ s[k].toNat ≤ 57
      · have HX := Lib.hid (show hexB s[k] = some (s[k].toNat - 48) by rw [hexB, if_pos h1])
        obtain ⟨h1, h2⟩ := h1
        by_cases h3 : 1099511627776 < n
        · have HR := Lib.hid (HBig.out h3)
          go_wp2
          go_ret
          exact ⟨ret_int HR.out.symm, rfl⟩
        · have HR := Lib.hid (HGo.out _ HX.out h3)
          go_wp2
          go_round
          case rel => exact ⟨k + 1, n * 16 + (s[k].toNat - 48), by omega, by go_num, by go_num, by omega, HR.out⟩
          case measure => simp [intOf]; omega
      · by_cases h4 : 97 ≤ s[k].toNat ∧ s[k].toNat ≤ 102
        · have HX := Lib.hid (show hexB s[k] = some (s[k].toNat - 87) by rw [hexB, if_neg h1, if_pos h4])
          obtain ⟨h4, h5⟩ := h4
          clear h1
          by_cases h3 : 1099511627776 < n
          · have HR := Lib.hid (HBig.out h3)
            go_wp2
            go_ret
            exact ⟨ret_int HR.out.symm, rfl⟩
          · have HR := Lib.hid (HGo.out _ HX.out h3)
            go_wp2
            go_round
            case rel => exact ⟨k + 1, n * 16 + (s[k].toNat - 87), by omega, by go_num, by go_num, by omega, HR.out⟩
            case measure => simp [intOf]; omega
        · have HR := Lib.hid (HNo.out (by rw [hexB, if_neg h1, if_neg h4]))
          by_cases h5 : 48 ≤ s[k].toNat
          · have h6 : 57 < s[k].toNat := by omega
            by_cases h7 : 97 ≤ s[k].toNat
            · have h8 : 102 < s[k].toNat := by omega
              clear h1 h4
              go_wp2
              go_ret
              exact ⟨ret_int HR.out.symm, rfl⟩
            · clear h1 h4
              go_wp2
              go_ret
              exact ⟨ret_int HR.out.symm, rfl⟩
          · have h6 : s[k].toNat < 97 := by omega
            clear h1 h4
            go_wp2
            go_ret
            exact ⟨ret_int HR.out.symm, rfl⟩
    · have hall : valF hexB 16 0 s.data.toList = some n := by
        have := HV.out
        rwa [List.take_of_length_le (by show s.size ≤ k; omega)] at this
      by_cases h0 : s.size = 0
      · have hl : s.data.toList = [] := List.eq_nil_of_length_eq_zero h0
        have HR := Lib.hid (show valO hexB 16 s.data.toList = -1 by rw [valO, if_pos hl])
        have he : s.toList.isEmpty = true := by rw [ByteArray.toList_eq, hl]; rfl
        have he2 : s.toList = [] := by rw [ByteArray.toList_eq, hl]
        clear hall hl h0
        go_wp2
        go_ret
        exact ⟨ret_int HR.out.symm, rfl⟩
      · have hl : s.data.toList ≠ [] := fun e => h0 (by have := congrArg List.length e; simpa using this)
        have HR := Lib.hid (show valO hexB 16 s.data.toList = (n : Int) by rw [valO, if_neg hl, hall])
        have he : s.toList.isEmpty = false := by rw [ByteArray.toList_eq]; simpa using hl
        have he2 : ¬ s.toList = [] := by rw [ByteArray.toList_eq]; exact hl
        clear hall hl h0
        go_wp2
        go_ret
        exact ⟨ret_int HR.out.symm, rfl⟩
set_option maxHeartbeats 1000000 in
set_option maxRecDepth 100000 in
theorem value10_any (s : ByteArray) (w : World) (hs : s.size ≤ 9223372036854775807) :
    Calls Tryz.prog 46 #[.string s, .int .i64 10] w fun e w' => e = .returned (.int .i64 (valO decB 10 s.data.toList)) ∧ w = w' := by
  go_enter Tryz.func46, Tryz.ntmps46
  go_wp2_with fail
  go_loop [5, 6] (fun vn i => ∃ k n : Nat, k ≤ s.size ∧ i = .int .i64 k ∧ vn = .int .i64 n ∧ n ≤ 10995116277769 ∧ valF decB 10 0 (s.data.toList.take k) = some n) (fun _ i => s.size - (intOf i).toNat)
  case atStart => exact ⟨0, 0, Nat.zero_le _, rfl, rfl, by omega, rfl⟩
  case round =>
    obtain ⟨k, n, hk, rfl, rfl, hn, hv⟩ := hrel
    have HV := Lib.hid hv
    clear hv
    by_cases hlt : k < s.size
    · have hb := s[k].toNat_lt
      have HT := Lib.hid (take_next hlt)
      have HD := Lib.hid (show s.data.toList.drop k = s[k] :: s.data.toList.drop (k + 1) by
        rw [List.drop_eq_getElem_cons (by simpa using hlt)]
        rfl)
      have hno : decB s[k] = none → valO decB 10 s.data.toList = -1 := fun h => by
        have hne : s.data.toList ≠ [] := fun e => by rw [e] at HD; have := HD.out; simp at this
        rw [valO, if_neg hne, valF_take _ _ _ _ HV.out, HD.out, valF, h]
      have hbig : 1099511627776 < n → valO decB 10 s.data.toList = -1 := fun h => by
        have hne : s.data.toList ≠ [] := fun e => by rw [e] at HD; have := HD.out; simp at this
        rw [valO, if_neg hne, valF_take _ _ _ _ HV.out, HD.out, valF]
        cases decB s[k] with
        | none => rfl
        | some d => simp [h]
      have hgo : ∀ d, decB s[k] = some d → ¬ 1099511627776 < n → valF decB 10 0 (s.data.toList.take (k + 1)) = some (n * 10 + d) := fun d hd hn => by
        rw [HT.out]
        exact valF_snoc _ _ _ _ _ HV.out hd hn
      have HNo := Lib.hid hno
      have HBig := Lib.hid hbig
      have HGo := Lib.hid hgo
      clear hno hbig hgo
      by_cases h1 : 48 ≤ s[k].toNat ∧ s[k].toNat ≤ 57
      · have HX := Lib.hid (show decB s[k] = some (s[k].toNat - 48) by rw [decB, if_pos h1])
        obtain ⟨h1, h2⟩ := h1
        by_cases h3 : 1099511627776 < n
        · have HR := Lib.hid (HBig.out h3)
          go_wp2
          go_ret
          exact ⟨ret_int HR.out.symm, rfl⟩
        · have HR := Lib.hid (HGo.out _ HX.out h3)
          go_wp2
          go_round
          case rel => exact ⟨k + 1, n * 10 + (s[k].toNat - 48), by omega, by go_num, by go_num, by omega, HR.out⟩
          case measure => simp [intOf]; omega
      · have HR := Lib.hid (HNo.out (by rw [decB, if_neg h1]))
        by_cases h5 : 48 ≤ s[k].toNat
        · have h6 : 57 < s[k].toNat := by omega
          by_cases h7 : 97 ≤ s[k].toNat
          · by_cases h8 : s[k].toNat ≤ 102
            · clear h1
              go_wp2
              go_ret
              exact ⟨ret_int HR.out.symm, rfl⟩
            · have h9 : 102 < s[k].toNat := by omega
              clear h1 h8
              go_wp2
              go_ret
              exact ⟨ret_int HR.out.symm, rfl⟩
          · clear h1
            go_wp2
            go_ret
            exact ⟨ret_int HR.out.symm, rfl⟩
        · have h6 : s[k].toNat < 97 := by omega
          clear h1
          go_wp2
          go_ret
          exact ⟨ret_int HR.out.symm, rfl⟩
    · have hall : valF decB 10 0 s.data.toList = some n := by
        have := HV.out
        rwa [List.take_of_length_le (by show s.size ≤ k; omega)] at this
      by_cases h0 : s.size = 0
      · have hl : s.data.toList = [] := List.eq_nil_of_length_eq_zero h0
        have HR := Lib.hid (show valO decB 10 s.data.toList = -1 by rw [valO, if_pos hl])
        have he : s.toList.isEmpty = true := by rw [ByteArray.toList_eq, hl]; rfl
        have he2 : s.toList = [] := by rw [ByteArray.toList_eq, hl]
        clear hall hl h0
        go_wp2
        go_ret
        exact ⟨ret_int HR.out.symm, rfl⟩
      · have hl : s.data.toList ≠ [] := fun e => h0 (by have := congrArg List.length e; simpa using this)
        have HR := Lib.hid (show valO decB 10 s.data.toList = (n : Int) by rw [valO, if_neg hl, hall])
        have he : s.toList.isEmpty = false := by rw [ByteArray.toList_eq]; simpa using hl
        have he2 : ¬ s.toList = [] := by rw [ByteArray.toList_eq]; exact hl
        clear hall hl h0
        go_wp2
        go_ret
        exact ⟨ret_int HR.out.symm, rfl⟩
/-! ### digits -/
theorem digN_snoc : ∀ (k u : Nat), digN (k + 1) u = digN k (u / 16) ++ [hexd (u % 16)]
  | 0, u => by simp [digN]
  | k + 1, u => by
    rw [digN_next, digN_snoc k u]
    show _ = (hexd (u / 16 / 16 ^ k % 16) :: digN k (u / 16)) ++ _
    have : u / 16 ^ (k + 1) = u / 16 / 16 ^ k := by rw [Nat.pow_succ, Nat.mul_comm, Nat.div_div_eq_div_mul]
    rw [this]
    rfl

theorem digit_ext : ∀ d : Fin 16, (str [48, 49, 50, 51, 52, 53, 54, 55, 56, 57, 97, 98, 99, 100, 101, 102]).extract d.1 (d.1 + 1) = str [hexd d.1] := by decide +kernel

set_option maxHeartbeats 1000000 in
set_option maxRecDepth 100000 in
theorem refHex_in : ∀ (k n : Nat) (ni mi : Int) (w : World), ni = (n : Int) → mi = (k : Int) + 1 → n < 16 ^ (k + 1) → k < 8 →
    Calls Tryz.prog 29 #[.int .i64 ni, .int .i64 16, .int .i64 mi] w fun e w' => e = .returned (.string (str (digN (k + 1) n))) ∧ Below w.heap.size w w' := by
  intro k
  induction k with
  | zero =>
    intro n ni mi w hni hmi hn hk
    have hn' : n < 16 := by simpa using hn
    obtain ⟨d, hd⟩ : ∃ d, d = n % 16 := ⟨_, rfl⟩
    have hd16 : d < 16 := by omega
    have hx := digit_ext ⟨d, hd16⟩
    dsimp only at hx
    have hA1 : ni.tmod 16 = (d : Int) := by rw [Int.tmod_eq_emod_of_nonneg (by omega)]; omega
    have hA2 : IntKind.i64.wrap (d : Int) = (d : Int) := IntWalk.i64_in _ (by omega)
    have hA3 : IntKind.i64.wrap ((d : Int) + 1) = (d : Int) + 1 := IntWalk.i64_in _ (by omega)
    have hA4 : ((d : Int) + 1).toNat = d + 1 := by omega
    have hC1 : (0 : Int) ≤ (d : Int) := by omega
    have hC2 : (d : Int) ≤ (d : Int) + 1 := by omega
    have hC3 : (d : Int) + 1 ≤ 16 := by omega
    have hC4 : (0 : Int) ≤ (d : Int) + 1 := by omega
    have HE := Lib.hid (show digN 1 n = [hexd d] by rw [digN_snoc, hd]; rfl)
    have hn1 : ni < 16 := by omega
    have hn2 : 0 ≤ ni := by omega
    obtain rfl : mi = 1 := by simpa using hmi
    clear hd hn hn' hk hni hmi
    go_enter Tryz.func29, Tryz.ntmps29
    go_wp2_with fail
    go_region_held3 (fun _ => True) (trivial) (fail)
    clear hA1 hA2 hA3 hA4 hx
    go_wp2
    go_ret
    exact ⟨by rw [HE.out]; rfl, bD (bR w)⟩
  | succ k ih =>
    intro n ni mi w hni hmi hn hk
    have h256 : n < 16 ^ 8 * 16 := Nat.lt_of_lt_of_le hn (by
      have : (16 : Nat) ^ (k + 1 + 1) ≤ 16 ^ (8 + 1) := Nat.pow_le_pow_right (by omega) (by omega)
      exact this)
    obtain ⟨d, hd⟩ : ∃ d, d = n % 16 := ⟨_, rfl⟩
    have hd16 : d < 16 := by omega
    have hx := digit_ext ⟨d, hd16⟩
    dsimp only at hx
    have hA1 : ni.tmod 16 = (d : Int) := by rw [Int.tmod_eq_emod_of_nonneg (by omega)]; omega
    have hA2 : IntKind.i64.wrap (d : Int) = (d : Int) := IntWalk.i64_in _ (by omega)
    have hA3 : IntKind.i64.wrap ((d : Int) + 1) = (d : Int) + 1 := IntWalk.i64_in _ (by omega)
    have hA4 : ((d : Int) + 1).toNat = d + 1 := by omega
    have hC1 : (0 : Int) ≤ (d : Int) := by omega
    have hC2 : (d : Int) ≤ (d : Int) + 1 := by omega
    have hC3 : (d : Int) + 1 ≤ 16 := by omega
    have hC4 : (0 : Int) ≤ (d : Int) + 1 := by omega
    have hcat := cat_at (x := digN (k + 1) (n / 16)) (y := [hexd d]) (z := digN (k + 1 + 1) n) (by rw [digN_snoc (k + 1) n, hd]) (by rw [digN_length]; omega)
    have HIh := Lib.hid (fun w' => ih (n / 16) (ni / 16) (mi - 1) w' (by omega) (by omega) (by rw [Nat.pow_succ] at hn; exact (Nat.div_lt_iff_lt_mul (by omega)).2 hn) (by omega))
    have hn1 : ni ≤ 68719476736 := by omega
    have hn2 : 0 ≤ ni := by omega
    have hm1 : 1 < mi := by omega
    have hm2 : mi ≤ 100 := by omega
    clear ih hd hn hk hni hmi h256
    go_enter Tryz.func29, Tryz.ntmps29
    go_wp2_with fail
    go_region_held3 (fun _ => True) (trivial) (fail)
    clear hA1 hA2 hA3 hA4 hx
    go_wp2_with (go_at_call 29; refine (HIh.out _).mono ?_; rintro e w1 ⟨rfl, hb1⟩)
    go_ret
    exact ⟨rfl, bT (bD (bR w)) hb1⟩

theorem refHex_any (n : Nat) (w : World) (hn : n < 4294967296) : Calls Tryz.prog 29 #[.int .i64 n, .int .i64 16, .int .i64 8] w fun e w' => e = .returned (.string (str (digN 8 n))) ∧ Below w.heap.size w w' :=
  refHex_in 7 n n 8 w rfl rfl (by omega) (by omega)

theorem decDigits_len : ∀ (k n : Nat), n < 10 ^ (k + 1) → (Lib.decDigits n).length ≤ k + 1
  | 0, n, h => by rw [Lib.decDigits, dif_pos (by simpa using h)]; simp
  | k + 1, n, h => by
    rw [Lib.decDigits]
    split
    · simp
    · have := decDigits_len k (n / 10) (by rw [Nat.pow_succ] at h; exact (Nat.div_lt_iff_lt_mul (by omega)).2 h)
      simp
      omega
theorem dec_ext : ∀ d : Fin 10, (str [48, 49, 50, 51, 52, 53, 54, 55, 56, 57, 97, 98, 99, 100, 101, 102]).extract d.1 (d.1 + 1) = str [UInt8.ofNat (48 + d.1)] := by decide +kernel

set_option maxHeartbeats 1000000 in
set_option maxRecDepth 100000 in
theorem refDec_in : ∀ (k n : Nat) (ni mi : Int) (w : World), n < 10 ^ (k + 1) → k < 9 → ni = (n : Int) → mi ≤ 1 → -1000 ≤ mi - k →
    Calls Tryz.prog 29 #[.int .i64 ni, .int .i64 10, .int .i64 mi] w fun e w' => e = .returned (.string (str (Lib.decDigits n))) ∧ Below w.heap.size w w' := by
  intro k
  induction k with
  | zero =>
    intro n ni mi w hn hk hni hmi hmk
    have hn' : n < 10 := by simpa using hn
    obtain ⟨d, hd⟩ : ∃ d, d = n := ⟨_, rfl⟩
    have hd16 : d < 10 := by omega
    have hx := dec_ext ⟨d, hd16⟩
    dsimp only at hx
    obtain ⟨ch, hch⟩ : ∃ ch, ch = UInt8.ofNat (48 + d) := ⟨_, rfl⟩
    rw [← hch] at hx
    have hA1 : ni.tmod 10 = (d : Int) := by rw [Int.tmod_eq_emod_of_nonneg (by omega)]; omega
    have hA2 : IntKind.i64.wrap (d : Int) = (d : Int) := IntWalk.i64_in _ (by omega)
    have hA3 : IntKind.i64.wrap ((d : Int) + 1) = (d : Int) + 1 := IntWalk.i64_in _ (by omega)
    have hA4 : ((d : Int) + 1).toNat = d + 1 := by omega
    have hC1 : (0 : Int) ≤ (d : Int) := by omega
    have hC2 : (d : Int) ≤ (d : Int) + 1 := by omega
    have hC3 : (d : Int) + 1 ≤ 16 := by omega
    have hC4 : (0 : Int) ≤ (d : Int) + 1 := by omega
    have HE := Lib.hid (show Lib.decDigits n = [ch] by rw [Lib.decDigits, dif_pos hn', hch, hd])
    have hn1 : ni < 10 := by omega
    have hn2 : 0 ≤ ni := by omega
    have hm3 : ¬ 1 < mi := by omega
    clear hch hd hn hn' hk hni hmi hmk
    go_enter Tryz.func29, Tryz.ntmps29
    go_wp2_with fail
    go_region_held3 (fun _ => True) (trivial) (fail)
    clear hA1 hA2 hA3 hA4 hx
    go_wp2
    go_ret
    exact ⟨by rw [HE.out]; rfl, bD (bR w)⟩
  | succ k ih =>
    intro n ni mi w hn hk hni hmi hmk
    obtain ⟨d, hd⟩ : ∃ d, d = n % 10 := ⟨_, rfl⟩
    have hd16 : d < 10 := by omega
    have hx := dec_ext ⟨d, hd16⟩
    dsimp only at hx
    obtain ⟨ch, hch⟩ : ∃ ch, ch = UInt8.ofNat (48 + d) := ⟨_, rfl⟩
    rw [← hch] at hx
    have hA1 : ni.tmod 10 = (d : Int) := by rw [Int.tmod_eq_emod_of_nonneg (by omega)]; omega
    have hA2 : IntKind.i64.wrap (d : Int) = (d : Int) := IntWalk.i64_in _ (by omega)
    have hA3 : IntKind.i64.wrap ((d : Int) + 1) = (d : Int) + 1 := IntWalk.i64_in _ (by omega)
    have hA4 : ((d : Int) + 1).toNat = d + 1 := by omega
    have hC1 : (0 : Int) ≤ (d : Int) := by omega
    have hC2 : (d : Int) ≤ (d : Int) + 1 := by omega
    have hC3 : (d : Int) + 1 ≤ 16 := by omega
    have hC4 : (0 : Int) ≤ (d : Int) + 1 := by omega
    have hbig : n < 10 ^ 10 := Nat.lt_of_lt_of_le hn (Nat.pow_le_pow_right (by omega) (by omega))
    have hn2 : 0 ≤ ni := by omega
    have hn3 : ni ≤ 10000000000 := by omega
    have hm3 : ¬ 1 < mi := by omega
    have hm4 : -2000 ≤ mi := by omega
    by_cases h10 : n < 10
    · have HE := Lib.hid (show Lib.decDigits n = [ch] by rw [Lib.decDigits, dif_pos h10, hch, hd, Nat.mod_eq_of_lt h10])
      have hn1 : ni < 10 := by omega
      clear ih hch hd hn hk hni hmi hmk hbig h10
      go_enter Tryz.func29, Tryz.ntmps29
      go_wp2_with fail
      go_region_held3 (fun _ => True) (trivial) (fail)
      clear hA1 hA2 hA3 hA4 hx
      go_wp2
      go_ret
      exact ⟨by rw [HE.out]; rfl, bD (bR w)⟩
    · have hn1 : 10 ≤ ni := by omega
      have hE : Lib.decDigits n = Lib.decDigits (n / 10) ++ [ch] := by rw [Lib.decDigits, dif_neg h10, hch, hd]
      have hl := decDigits_len (k + 1) n hn
      have hcat := cat_at (x := Lib.decDigits (n / 10)) (y := [ch]) (z := Lib.decDigits n) hE (by omega)
      have HIh := Lib.hid (fun w' => ih (n / 10) (ni / 10) (mi - 1) w' (by rw [Nat.pow_succ] at hn; exact (Nat.div_lt_iff_lt_mul (by omega)).2 hn) (by omega) (by omega) (by omega) (by omega))
      clear ih hch hd hn hk hni hmi hmk hbig h10 hE hl
      go_enter Tryz.func29, Tryz.ntmps29
      go_wp2_with fail
      go_region_held3 (fun _ => True) (trivial) (fail)
      clear hA1 hA2 hA3 hA4 hx
      go_wp2_with (go_at_call 29; refine (HIh.out _).mono ?_; rintro e w1 ⟨rfl, hb1⟩)
      go_ret
      exact ⟨rfl, bT (bD (bR w)) hb1⟩

theorem refDec_any (n : Int) (w : World) (h0 : 0 ≤ n) (h1 : n ≤ 4096) : Calls Tryz.prog 29 #[.int .i64 n, .int .i64 10, .int .i64 1] w fun e w' => e = .returned (.string (str (Lib.itoa n))) ∧ Below w.heap.size w w' := by
  have : Lib.itoa n = Lib.decDigits n.toNat := by rw [Lib.itoa, if_neg (by omega)]
  rw [this]
  exact refDec_in 3 n.toNat n 1 w (by omega) (by omega) (by omega) (by omega) (by omega)
end Go.Proofs.YtgajlhejefjhhaaGreatDoor
