/- Contracts of small functions: pick, isLabel, Right of a label, the search for a word that is odd. No condition of ours. -/
import Derived.Test.YtgajlhejefjhhaaGreatDoorBase
namespace Go.Proofs.YtgajlhejefjhhaaGreatDoor
open Go.RowKit

/-- which of n things a raw number speaks of -/
def pk (c : Int) (n : Int) : Int := if c < 0 then (-(c + 1)) % n else c % n

theorem pk_lo (c n : Int) (hn : 0 < n) : 0 ≤ pk c n := by unfold pk; split <;> exact Int.emod_nonneg _ (by omega)
theorem pk_hi (c n : Int) (hn : 0 < n) : pk c n < n := by unfold pk; split <;> exact Int.emod_lt_of_pos _ hn

set_option maxHeartbeats 400000 in
theorem pick_any (c n : Int) (w : World) (hn : 0 < n) (hc1 : -9223372036854775808 ≤ c) (hc2 : c ≤ 9223372036854775807) :
    Calls Tryz.prog 22 #[.int .i64 c, .int .i64 n] w fun e w' => e = .returned (.int .i64 (pk c n)) ∧ w = w' := by
  by_cases h : c < 0
  · have H : Hid ((-(c + 1)).tmod n = pk c n) := by
      show (-(c + 1)).tmod n = pk c n
      rw [pk, if_pos h, Int.tmod_eq_emod_of_nonneg (by omega)]
    go_enter Tryz.func22, Tryz.ntmps22
    go_wp2
    go_ret
    refine ⟨?_, rfl⟩
    rw [← H.out]
    simp [Int.neg_tmod]
  · have H : Hid (c % n = pk c n) := by
      show c % n = pk c n
      rw [pk, if_neg h]
    have h' : 0 ≤ c := by omega
    go_enter Tryz.func22, Tryz.ntmps22
    go_wp2
    go_ret
    exact ⟨ret_int H.out, rfl⟩

set_option maxHeartbeats 400000 in
theorem right1_any (c : Int) (w : World) (_hc1 : -9223372036854775808 ≤ c) (_hc2 : c ≤ 9223372036854775807) :
    Calls Tryz.prog 30 #[.int .i64 c] w fun e w' => e = .returned (.bool (c != c % 4294967296)) ∧ w = w' := by
  go_enter Tryz.func30, Tryz.ntmps30
  go_wp2
  go_ret
  exact ⟨rfl, rfl⟩

def labC (c : UInt8) : Bool := decide (32 < c.toNat) && decide (c.toNat ≤ 126)
def labL (l : List UInt8) : Bool := l.all labC && !l.isEmpty && decide (l.length ≤ 40)

theorem labL_no {s : ByteArray} {k : Nat} (hk : k < s.size) (h : labC s[k] = false) : labL s.data.toList = false := by
  have : s.data.toList.all labC = false := by
    rw [List.all_eq_false]
    exact ⟨s[k], by rw [ByteArray.getElem_eq_getElem_data]; exact Array.mem_toList_iff.2 (Array.getElem_mem _), by simp [h]⟩
  simp [labL, this]
theorem labL_all {s : ByteArray} (h : ∀ j (h : j < s.size), labC s[j] = true) : labL s.data.toList = (!s.toList.isEmpty && decide ((s.size : Int) ≤ 40)) := by
  have : s.data.toList.all labC = true := by
    rw [List.all_eq_true]
    intro x hx
    obtain ⟨j, hj, rfl⟩ := List.getElem_of_mem hx
    exact h j (by simpa using hj)
  have e : s.data.toList.length = s.size := rfl
  simp only [labL, this, Bool.true_and, ByteArray.toList_eq, e]
  congr 1
  simp only [decide_eq_decide]
  omega

set_option maxHeartbeats 400000 in
set_option maxRecDepth 100000 in
theorem isLabel_any (s : ByteArray) (w : World) (hs : s.size ≤ 9223372036854775807) :
    Calls Tryz.prog 77 #[.string s] w fun e w' => e = .returned (.bool (labL s.data.toList)) ∧ Below w.heap.size w w' := by
  obtain ⟨cap, C, fz, hrun, hC⟩ := bytes_of s w
  have fin : Below w.heap.size w (w.alloc (Obj.cells C 5 fz)).drew := ((Below.refl _ w).alloc (Nat.le_refl _) _).drew
  go_enter Tryz.func77, Tryz.ntmps77
  go_wp2
  go_loop [8] (fun i => ∃ k : Nat, k ≤ s.size ∧ i = .int .i64 k ∧ ∀ j (h : j < s.size), j < k → labC s[j] = true) (fun i => s.size - (intOf i).toNat)
  case atStart => exact ⟨0, Nat.zero_le _, rfl, fun _ _ h => absurd h (by omega)⟩
  case round =>
    obtain ⟨k, hk, rfl, hall⟩ := hrel
    have HA := Lib.hid hall
    clear hall
    by_cases hlt : k < s.size
    · have hc := new_cell (w := w) (t := 5) (fz := fz) (hC k hlt)
      have hb := s[k].toNat_lt
      by_cases h1 : s[k].toNat ≤ 32
      · have HF := Lib.hid (labL_no hlt (by simp [labC]; omega))
        go_wp2
        go_ret
        exact ⟨ret_bool HF.out.symm, fin⟩
      · by_cases h2 : 126 < s[k].toNat
        · have HF := Lib.hid (labL_no hlt (by simp [labC]; omega))
          go_wp2
          go_ret
          exact ⟨ret_bool HF.out.symm, fin⟩
        · have HF := Lib.hid (show labC s[k] = true by simp [labC]; omega)
          go_wp2
          go_round
          case rel =>
            refine ⟨k + 1, by omega, by go_num, fun j h hj => ?_⟩
            by_cases e : j < k
            · exact HA.out j h e
            · obtain rfl : j = k := by omega
              exact HF.out
          case measure => simp [intOf]; omega
    · have HF := Lib.hid (labL_all fun j h => HA.out j h (by omega))
      go_wp2
      all_goals
        go_ret
        refine ⟨ret_bool (Eq.trans ?_ HF.out.symm), fin⟩
        first | rfl | simp [*]

set_option maxHeartbeats 400000 in
set_option maxRecDepth 100000 in
theorem labelRight_any (s : ByteArray) (w : World) (hs : s.size ≤ 9223372036854775807) :
    Calls Tryz.prog 55 #[.agg #[.int .i64 2, .int .i64 0, .int .i64 0, .int .i64 0, .int .i64 0, .int .i64 0, .string s, .int .i64 0]] w fun e w' => e = .returned (.bool (labL s.data.toList)) ∧ Below w.heap.size w w' := by
  go_enter Tryz.func55, Tryz.ntmps55
  go_wp2_with (go_at_call 77; refine (isLabel_any s _ hs).mono ?_; rintro e w1 ⟨rfl, hb⟩)
  go_ret
  exact ⟨rfl, bT (bA (bA (bR w))) hb⟩

/-! ### the words of an image -/
def oddW (c : Int) : Bool := c != c % 4294967296
def fIdx (zs : List Int) : Int := if zs.any oddW then (zs.findIdx oddW : Nat) else -1
def Wf (zs : List Int) : Prop := ∀ z ∈ zs, -9223372036854775808 ≤ z ∧ z ≤ 9223372036854775807

theorem fIdx_hit {zs : List Int} {k : Nat} {z : Int} (hz : zs[k]? = some z) (ho : oddW z = true) (hno : ∀ j, j < k → ∀ y, zs[j]? = some y → oddW y = false) : fIdx zs = k := by
  obtain ⟨hk, rfl⟩ := List.getElem?_eq_some_iff.1 hz
  have h1 : zs.any oddW = true := List.any_eq_true.2 ⟨_, List.getElem_mem _, ho⟩
  have h2 : zs.findIdx oddW = k := by
    rw [List.findIdx_eq hk]
    exact ⟨ho, fun j hj => hno j hj _ (List.getElem?_eq_getElem (by omega))⟩
  simp [fIdx, h1, h2]
theorem fIdx_miss {zs : List Int} (hno : ∀ j, j < zs.length → ∀ y, zs[j]? = some y → oddW y = false) : fIdx zs = -1 := by
  have h1 : zs.any oddW = false := by
    rw [List.any_eq_false]
    intro x hx
    obtain ⟨j, hj, rfl⟩ := List.getElem_of_mem hx
    simp [hno j hj _ (List.getElem?_eq_getElem hj)]
  simp [fIdx, h1]
theorem fIdx_any (zs : List Int) : decide (0 ≤ fIdx zs) = zs.any oddW := by
  unfold fIdx
  split
  · simp [*]
  · rename_i h
    simp at h
    simp
    exact h

set_option maxHeartbeats 400000 in
set_option maxRecDepth 100000 in
theorem indexFunc_any (A : Option Addr) (n c : Nat) (zs : List Int) (w : World) (hr : Rd w 1 A n (zs.map (Value.int .i64))) (hn : n ≤ 9223372036854775807) (hw : Wf zs) :
    Calls Tryz.prog 54 #[.slice A n c, .func (.func 30) #[] #[]] w fun e w' => e = .returned (.int .i64 (fIdx zs)) ∧ w = w' := by
  have hlen := hr.int_len
  have HL := Lib.hid hlen
  have HR := Lib.hid hr
  have HW := Lib.hid hw
  clear hlen hr hw
  go_enter Tryz.func54, Tryz.ntmps54
  go_wp2
  go_loop [8] (fun i => ∃ k : Nat, k ≤ n ∧ i = .int .i64 k ∧ ∀ j, j < k → ∀ y, zs[j]? = some y → oddW y = false) (fun i => n - (intOf i).toNat)
  case atStart => exact ⟨0, Nat.zero_le _, rfl, fun _ h => absurd h (by omega)⟩
  case round =>
    obtain ⟨k, hk, rfl, hall⟩ := hrel
    have HA := Lib.hid hall
    clear hall
    by_cases hlt : k < n
    · obtain ⟨b, off, z, rfl, hz, hc⟩ := HR.out.int hlt
      have HZ := Lib.hid hz
      have hb := HW.out z (List.mem_of_getElem? hz)
      obtain ⟨hb1, hb2⟩ := hb
      clear hz
      by_cases ho : oddW z = true
      · have HF := Lib.hid (fIdx_hit HZ.out ho HA.out)
        have ho' : (z != z % 4294967296) = true := ho
        clear ho
        go_wp2_with fail
        refine (right1_any z _ hb1 hb2).mono ?_
        rintro e w1 ⟨rfl, rfl⟩
        go_wp2
        go_ret
        exact ⟨ret_int HF.out.symm, rfl⟩
      · have HO := Lib.hid (by simpa using ho : oddW z = false)
        have ho' : (z != z % 4294967296) = false := HO.out
        clear ho
        go_wp2_with fail
        refine (right1_any z _ hb1 hb2).mono ?_
        rintro e w1 ⟨rfl, rfl⟩
        go_wp2
        go_round
        case rel =>
          refine ⟨k + 1, by omega, by go_num, fun j hj y hy => ?_⟩
          by_cases e : j < k
          · exact HA.out j e y hy
          · obtain rfl : j = k := by omega
            have := HZ.out
            rw [hy] at this
            cases this
            exact HO.out
        case measure => simp [intOf]; omega
    · have HF := Lib.hid (fIdx_miss fun j hj => HA.out j (by have := HL.out; omega))
      go_wp2
      go_ret
      exact ⟨ret_int HF.out.symm, rfl⟩

set_option maxHeartbeats 400000 in
set_option maxRecDepth 100000 in
theorem containsFunc_any (A : Option Addr) (n c : Nat) (zs : List Int) (w : World) (hr : Rd w 1 A n (zs.map (Value.int .i64))) (hn : n ≤ 9223372036854775807) (hw : Wf zs) :
    Calls Tryz.prog 31 #[.slice A n c, .func (.func 30) #[] #[]] w fun e w' => e = .returned (.bool (zs.any oddW)) ∧ w = w' := by
  have HF := Lib.hid (fIdx_any zs)
  go_enter Tryz.func31, Tryz.ntmps31
  go_wp2_with (go_at_call 54; refine (indexFunc_any A n c zs _ hr hn hw).mono ?_; rintro e w1 ⟨rfl, rfl⟩)
  go_ret
  exact ⟨ret_bool HF.out, rfl⟩
end Go.Proofs.YtgajlhejefjhhaaGreatDoor
