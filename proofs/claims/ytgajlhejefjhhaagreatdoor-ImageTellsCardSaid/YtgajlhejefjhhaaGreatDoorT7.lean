/- A contract: the sum of a text. No condition of ours. -/
import Derived.Test.YtgajlhejefjhhaaGreatDoorT6
namespace Go.Proofs.YtgajlhejefjhhaaGreatDoor
open Go.RowKit

theorem take_next {s : ByteArray} {k : Nat} (h : k < s.size) : s.data.toList.take (k + 1) = s.data.toList.take k ++ [s[k]] := by
  rw [List.take_succ_eq_append_getElem (by simpa using h)]
  rfl

set_option maxHeartbeats 400000 in
set_option maxRecDepth 100000 in
theorem sum_any (s : ByteArray) (w : World) (hs : s.size ≤ 9223372036854775807) :
    Calls Tryz.prog 27 #[.string s] w fun e w' => e = .returned (.int .i64 (sumL s.data.toList : Nat)) ∧ Below w.heap.size w w' := by
  obtain ⟨cap, C, fz, hrun, hC⟩ := bytes_of s w
  have fin : Below w.heap.size w (w.alloc (Obj.cells C 5 fz)).drew := bD (bA (bR w))
  go_enter Tryz.func27, Tryz.ntmps27
  go_wp2
  go_loop [3, 4, 10] (fun va vb i => ∃ k a b : Nat, k ≤ s.size ∧ i = .int .i64 k ∧ va = .int .i64 a ∧ vb = .int .i64 b ∧ a < 65521 ∧ b < 65521 ∧ sumP (s.data.toList.take k) = (a, b)) (fun _ _ i => s.size - (intOf i).toNat)
  case atStart => exact ⟨0, 1, 0, Nat.zero_le _, rfl, rfl, rfl, by omega, by omega, rfl⟩
  case round =>
    obtain ⟨k, a, b, hk, rfl, rfl, rfl, ha, hb, hall⟩ := hrel
    have HA := Lib.hid hall
    clear hall
    by_cases hlt : k < s.size
    · have hc := new_cell (w := w) (t := 5) (fz := fz) (hC k hlt)
      have hb8 := s[k].toNat_lt
      have HN := Lib.hid (show sumP (s.data.toList.take (k + 1)) = ((a + s[k].toNat) % 65521, (b + (a + s[k].toNat) % 65521) % 65521) by rw [take_next hlt, sumP_snoc, HA.out]; rfl)
      go_wp2
      go_round
      case rel => exact ⟨k + 1, (a + s[k].toNat) % 65521, (b + (a + s[k].toNat) % 65521) % 65521, by omega, by go_num, by go_num, by go_num, Nat.mod_lt _ (by omega), Nat.mod_lt _ (by omega), HN.out⟩
      case measure => simp [intOf]; omega
    · have HN := Lib.hid (show ((b : Int) * 65536 + (a : Int)) = ((sumL s.data.toList : Nat) : Int) by
        have h := HA.out
        have hk2 : k = s.size := by omega
        rw [hk2, List.take_of_length_le (by simp)] at h
        unfold sumL
        rw [h]
        show ((b : Int) * 65536 + (a : Int)) = ((65536 * b + a : Nat) : Int)
        omega)
      go_wp2
      go_ret
      exact ⟨ret_int HN.out, fin⟩
end Go.Proofs.YtgajlhejefjhhaaGreatDoor
