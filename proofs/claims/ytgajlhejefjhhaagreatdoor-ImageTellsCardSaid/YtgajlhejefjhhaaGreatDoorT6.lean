/- A contract: the eight digits of a number. No condition of ours. -/
import Derived.Test.YtgajlhejefjhhaaGreatDoorT5
namespace Go.Proofs.YtgajlhejefjhhaaGreatDoor
open Go.RowKit

/-- two strings, one behind the other -/
theorem cat_run (x y : List UInt8) (h : x.length + y.length ≤ 9223372036854775807) (w : World) : (Op.stringOp .add (str x) (str y)).run Tryz.prog w = .ok (.string (str (x ++ y))) w := by
  rw [run_string_add_sum w (str x) (str y) h]
  exact congrArg (fun s => Result.ok (Value.string s) w) (ByteArray.mk_append_mk _ _)

theorem repeatL_one (b : UInt8) : ∀ c, Lib.repeatL [b] c = List.replicate c b
  | 0 => rfl
  | c + 1 => by rw [Lib.repeatL, repeatL_one b c]; rfl

def HexStr (u : Nat) (w : World) (e : Ending) (w' : World) : Prop :=
  ∃ k, k ≤ 7 ∧ u < 16 ^ (k + 1) ∧ e = .returned (.string (str (digN (k + 1) u))) ∧ Below w.heap.size w w'

set_option maxHeartbeats 400000 in
set_option maxRecDepth 100000 in
theorem innerFormatInt_16 (u : Nat) (w : World) (hu : u < 4294967296) (hc : w.cell? ⟨5, 15, none⟩ = some (.int .u8 4)) :
    Calls Tryz.prog 72 #[.int .i64 u, .int .i64 16] w (HexStr u w) := by
  go_enter Tryz.func72, Tryz.ntmps72
  go_wp2_with fail
  refine (formatBits_16 u _ hu hc).mono ?_
  rintro e w1 ⟨k, hk, hlt, rfl, hb⟩
  have H := Lib.hid hlt
  clear hlt
  go_wp2
  go_ret
  exact ⟨k, hk, H.out, rfl, hb⟩

set_option maxHeartbeats 400000 in
set_option maxRecDepth 100000 in
theorem formatInt_16 (u : Nat) (w : World) (hu : u < 4294967296) (hc : w.cell? ⟨5, 15, none⟩ = some (.int .u8 4)) :
    Calls Tryz.prog 52 #[.int .i64 u, .int .i64 16] w (HexStr u w) := by
  go_enter Tryz.func52, Tryz.ntmps52
  go_wp2_with fail
  refine (innerFormatInt_16 u _ hu hc).mono ?_
  rintro e w1 ⟨k, hk, hlt, rfl, hb⟩
  have H := Lib.hid hlt
  clear hlt
  go_wp2
  go_ret
  exact ⟨k, hk, H.out, rfl, hb⟩

set_option maxHeartbeats 400000 in
set_option maxRecDepth 100000 in
theorem digits_any (u : Nat) (w : World) (hu : u < 4294967296) (hc : w.cell? ⟨5, 15, none⟩ = some (.int .u8 4)) :
    Calls Tryz.prog 26 #[.int .i64 u] w fun e w' => e = .returned (.string (str (digN 8 u))) ∧ Below w.heap.size w w' := by
  go_enter Tryz.func26, Tryz.ntmps26
  go_wp2_with fail
  refine (formatInt_16 u _ hu hc).mono ?_
  rintro e w1 ⟨k, hk, hlt, rfl, hb⟩
  have H := Lib.hid hlt
  clear hlt
  have hsz : (((digN (k + 1) u).length : Nat) : Int) = (k : Int) + 1 := by
    rw [digN_length]
    omega
  have hmx : max (0 : Int) (8 - ((k : Int) + 1)) = ((7 - k : Nat) : Int) := by omega
  have hrep := Tryz.strings_Repeat (str [48]) (7 - k) w1 (by omega) (by show 1 * (7 - k) ≤ _; omega)
  have HREP := Lib.hid hrep
  clear hrep
  have hl : (Lib.repeatL [48] (7 - k)).length + (digN (k + 1) u).length = 8 := by rw [repeatL_one, List.length_replicate, digN_length]; omega
  have hfin : Lib.repeatL [48] (7 - k) ++ digN (k + 1) u = digN 8 u := by
    rw [repeatL_one, digN_pad _ _ _ H.out]
    congr 1
    omega
  have hcat := fun w => cat_run (Lib.repeatL [48] (7 - k)) (digN (k + 1) u) (by omega) w
  have HFin := Lib.hid hfin
  clear hl hfin
  go_wp2_with fail
  refine HREP.out.mono ?_
  rintro e w2 ⟨rfl, hb2⟩
  go_wp2
  go_ret
  exact ⟨ret_str (by rw [HFin.out]), bT hb hb2⟩
end Go.Proofs.YtgajlhejefjhhaaGreatDoor
