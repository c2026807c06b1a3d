/- Words for the digits of a number. No condition of ours. -/
import Derived.Test.YtgajlhejefjhhaaGreatDoorT4
import Derived.Test.YtgajlhejefjhhaaGreatDoorPlain
import Derived.Laws.BitsAllLaws
import Derived.Laws.BitsLemmas
namespace Go.Proofs.YtgajlhejefjhhaaGreatDoor
open Go.RowKit

set_option maxHeartbeats 400000 in
theorem pow2_16 (w : World) : Calls Tryz.prog 116 #[.int .i64 16] w fun e w' => e = .returned (.bool true) ∧ w = w' := by
  go_enter Tryz.func116, Tryz.ntmps116
  go_wp2
  go_ret
  exact ⟨rfl, rfl⟩

theorem deb_16 : IntKind.u64.wrap (bits BinOp.and IntKind.u64 16 (IntKind.u64.wrap (-16)) * 285870213051353865) / 288230376151711744 = 15 := by decide +kernel

set_option maxHeartbeats 400000 in
set_option maxRecDepth 100000 in
theorem trail64_16 (w : World) (hc : w.cell? ⟨5, 15, none⟩ = some (.int .u8 4)) : Calls Tryz.prog 126 #[.int .u64 16] w fun e w' => e = .returned (.int .i64 4) ∧ w = w' := by
  have hd := deb_16
  go_enter Tryz.func126, Tryz.ntmps126
  go_wp2
  go_ret
  exact ⟨rfl, rfl⟩

set_option maxHeartbeats 400000 in
theorem trail_16 (w : World) (hc : w.cell? ⟨5, 15, none⟩ = some (.int .u8 4)) : Calls Tryz.prog 117 #[.int .u64 16] w fun e w' => e = .returned (.int .i64 4) ∧ w = w' := by
  go_enter Tryz.func117, Tryz.ntmps117
  go_wp2_with (go_at_call 126; refine (trail64_16 _ hc).mono ?_; rintro e w' ⟨rfl, rfl⟩)
  go_ret
  exact ⟨rfl, rfl⟩

/-- what formatBits tells at the base 16 -/
def HexBits (u : Nat) (w : World) (e : Ending) (w' : World) : Prop :=
  ∃ k, k ≤ 7 ∧ u < 16 ^ (k + 1) ∧ e = .returned (.tuple #[.slice none 0 0, .string (str (digN (k + 1) u))]) ∧ Below w.heap.size w w'

def byteVals (l : List UInt8) : List Value := l.map fun b => .int .u8 (b.toNat : Int)

theorem digit_all : ∀ d : Fin 16, (#[48, 49, 50, 51, 52, 53, 54, 55, 56, 57, 97, 98, 99, 100, 101, 102, 103, 104, 105, 106, 107, 108, 109, 110, 111, 112, 113, 114, 115, 116, 117, 118, 119, 120, 121, 122] : Array UInt8)[d.1]'(by have := d.2; simp; omega) = hexd d.1 := by decide
theorem digit_at (d : Nat) (hd : d < 16) (h : d < (⟨#[48, 49, 50, 51, 52, 53, 54, 55, 56, 57, 97, 98, 99, 100, 101, 102, 103, 104, 105, 106, 107, 108, 109, 110, 111, 112, 113, 114, 115, 116, 117, 118, 119, 120, 121, 122]⟩ : ByteArray).size) :
    (⟨#[48, 49, 50, 51, 52, 53, 54, 55, 56, 57, 97, 98, 99, 100, 101, 102, 103, 104, 105, 106, 107, 108, 109, 110, 111, 112, 113, 114, 115, 116, 117, 118, 119, 120, 121, 122]⟩ : ByteArray)[d] = hexd d :=
  digit_all ⟨d, hd⟩

theorem drop_set {C : Array Value} {k : Nat} {l : List Value} {x : Value} (hs : C.size = 65) (hk : k + 1 ≤ 65) (hd : C.toList.drop (65 - k) = l) : (C.setIfInBounds (65 - k - 1) x).toList.drop (65 - (k + 1)) = x :: l := by
  have e : 65 - (k + 1) = 65 - k - 1 := by omega
  have e2 : 65 - k = (65 - k - 1) + 1 := by omega
  have hlt : 65 - k - 1 < (C.toList.set (65 - k - 1) x).length := by rw [List.length_set, Array.length_toList]; omega
  rw [e, Array.toList_setIfInBounds, List.drop_eq_getElem_cons hlt, List.getElem_set_self, List.drop_set_of_lt (by omega), ← e2, hd]

set_option maxHeartbeats 400000 in
set_option maxRecDepth 100000 in
theorem formatBits_16 (u : Nat) (w : World) (hu : u < 4294967296) (hc : w.cell? ⟨5, 15, none⟩ = some (.int .u8 4)) :
    Calls Tryz.prog 94 #[.slice none 0 0, .int .u64 u, .int .i64 16, .bool false, .bool false] w (HexBits u w) := by
  have hcl := cell_lt hc
  go_enter Tryz.func94, Tryz.ntmps94
  go_wp2_with fail
  refine (pow2_16 _).mono ?_
  rintro e w' ⟨rfl, rfl⟩
  go_wp2_with fail
  refine (trail_16 _ ((World.cell?_alloc_lt _ _ _ hcl).trans hc)).mono ?_
  rintro e w' ⟨rfl, rfl⟩
  go_wp2
  go_loopw [1, 13] (fun s i wr => ∃ (k : Nat) (C : Array Value), k ≤ 7 ∧ u < 16 ^ 8 ∧ s = .int .u64 ((u / 16 ^ k : Nat) : Int) ∧ i = .int .i64 ((65 - k : Nat) : Int) ∧ wr = w.alloc (.cells C 145) ∧ C.size = 65 ∧ C.toList.drop (65 - k) = byteVals (digN k u)) (fun s _ _ => (intOf s).toNat)
  case atStart => exact ⟨0, Tryz.zeroCells145, by omega, by omega, by simp, rfl, rfl, rfl, by rw [List.drop_of_length_le (by decide)]; rfl⟩
  case round =>
    obtain ⟨k, C, hk, hu8, rfl, rfl, rfl, hC, hd⟩ := hrel
    have HD := Lib.hid hd
    have HS := Lib.hid hC
    clear hd hC
    have ei : ((65 - k : Nat) : Int) = 65 - (k : Int) := by omega
    generalize hv : u / 16 ^ k = v at *
    have HV := Lib.hid hv
    have hvlt : v < 4294967296 := by rw [← hv]; exact Nat.lt_of_le_of_lt (Nat.div_le_self _ _) hu
    clear hv
    by_cases h16 : 16 ≤ v
    · have hand : bits BinOp.and IntKind.u64 (v : Int) 15 = ((v % 16 : Nat) : Int) := by
        have h := bits_and_u64_nat v 15 (by omega) (by omega)
        rw [show v &&& 15 = v % 16 from Nat.and_two_pow_sub_one_eq_mod v 4] at h
        exact h
      have hk7 : k + 1 ≤ 7 := dig_more hu8 (by rw [HV.out]; exact h16)
      obtain ⟨x, hx⟩ : ∃ x, C[65 - k - 1]? = some x := ⟨C[65 - k - 1]'(by have := HS.out; omega), Array.getElem?_eq_getElem _⟩
      go_wp2
      go_roundw
      case rel =>
        refine ⟨k + 1, _, hk7, hu8, ?_, ?_, rfl, ?_, ?_⟩
        · rw [div_step, HV.out]; go_num
        · congr 1; omega
        · rw [Array.size_setIfInBounds]; exact HS.out
        · rw [drop_set HS.out (by omega) HD.out, digN_next, HV.out]
          rw [digit_at _ (Nat.mod_lt _ (by omega))]
          rfl
      case measure => simp [intOf]; omega
    · obtain ⟨x, hx⟩ : ∃ x, C[65 - k - 1]? = some x := ⟨C[65 - k - 1]'(by have := HS.out; omega), Array.getElem?_eq_getElem _⟩
      have hlast : u < 16 ^ (k + 1) := dig_last (by rw [HV.out]; omega)
      have HLast := Lib.hid hlast
      clear hlast hu8
      have hsl : ∀ W, (Instr.sliceAt 145 (.pointer (some ⟨w.heap.size, 0, none⟩)) (some (.int .i64 (65 - (k : Int) - 1))) none none).run Tryz.prog W = .ok (.slice (some ⟨w.heap.size, 65 - k - 1, none⟩) (k + 1) (k + 1)) W := fun W => by
        have hal : Tryz.prog.arrayLen 145 = 65 := by kernel_rfl
        rw [run_sliceAt_array_l W 145 ⟨w.heap.size, 0, none⟩ (by kernel_rfl) .i64 (65 - (k : Int) - 1) (by omega) (by rw [hal]; omega), hal]
        go_simp
        omega
      have hcv : (convert 41 9 (.slice (some ⟨w.heap.size, 65 - k - 1, none⟩) (k + 1) (k + 1))).run Tryz.prog (w.alloc (.cells (C.setIfInBounds (65 - k - 1) (.int .u8 ((hexd v).toNat : Int))) 145)) =
          .ok (.string (str (digN (k + 1) u))) (w.alloc (.cells (C.setIfInBounds (65 - k - 1) (.int .u8 ((hexd v).toNat : Int))) 145)) := by
        have hdr := drop_set (x := .int .u8 ((hexd v).toNat : Int)) HS.out (by omega) HD.out
        have hdr2 : (C.setIfInBounds (65 - k - 1) (.int .u8 ((hexd v).toNat : Int))).toList.drop (65 - k - 1) = byteVals (digN (k + 1) u) := by
          rw [show 65 - k - 1 = 65 - (k + 1) by omega] at hdr ⊢
          rw [hdr, digN_next, HV.out, Nat.mod_eq_of_lt (by omega)]
          rfl
        have h := run_convert_bytes_back (P := Tryz.prog) (w.alloc (.cells (C.setIfInBounds (65 - k - 1) (.int .u8 ((hexd v).toNat : Int))) 145)) 41 9 5 ⟨w.heap.size, 65 - k - 1, none⟩ (k + 1) (digN (k + 1) u) Tryz.underlying41 Tryz.underlying5 Tryz.underlying9 (fun j hj => by
          rw [Lib.add_plain]
          refine new_cell (fz := (0, 0)) ?_
          have h2 : ((C.setIfInBounds (65 - k - 1) (.int .u8 ((hexd v).toNat : Int))).toList.drop (65 - k - 1))[j]? = (byteVals (digN (k + 1) u))[j]? := by rw [hdr2]
          rw [List.getElem?_drop, Array.getElem?_toList] at h2
          rw [h2, byteVals, List.getElem?_map, List.getElem?_eq_getElem hj]
          rfl)
        rw [digN_length] at h
        exact h
      go_wp2
      rw [digit_at v (by omega), hcv]
      go_wp2
      go_ret2
      exact ⟨k, hk, HLast.out, rfl, bA (bR w)⟩
end Go.Proofs.YtgajlhejefjhhaaGreatDoor
