/- Plain facts of the example. No condition of ours. -/
import Derived.Test.YtgajlhejefjhhaaGreatDoorT24
namespace Go.Proofs.YtgajlhejefjhhaaGreatDoor
open Go.RowKit

/-! ### chapter 4's example -/
abbrev zeroI : Img := ⟨[], 0, []⟩
abbrev oneI : Img := ⟨[19], 3, [([97], 4)]⟩

theorem zero_right : zeroI.right = true := by decide +kernel
theorem one_right : oneI.right = true := by decide +kernel
theorem itoa_digit {k : Nat} (h : k < 10) : Lib.itoa (k : Int) = [UInt8.ofNat (48 + k)] := by rw [Lib.itoa_nonneg, Lib.decDigits, dif_pos h]
theorem zero_head : zeroI.head = [105, 109, 97, 103, 101, 32, 48, 10, 99, 111, 100, 101, 10] := by
  have : Lib.itoa 0 = [48] := itoa_digit (k := 0) (by omega)
  simp [Img.head, headOf, this, pieces]
theorem one_head : oneI.head = [105, 109, 97, 103, 101, 32, 51, 10, 48, 48, 48, 48, 48, 48, 48, 52, 32, 97, 10, 99, 111, 100, 101, 10, 48, 48, 48, 48, 48, 48, 49, 51, 10] := by
  have : Lib.itoa 3 = [51] := itoa_digit (k := 3) (by omega)
  have h4 : digN 8 4 = [48, 48, 48, 48, 48, 48, 48, 52] := by decide +kernel
  have h19 : digN 8 19 = [48, 48, 48, 48, 48, 48, 49, 51] := by decide +kernel
  simp [Img.head, headOf, this, pieces, pieceAt, symLine, wordLine, h4, h19, Lib.join_one]
theorem one_sum : 0 < sumL oneI.head := by rw [one_head]; decide +kernel
theorem zero_print : zeroI.print.length = 26 ∧ zeroI.print.take 17 = [105, 109, 97, 103, 101, 32, 48, 10, 99, 111, 100, 101, 10, 115, 117, 109, 32] := by
  rw [Img.print, zero_head]
  refine ⟨by simp [digN_length], by simp⟩
theorem one_find_a : oneI.find [97] = 4 := by
  rw [Img.find, if_pos one_right]
  rfl
theorem one_find_b : oneI.find [98] = -1 := by
  rw [Img.find, if_pos one_right]
  rfl

theorem text_sum : parseR [105, 109, 97, 103, 101, 32, 48, 10, 99, 111, 100, 101, 10, 115, 117, 109, 32, 48, 48, 48, 48, 48, 48, 48, 48, 10] = some none := by
  have e : ([105, 109, 97, 103, 101, 32, 48, 10, 99, 111, 100, 101, 10, 115, 117, 109, 32, 48, 48, 48, 48, 48, 48, 48, 48, 10] : List UInt8).take 13 = zeroI.head := by rw [zero_head]; rfl
  have h0 : hexO [48, 48, 48, 48, 48, 48, 48, 48] = some 0 := by
    have : ([48, 48, 48, 48, 48, 48, 48, 48] : List UInt8) = digN 8 0 := by decide +kernel
    rw [this]
    exact hexO_digN (by omega)
  have hs : ¬ 0 = sumL zeroI.head := by rw [zero_head]; decide +kernel
  unfold parseR
  have ha : atL [105, 109, 97, 103, 101, 32, 48, 10, 99, 111, 100, 101, 10, 115, 117, 109, 32, 48, 48, 48, 48, 48, 48, 48, 48, 10] = 13 := rfl
  have ht : toldL [105, 109, 97, 103, 101, 32, 48, 10, 99, 111, 100, 101, 10, 115, 117, 109, 32, 48, 48, 48, 48, 48, 48, 48, 48, 10] = [48, 48, 48, 48, 48, 48, 48, 48] ++ [10] := by decide +kernel
  rw [ha, e, ht, trim_snoc, h0, parse_head zero_right, if_pos (by decide +kernel)]
  exact if_neg hs

theorem text_form : parseR [105, 109, 97, 103, 101, 32, 48, 10, 99, 111, 100, 101, 10] = none := by
  unfold parseR
  rw [if_neg (by decide +kernel)]
end Go.Proofs.YtgajlhejefjhhaaGreatDoor
