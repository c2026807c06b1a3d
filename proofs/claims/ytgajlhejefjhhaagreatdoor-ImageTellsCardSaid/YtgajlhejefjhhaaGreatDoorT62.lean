/- What the program and the document tell of any image, one contract for each. No condition of ours. -/
import Derived.Test.YtgajlhejefjhhaaGreatDoorT60
namespace Go.Proofs.YtgajlhejefjhhaaGreatDoor
open Go.RowKit

/-- what Print tells -/
noncomputable def Img.outL (m : Img) : List UInt8 := if m.right = true then m.print else []
noncomputable def Img.outE (m : Img) : Int := if m.right = true then 0 else 1
/-- what Sum tells -/
noncomputable def Img.outS (m : Img) : Int := if m.right = true then (sumL m.head : Nat) else 0

theorem outL_yes {m : Img} (h : m.right = true) : m.outL = m.print ∧ m.outE = 0 ∧ m.outS = (sumL m.head : Nat) := by simp [Img.outL, Img.outE, Img.outS, h]
theorem outL_no {m : Img} (h : m.right = false) : m.outL = [] ∧ m.outE = 1 ∧ m.outS = 0 := by simp [Img.outL, Img.outE, Img.outS, h]

section
variable (A1 : Option Addr) (n1 c1 : Nat) (A2 : Option Addr) (n2 c2 : Nat) (m : Img) (w : World)
theorem print_told (h : IsImg w A1 n1 A2 n2 m) (hG : Glob w) (hc1 : n1 ≤ c1) :
    Calls Tryz.prog 12 #[.agg #[.slice A1 n1 c1, .int .i64 m.mem, .slice A2 n2 c2]] w fun e w' => e = .returned (.tuple #[.string (str m.outL), .int .i64 m.outE]) ∧ Below w.heap.size w w' := by
  cases hr : m.right
  · rw [(outL_no hr).1, (outL_no hr).2.1]
    exact print_no A1 n1 c1 A2 n2 c2 m w h hr
  · rw [(outL_yes hr).1, (outL_yes hr).2.1]
    exact print_yes A1 n1 c1 A2 n2 c2 m w h hr hG hc1
theorem refPrint_told (h : IsImg w A1 n1 A2 n2 m) :
    Calls Tryz.prog 13 #[.agg #[.slice A1 n1 c1, .int .i64 m.mem, .slice A2 n2 c2]] w fun e w' => e = .returned (.tuple #[.string (str m.outL), .int .i64 m.outE]) ∧ Below w.heap.size w w' := by
  cases hr : m.right
  · rw [(outL_no hr).1, (outL_no hr).2.1]
    exact refPrint_no A1 n1 c1 A2 n2 c2 m w h hr
  · rw [(outL_yes hr).1, (outL_yes hr).2.1]
    exact refPrint_yes A1 n1 c1 A2 n2 c2 m w h hr
theorem sum_told (h : IsImg w A1 n1 A2 n2 m) (hG : Glob w) (hc1 : n1 ≤ c1) :
    Calls Tryz.prog 16 #[.agg #[.slice A1 n1 c1, .int .i64 m.mem, .slice A2 n2 c2]] w fun e w' => e = .returned (.int .i64 m.outS) ∧ Below w.heap.size w w' := by
  cases hr : m.right
  · rw [(outL_no hr).2.2]
    exact sumOf_no A1 n1 c1 A2 n2 c2 m w h hr
  · rw [(outL_yes hr).2.2]
    exact sumOf_yes A1 n1 c1 A2 n2 c2 m w h hr hG hc1
theorem refSum_told (h : IsImg w A1 n1 A2 n2 m) :
    Calls Tryz.prog 17 #[.agg #[.slice A1 n1 c1, .int .i64 m.mem, .slice A2 n2 c2]] w fun e w' => e = .returned (.int .i64 m.outS) ∧ Below w.heap.size w w' := by
  cases hr : m.right
  · rw [(outL_no hr).2.2]
    exact refSum_no A1 n1 c1 A2 n2 c2 m w h hr
  · rw [(outL_yes hr).2.2]
    exact refSum_yes A1 n1 c1 A2 n2 c2 m w h hr
end

end Go.Proofs.YtgajlhejefjhhaaGreatDoor
