/- What the listed variables give the walks. No condition of ours. -/
import Derived.Test.YtgajlhejefjhhaaGreatDoorT40
import Derived.Stop.LaidErr
namespace Go.Proofs.YtgajlhejefjhhaaGreatDoor
open Go.ChangeShapes Go.WideShapes Go.ChangeAt Go.RowKit

/-! ### what the row's list gives the walks -/
theorem g1 : Tryz.prog.globalNamed "internal/strconv.uint64pow10" = some 1 := by kernel_rfl
theorem g2 : Tryz.prog.globalNamed "strconv.ErrSyntax" = some 2 := by kernel_rfl
theorem g3 : Tryz.prog.globalNamed "strconv.ErrRange" = some 3 := by kernel_rfl
theorem g5 : Tryz.prog.globalNamed "math/bits.deBruijn64tab" = some 5 := by kernel_rfl
theorem gt1 : (Tryz.prog.globals[1]?).map (·.type) = some 144 := by kernel_rfl
theorem gt2 : (Tryz.prog.globals[2]?).map (·.type) = some 76 := by kernel_rfl
theorem gt3 : (Tryz.prog.globals[3]?).map (·.type) = some 76 := by kernel_rfl
theorem gt5 : (Tryz.prog.globals[5]?).map (·.type) = some 159 := by kernel_rfl
theorem cells144 : Tryz.prog.cellsOf 144 = 20 := by kernel_rfl
theorem cells159 : Tryz.prog.cellsOf 159 = 64 := by kernel_rfl
theorem cells5 : Tryz.prog.cellsOf 5 = 1 := by kernel_rfl
theorem cells157 : Tryz.prog.cellsOf 157 = 1 := by kernel_rfl
theorem cells93 : Tryz.prog.cellsOf 93 = 1 := by kernel_rfl
theorem star_err : "*" ++ "errors.errorString" = "*errors.errorString" := by decide
theorem row155 (u : TypeId) (h : Tryz.prog.typeName? 3 u = some "*errors.errorString") : u = 155 :=
  typeName_ptr_named (nm := "errors.errorString") (by rw [star_err]; kernel_rfl) (by kernel_rfl) (by decide) u (by rw [star_err]; exact h)

theorem glob_laid {W : World} (h : laidMetH Tryz.prog Rows.imageTellsRow.laid W) (hs : W.ShapedOpen Tryz.prog) : Glob W := by
  have h0 : laidMet Tryz.prog Rows.imageTellsRow.laid W := h
  have h1 := h0.tail
  have h2 := h1.tail
  have h3 := h2.tail
  have h4 := h3.tail
  have h5 := h4.tail
  obtain ⟨a3, _, hv3, _⟩ := laid_sentinel h4 g3 gt3 Tryz.underlying76 row155 Tryz.underlying155 Tryz.underlying157 rfl rfl Tryz.underlying9 cells157 cells9
  obtain ⟨a2, _, hv2, _⟩ := laid_sentinel h5 g2 gt2 Tryz.underlying76 row155 Tryz.underlying155 Tryz.underlying157 rfl rfl Tryz.underlying9 cells157 cells9
  have t1 : Lib.TabIs Tryz.prog W "internal/strconv.uint64pow10" .u64 Lib.pow10Tab := Lib.tabIs_of_head g1 gt1 Tryz.underlying144 Tryz.underlying93 cells93 cells144 h2
  have t5 : Lib.TabIs Tryz.prog W "math/bits.deBruijn64tab" .u8 [0, 1, 56, 2, 57, 49, 28, 3, 61, 58, 42, 50, 38, 29, 17, 4, 62, 47, 59, 36, 45, 43, 51, 22, 53, 39, 33, 30, 24, 18, 12, 5, 63, 55, 48, 27, 60, 41, 37, 16, 46, 35, 44, 21, 52, 32, 23, 11, 54, 26, 40, 15, 34, 20, 31, 10, 25, 14, 19, 9, 13, 8, 7, 6] :=
    Lib.tabIs_of_head g5 gt5 Tryz.underlying159 Tryz.underlying5 cells5 cells159 h1
  refine ⟨?_, ⟨155, .pointer (some a2), by simpa using World.var?_cell g2 hv2 0⟩, ⟨155, .pointer (some a3), by simpa using World.var?_cell g3 hv3 0⟩, t1, t5.cell g5 15 (by decide)⟩
  exact Go.Proofs.cell_of_shapedOpen_int (zero := #[.int .i64 0]) (t := 3) hs (of_decide_eq_true (by kernel_rfl)) (by kernel_rfl) rfl (by kernel_rfl) (by kernel_rfl) Tryz.underlying3
end Go.Proofs.YtgajlhejefjhhaaGreatDoor
