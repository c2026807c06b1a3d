/- Words for results that lie in memory. No condition of ours. -/
import Derived.Test.YtgajlhejefjhhaaGreatDoorT15
import Derived.Laws.ResultCell
namespace Go.Proofs.YtgajlhejefjhhaaGreatDoor
open Go.RowKit

/-- what parse tells -/
def ParseIs (B : Nat) (s : List UInt8) (e : Ending) (w : World) : Prop :=
  ∃ A1 n1 c1 mem A2 n2 c2 ok, e = .returned (.tuple #[.agg #[.slice A1 n1 c1, .int .i64 mem, .slice A2 n2 c2], .bool ok]) ∧
    ((ok = true ∧ ∃ m : Img, parseO s = some m ∧ mem = m.mem ∧ IsImg w A1 n1 A2 n2 m ∧ n1 ≤ c1 ∧ Fresh B A1 ∧ Fresh B A2) ∨ (ok = false ∧ parseO s = none))

theorem cells3 {w : World} {b : Nat} {x y z : Value} {t : TypeId} (h : w.heap[b]? = some (.cells #[x, y, z] t)) :
    w.cell? ⟨b, 0, none⟩ = some x ∧ w.cell? ⟨b, 1, none⟩ = some y ∧ w.cell? ⟨b, 2, none⟩ = some z ∧ w.frozen? ⟨b, 0, none⟩ = false ∧ w.frozen? ⟨b, 1, none⟩ = false ∧ w.frozen? ⟨b, 2, none⟩ = false :=
  ⟨by rw [cell_of_row w b 0 _ _ _ h]; rfl, by rw [cell_of_row w b 1 _ _ _ h]; rfl, by rw [cell_of_row w b 2 _ _ _ h]; rfl, not_frozen h, not_frozen h, not_frozen h⟩

theorem load25 {w : World} {b : Nat} {A1 A2 : Option Addr} {n1 c1 n2 c2 : Nat} {mem : Int} (h : w.heap[b]? = some (.cells #[.slice A1 n1 c1, .int .i64 mem, .slice A2 n2 c2] 25)) :
    (loadVar 25 ⟨b, 0, none⟩).run Tryz.prog w = .ok (.agg #[.slice A1 n1 c1, .int .i64 mem, .slice A2 n2 c2]) w := by
  obtain ⟨h0, h1, h2, _⟩ := cells3 h
  simp [loadVar, go_sem, h0, h1, h2]

theorem results_cell_tmp3 {fn : Func} {p u v : Tmp} {ty : TypeId} (h : fn.results = #[.cell p ty, .tmp u, .tmp v]) (tmps : Array Value) (P : Program) (w : World) :
    (results fn tmps).run P w =
      ((asAddr (tmps.getD p undef)).run P w).andThen fun a w₁ => ((loadVar ty a).run P w₁).andThen fun x w₂ => .ok (.tuple #[x, tmps.getD u undef, tmps.getD v undef]) w₂ := by
  simp only [results, h]
  simp [Sem.run_bind, Result.andThen]

theorem ret25 {fn : Func} {p u : Tmp} {tmps : Array Value} {w : World} {b : Nat} {A1 A2 : Option Addr} {n1 c1 n2 c2 : Nat} {mem : Int} (hfn : fn.results = #[.cell p 25, .tmp u]) (hp : tmps.getD p undef = .pointer (some ⟨b, 0, none⟩))
    (h : w.heap[b]? = some (.cells #[.slice A1 n1 c1, .int .i64 mem, .slice A2 n2 c2] 25)) :
    (results fn tmps).run Tryz.prog w = .ok (.tuple #[.agg #[.slice A1 n1 c1, .int .i64 mem, .slice A2 n2 c2], tmps.getD u undef]) w := by
  rw [results_cell_tmp hfn, hp]
  obtain ⟨h0, h1, h2, _⟩ := cells3 h
  simp [go_sem, h0, h1, h2]

theorem ret25b {fn : Func} {p u v : Tmp} {tmps : Array Value} {w : World} {b : Nat} {A1 A2 : Option Addr} {n1 c1 n2 c2 : Nat} {mem : Int} (hfn : fn.results = #[.cell p 25, .tmp u, .tmp v]) (hp : tmps.getD p undef = .pointer (some ⟨b, 0, none⟩))
    (h : w.heap[b]? = some (.cells #[.slice A1 n1 c1, .int .i64 mem, .slice A2 n2 c2] 25)) :
    (results fn tmps).run Tryz.prog w = .ok (.tuple #[.agg #[.slice A1 n1 c1, .int .i64 mem, .slice A2 n2 c2], tmps.getD u undef, tmps.getD v undef]) w := by
  rw [results_cell_tmp3 hfn, hp]
  obtain ⟨h0, h1, h2, _⟩ := cells3 h
  simp [go_sem, h0, h1, h2]

theorem set3 {w : World} {b : Nat} {x y z x' y' z' : Value} {t : TypeId} (h : w.heap[b]? = some (.cells #[x, y, z] t)) :
    (((w.setCell ⟨b, 0, none⟩ x').setCell ⟨b, 1, none⟩ y').setCell ⟨b, 2, none⟩ z').heap[b]? = some (.cells #[x', y', z'] t) :=
  heap_setCell_same (heap_setCell_same (heap_setCell_same h x') y') z'

theorem trim_len (s p : List UInt8) : (Lib.trimSuffix s p).length ≤ s.length ∧ (Lib.trimPrefix s p).length ≤ s.length := by
  constructor
  · unfold Lib.trimSuffix
    split
    · rw [List.length_take]; omega
    · exact Nat.le_refl _
  · unfold Lib.trimPrefix
    split
    · rw [List.length_drop]; omega
    · exact Nat.le_refl _

end Go.Proofs.YtgajlhejefjhhaaGreatDoor
