/- Words for the walks of the statements. No condition of ours. -/
import Derived.Test.YtgajlhejefjhhaaGreatDoorT28
import Derived.Test.YtgajlhejefjhhaaGreatDoorT33
namespace Go.Proofs.YtgajlhejefjhhaaGreatDoor
open Go.RowKit

/-! ### words for the statements' walks -/
/-- a variable at block b that holds an image's value -/
abbrev Box (w : World) (b : Nat) (A1 : Option Addr) (n1 c1 : Nat) (mem : Int) (A2 : Option Addr) (n2 c2 : Nat) : Prop := w.heap[b]? = some (.cells #[.slice A1 n1 c1, .int .i64 mem, .slice A2 n2 c2] 25)
theorem box_new (w : World) (A1 : Option Addr) (n1 c1 : Nat) (mem : Int) (A2 : Option Addr) (n2 c2 : Nat) : Box (w.alloc (.cells #[.slice A1 n1 c1, .int .i64 mem, .slice A2 n2 c2] 25)) w.heap.size A1 n1 c1 mem A2 n2 c2 := heap_alloc_new w _
theorem box_lt {w : World} {b : Nat} {A1 : Option Addr} {n1 c1 : Nat} {mem : Int} {A2 : Option Addr} {n2 c2 : Nat} (h : Box w b A1 n1 c1 mem A2 n2 c2) : b < w.heap.size := (Array.getElem?_eq_some_iff.1 h).1
theorem box_below {w w' : World} {b : Nat} {A1 : Option Addr} {n1 c1 : Nat} {mem : Int} {A2 : Option Addr} {n2 c2 : Nat} (h : Box w b A1 n1 c1 mem A2 n2 c2) (hb : Below w.heap.size w w') : Box w' b A1 n1 c1 mem A2 n2 c2 := (hb.block b (box_lt h)).trans h

/-- what Fit tells, without its inside -/
theorem fit_told (A1 : Option Addr) (n1 c1 : Nat) (A2 : Option Addr) (n2 c2 : Nat) (m : Img) {x : Img} (hx : x = m.fit) (w : World) (h : IsImg w A1 n1 A2 n2 m) :
    Calls Tryz.prog 11 #[.agg #[.slice A1 n1 c1, .int .i64 m.mem, .slice A2 n2 c2]] w fun e w' => (∃ F1 p f1 F2 q f2, e = .returned (.agg #[.slice F1 p f1, .int .i64 x.mem, .slice F2 q f2]) ∧ IsImg w' F1 p F2 q x ∧ p ≤ f1 ∧ p ≤ 40 ∧ q ≤ 8 ∧ w'.ownsRow w.heap.size 3 1 (.slice F1 p f1) p (x.words.map (Value.int .i64)) ∧ w'.ownsRow w.heap.size 45 2 (.slice F2 q f2) q (symCells x.syms)) ∧ Below w.heap.size w w' := by
  subst hx
  refine (fit_any A1 n1 c1 A2 n2 c2 m w h).mono ?_
  rintro e w' ⟨⟨F1, f1, F2, f2, he, hi, hf, ho1, ho2⟩, hb⟩
  refine ⟨⟨F1, _, f1, F2, _, f2, he, hi, hf, ?_, ?_, ho1, ho2⟩, hb⟩
  · exact fitWords_len m.words
  · exact fitSyms_len _ _ 8

/-- the text of what Fit gives is short -/
theorem fit_short (m : Img) : m.fit.print.length ≤ 1013 := (small_len (fit_right m) (by have := fitWords_len m.words; show (fitWords m.words).length ≤ 41; omega) (by have := fitSyms_len m.syms (fitWords m.words).length 8; show (fitSyms m.syms (fitWords m.words).length 8).length ≤ 9; omega)).2
end Go.Proofs.YtgajlhejefjhhaaGreatDoor
