/- Plain words for an image that may be, out of a raw one. No condition of ours. -/
import Derived.Test.YtgajlhejefjhhaaGreatDoorT26
namespace Go.Proofs.YtgajlhejefjhhaaGreatDoor
open Go.RowKit

/-! ### of a raw image, one that may be -/
def nameAt : Nat → List UInt8
  | 0 => [46, 120]
  | 1 => [97]
  | 2 => [97, 98]
  | 3 => [98]
  | 4 => [99, 111, 100, 101]
  | 5 => [109, 97, 105, 110]
  | 6 => [115, 117, 109]
  | _ => [126]
def hashOf (x : List UInt8 × Int) : Int := pk (wrap64 ((x.1.length : Int) + x.2)) 8
def fitWords (l : List Int) : List Int := (l.take 40).map fun z => pk z 4294967296
def fitSym (l : List (List UInt8 × Int)) (n : Nat) (i : Nat) : List (List UInt8 × Int) :=
  match l.find? (fun x => hashOf x == (i : Int)) with
  | some x => [(nameAt i, 4 * pk x.2 ((n : Int) + 1))]
  | none => []
def fitSyms (l : List (List UInt8 × Int)) (n k : Nat) : List (List UInt8 × Int) := (List.range k).flatMap (fitSym l n)
def Img.fit (m : Img) : Img := ⟨fitWords m.words, pk m.mem 4097, fitSyms m.syms (fitWords m.words).length 8⟩

theorem fitSyms_succ (l : List (List UInt8 × Int)) (n k : Nat) : fitSyms l n (k + 1) = fitSyms l n k ++ fitSym l n k := by simp [fitSyms, List.range_succ]
theorem fitSyms_len (l : List (List UInt8 × Int)) (n : Nat) : ∀ k, (fitSyms l n k).length ≤ k
  | 0 => by simp [fitSyms]
  | k + 1 => by
    have := fitSyms_len l n k
    rw [fitSyms_succ, List.length_append]
    have h : (fitSym l n k).length ≤ 1 := by
      unfold fitSym
      split <;> simp
    omega
theorem names_at : ∀ i, i < 8 → (#[.string ⟨#[46, 120]⟩, .string ⟨#[97]⟩, .string ⟨#[97, 98]⟩, .string ⟨#[98]⟩, .string ⟨#[99, 111, 100, 101]⟩, .string ⟨#[109, 97, 105, 110]⟩, .string ⟨#[115, 117, 109]⟩, .string ⟨#[126]⟩] : Array Value)[i]? = some (.string (str (nameAt i)))
  | 0, _ => rfl
  | 1, _ => rfl
  | 2, _ => rfl
  | 3, _ => rfl
  | 4, _ => rfl
  | 5, _ => rfl
  | 6, _ => rfl
  | 7, _ => rfl
  | n + 8, h => absurd h (by omega)

theorem results_cell1 {fn : Func} {p : Tmp} {ty : TypeId} (h : fn.results = #[.cell p ty]) (tmps : Array Value) (P : Program) (w : World) :
    (results fn tmps).run P w = ((asAddr (tmps.getD p undef)).run P w).andThen fun a w₁ => (loadVar ty a).run P w₁ := by
  simp only [results, h]
  simp [Sem.run_bind, Result.andThen]

theorem ret25c {fn : Func} {p : Tmp} {tmps : Array Value} {w : World} {b : Nat} {A1 A2 : Option Addr} {n1 c1 n2 c2 : Nat} {mem : Int} (hfn : fn.results = #[.cell p 25]) (hp : tmps.getD p undef = .pointer (some ⟨b, 0, none⟩))
    (h : w.heap[b]? = some (.cells #[.slice A1 n1 c1, .int .i64 mem, .slice A2 n2 c2] 25)) :
    (results fn tmps).run Tryz.prog w = .ok (.agg #[.slice A1 n1 c1, .int .i64 mem, .slice A2 n2 c2]) w := by
  obtain ⟨h0, h1, h2, _⟩ := cells3 h
  rw [results_cell1 hfn, hp]
  simp [go_sem, h0, h1, h2]

theorem name_len : ∀ i, (nameAt i).length ≤ 4
  | 0 => by decide
  | 1 => by decide
  | 2 => by decide
  | 3 => by decide
  | 4 => by decide
  | 5 => by decide
  | 6 => by decide
  | n + 7 => by simp [nameAt]

theorem fit_sane {w : World} {A1 A2 : Option Addr} {n1 n2 : Nat} {m : Img} (_ : IsImg w A1 n1 A2 n2 m) : Wf m.fit.words ∧ (∀ x ∈ m.fit.syms, x.1.length ≤ 9223372036854775807 ∧ -9223372036854775808 ≤ x.2 ∧ x.2 ≤ 9223372036854775807) ∧ m.fit.syms.length ≤ 8 ∧ (-9223372036854775808 ≤ m.fit.mem ∧ m.fit.mem ≤ 9223372036854775807) := by
  have hw : (fitWords m.words).length ≤ 40 := by simp [fitWords]; omega
  refine ⟨fun z hz => ?_, fun x hx => ?_, fitSyms_len _ _ _, ?_⟩
  · obtain ⟨y, _, rfl⟩ := List.mem_map.1 hz
    have h1 := pk_lo y 4294967296 (by omega)
    have h2 := pk_hi y 4294967296 (by omega)
    omega
  · obtain ⟨i, _, hi⟩ := List.mem_flatMap.1 hx
    unfold fitSym at hi
    split at hi
    · rename_i y _
      obtain rfl := List.mem_singleton.1 hi
      have h1 := pk_lo y.2 (((fitWords m.words).length : Int) + 1) (by omega)
      have h2 := pk_hi y.2 (((fitWords m.words).length : Int) + 1) (by omega)
      have h3 := name_len i
      dsimp only
      omega
    · simp at hi
  · have h1 := pk_lo m.mem 4097 (by omega)
    have h2 := pk_hi m.mem 4097 (by omega)
    show -9223372036854775808 ≤ pk m.mem 4097 ∧ pk m.mem 4097 ≤ 9223372036854775807
    omega

/-- the variable at block b holds the image m -/
def Mim (b : Nat) (m : Img) (w : World) : Prop :=
  ∃ v1 v2, w.heap[b]? = some (.cells #[v1, .int .i64 m.mem, v2] 25) ∧ w.ownsRow (b + 1) 3 1 v1 m.words.length (m.words.map (Value.int .i64)) ∧ w.ownsRow (b + 1) 45 2 v2 m.syms.length (symCells m.syms)

theorem Mim.below {b : Nat} {m : Img} {w w' : World} (h : Mim b m w) (hb : Below w.heap.size w w') : Mim b m w' := by
  obtain ⟨v1, v2, h1, h2, h3⟩ := h
  exact ⟨v1, v2, (hb.block b (Array.getElem?_eq_some_iff.1 h1).1).trans h1, own_below h2 hb, own_below h3 hb⟩

theorem Mim.lt {b : Nat} {m : Img} {w : World} (h : Mim b m w) : b < w.heap.size := by
  obtain ⟨v1, v2, h1, _⟩ := h
  exact (Array.getElem?_eq_some_iff.1 h1).1

theorem Mim.word {b : Nat} {m : Img} {w w' : World} {v1 v2 v' : Value} {z : Int} (h1 : w.heap[b]? = some (.cells #[v1, .int .i64 m.mem, v2] 25)) (h2 : w.ownsRow (b + 1) 3 1 v1 m.words.length (m.words.map (Value.int .i64)))
    (h3 : w.ownsRow (b + 1) 45 2 v2 m.syms.length (symCells m.syms)) (ho : w'.ownsRow (b + 1) 3 1 v' (m.words.length + 1) (m.words.map (Value.int .i64) ++ [.int .i64 z])) (hg : w.grownBy w' v1.ownBlock) :
    Mim b { m with words := m.words ++ [z] } (w'.setCell ⟨b, 0, none⟩ v') := by
  refine ⟨v', v2, ?_, ?_, ?_⟩
  · exact heap_setCell_same (grown_keep h2 hg h1 (.inl (by decide))) v'
  · have := ownsRow_setCell_below ho (a := ⟨b, 0, none⟩) (by simp) v'
    simpa using this
  · exact ownsRow_setCell_below (h3.kept hg (own_apart h3 h2 (by decide))) (a := ⟨b, 0, none⟩) (by simp) v'

theorem Mim.sym {b : Nat} {m : Img} {w w' : World} {v1 v2 v' : Value} {nm : List UInt8} {z : Int} (h1 : w.heap[b]? = some (.cells #[v1, .int .i64 m.mem, v2] 25)) (h2 : w.ownsRow (b + 1) 3 1 v1 m.words.length (m.words.map (Value.int .i64)))
    (h3 : w.ownsRow (b + 1) 45 2 v2 m.syms.length (symCells m.syms)) (ho : w'.ownsRow (b + 1) 45 2 v' (m.syms.length + 1) (symCells m.syms ++ [.string (str nm), .int .i64 z])) (hg : w.grownBy w' v2.ownBlock) :
    Mim b { m with syms := m.syms ++ [(nm, z)] } (w'.setCell ⟨b, 2, none⟩ v') := by
  refine ⟨v1, v', ?_, ?_, ?_⟩
  · exact heap_setCell_same (grown_keep h3 hg h1 (.inl (by decide))) v'
  · exact ownsRow_setCell_below (h2.kept hg (own_apart h2 h3 (by decide))) (a := ⟨b, 2, none⟩) (by simp) v'
  · have := ownsRow_setCell_below ho (a := ⟨b, 2, none⟩) (by simp) v'
    rw [symCells_snoc]
    simpa using this
end Go.Proofs.YtgajlhejefjhhaaGreatDoor
