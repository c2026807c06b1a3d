/- Small words for memory: a slice that reads as a list of cells, kept over all that leaves old memory alone. -/
import Derived.Test.YtgajlhejefjhhaaGreatDoorProg
import Derived.WalkKit
import Derived.WalkSpells
import Derived.WalkSmall
import Derived.WalkLawsBesides
import Derived.Lib.Hide
namespace Go.Proofs.YtgajlhejefjhhaaGreatDoor
open Go.RowKit

/-- the slice at A of n elements, each of `size` cells, holds the cells xs -/
def Rd (w : World) (size : Nat) (A : Option Addr) (n : Nat) (xs : List Value) : Prop :=
  xs.length = n * size ∧ (0 < n → ∃ b off, A = some ⟨b, off, none⟩ ∧ b < w.heap.size ∧ ∀ j u, xs[j]? = some u → w.cell? ⟨b, off + j, none⟩ = some u)

theorem cell_lt {w : World} {b o : Nat} {v : Value} (h : w.cell? ⟨b, o, none⟩ = some v) : b < w.heap.size := by
  rcases Nat.lt_or_ge b w.heap.size with hlt | hge
  · exact hlt
  · unfold World.cell? at h
    simp [Array.getElem?_eq_none hge] at h

section
variable {w w' : World} {size n : Nat} {A : Option Addr} {xs : List Value}

theorem Rd.nil_ (w : World) (size : Nat) (A : Option Addr) : Rd w size A 0 [] := ⟨by simp, fun h => absurd h (by omega)⟩

theorem Rd.len (h : Rd w size A n xs) : xs.length = n * size := h.1

theorem Rd.keep (h : Rd w size A n xs) (hs : w.heap.size ≤ w'.heap.size) (hk : ∀ p : Addr, p.block < w.heap.size → w'.cell? p = w.cell? p) : Rd w' size A n xs :=
  ⟨h.1, fun hn => by
    obtain ⟨b, off, e, hb, hc⟩ := h.2 hn
    exact ⟨b, off, e, by omega, fun j u hu => (hk ⟨b, off + j, none⟩ hb).trans (hc j u hu)⟩⟩

theorem Rd.below (h : Rd w size A n xs) (hb : Below w.heap.size w w') : Rd w' size A n xs := h.keep hb.size fun _ hp => hb.cell hp
theorem Rd.drew (h : Rd w size A n xs) : Rd w.drew size A n xs := h
theorem Rd.drewN (h : Rd w size A n xs) (k : Nat) : Rd (w.drewN k) size A n xs := h
theorem Rd.alloc (h : Rd w size A n xs) (o : Obj) : Rd (w.alloc o) size A n xs := h.keep (by simp) fun p hp => World.cell?_alloc_lt w o p hp

/-- the cells at one round of a loop -/
theorem Rd.at1 {k : Nat} (h : Rd w 1 A n xs) (hk : k < n) : ∃ b off u, A = some ⟨b, off, none⟩ ∧ xs[k]? = some u ∧ w.cell? ⟨b, off + k, none⟩ = some u := by
  obtain ⟨b, off, e, _, hc⟩ := h.2 (by omega)
  have hl : k < xs.length := by have := h.1; omega
  exact ⟨b, off, xs[k], e, List.getElem?_eq_getElem hl, hc k _ (List.getElem?_eq_getElem hl)⟩
end

/-! ### below the old memory: steps -/
section
variable {w X Y : World}
theorem bR (w : World) : Below w.heap.size w w := Below.refl _ _
theorem bA (h : Below w.heap.size w X) {o : Obj} : Below w.heap.size w (X.alloc o) := h.alloc h.size _
theorem bD (h : Below w.heap.size w X) : Below w.heap.size w X.drew := h.drew
theorem bN (h : Below w.heap.size w X) {n : Nat} : Below w.heap.size w (X.drewN n) := below_drewN h n
theorem bT (h : Below w.heap.size w X) (k : Below X.heap.size X Y) : Below w.heap.size w Y := h.trans (k.mono h.size)
theorem bS (h : Below w.heap.size w X) {p : Addr} (hp : w.heap.size ≤ p.block) {u : Value} : Below w.heap.size w (X.setCell p u) := h.setCell hp u
end

/-! ### the typed readings -/
abbrev str (l : List UInt8) : ByteArray := ⟨l.toArray⟩

theorem str_eta (s : ByteArray) : str s.data.toList = s := rfl

def symCells (l : List (List UInt8 × Int)) : List Value := l.flatMap fun s => [.string (str s.1), .int .i64 s.2]

theorem symCells_length : ∀ l, (symCells l).length = l.length * 2
  | [] => rfl
  | s :: l => by
    have := symCells_length l
    simp only [symCells, List.flatMap_cons, List.length_append, List.length_cons, List.length_nil] at *
    omega

theorem symCells_at : ∀ (l : List (List UInt8 × Int)) (k : Nat) (s : List UInt8 × Int), l[k]? = some s → (symCells l)[2 * k]? = some (.string (str s.1)) ∧ (symCells l)[2 * k + 1]? = some (.int .i64 s.2)
  | [], k, s, h => by simp at h
  | x :: l, 0, s, h => by
    simp at h
    subst h
    simp [symCells]
  | x :: l, k + 1, s, h => by
    have := symCells_at l k s (by simpa using h)
    have e1 : 2 * (k + 1) = (2 * k) + 1 + 1 := by omega
    simp only [symCells, List.flatMap_cons] at this ⊢
    rw [e1]
    simpa using this

theorem Rd.int {w : World} {A : Option Addr} {n k : Nat} {zs : List Int} (h : Rd w 1 A n (zs.map (Value.int .i64))) (hk : k < n) :
    ∃ b off z, A = some ⟨b, off, none⟩ ∧ zs[k]? = some z ∧ w.cell? ⟨b, off + k, none⟩ = some (.int .i64 z) := by
  obtain ⟨b, off, u, e, hx, hc⟩ := h.at1 hk
  rw [List.getElem?_map] at hx
  obtain ⟨z, hz, rfl⟩ := Option.map_eq_some_iff.1 hx
  exact ⟨b, off, z, e, hz, hc⟩

theorem Rd.int_len {w : World} {A : Option Addr} {n : Nat} {zs : List Int} (h : Rd w 1 A n (zs.map (Value.int .i64))) : zs.length = n := by
  have := h.1
  simpa using this

theorem Rd.sym {w : World} {A : Option Addr} {n k : Nat} {l : List (List UInt8 × Int)} (h : Rd w 2 A n (symCells l)) (hk : k < n) :
    ∃ b off nm pl, A = some ⟨b, off, none⟩ ∧ l[k]? = some (nm, pl) ∧ w.cell? ⟨b, off + k * 2, none⟩ = some (.string (str nm)) ∧ w.cell? ⟨b, off + k * 2 + 1, none⟩ = some (.int .i64 pl) := by
  obtain ⟨b, off, e, _, hc⟩ := h.2 (by omega)
  have hl : k < l.length := by have := h.1; rw [symCells_length] at this; omega
  have ha := symCells_at l k l[k] (List.getElem?_eq_getElem hl)
  refine ⟨b, off, l[k].1, l[k].2, e, List.getElem?_eq_getElem hl, ?_, ?_⟩
  · have := hc _ _ ha.1
    rwa [Nat.mul_comm] at this
  · have := hc _ _ ha.2
    rwa [Nat.mul_comm, ← Nat.add_assoc] at this

theorem Rd.sym_len {w : World} {A : Option Addr} {n : Nat} {l : List (List UInt8 × Int)} (h : Rd w 2 A n (symCells l)) : l.length = n := by
  have := h.1
  rw [symCells_length] at this
  omega

theorem ret_int {k : IntKind} {a b : Int} (h : a = b) : Ending.returned (.int k a) = Ending.returned (.int k b) := by rw [h]
theorem ret_bool {a b : Bool} (h : a = b) : Ending.returned (.bool a) = Ending.returned (.bool b) := by rw [h]
theorem ret_str {a b : ByteArray} (h : a = b) : Ending.returned (.string a) = Ending.returned (.string b) := by rw [h]

/-- '[]byte(s)': a new row that holds the string's bytes -/
theorem bytes_of (s : ByteArray) (w : World) : ∃ (cap : Nat) (C : Array Value) (fz : Nat × Nat),
    (convert 9 41 (.string s)).run Tryz.prog w = .ok (.slice (some ⟨w.heap.size, 0, none⟩) s.size cap) (w.drew.alloc (.cells C 5 fz)) ∧
      ∀ j (h : j < s.size), C[j]? = some (.int .u8 (s[j].toNat : Int)) :=
  ⟨_, _, _, run_bytes_of_string w 9 41 5 s Tryz.underlying9 Tryz.underlying41 Tryz.underlying5, fun j h => bytesRow_at s _ j h⟩

theorem new_cell {w : World} {C : Array Value} {t : TypeId} {fz : Nat × Nat} {j : Nat} {v : Value} (h : C[j]? = some v) : (w.alloc (.cells C t fz)).cell? ⟨w.heap.size, j, none⟩ = some v := by
  have hh : (w.alloc (.cells C t fz)).heap[w.heap.size]? = some (.cells C t fz) := heap_alloc_new w _
  rw [cell_of_row _ _ j C t fz hh, h]

end Go.Proofs.YtgajlhejefjhhaaGreatDoor
