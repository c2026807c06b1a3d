/- Contracts: an image as a text, and its sum. No condition of ours. -/
import Derived.Test.YtgajlhejefjhhaaGreatDoorT9
namespace Go.Proofs.YtgajlhejefjhhaaGreatDoor
open Go.RowKit

theorem labL_len {l : List UInt8} (h : labL l = true) : l.length ≤ 40 := by
  simp [labL] at h
  exact h.2

theorem okAt_get {l : List (List UInt8 × Int)} {n : Int} {j : Nat} {x : List UInt8 × Int} (hx : l[j]? = some x) (h : okAt l n j = true) : labL x.1 = true ∧ 0 ≤ x.2 ∧ x.2 ≤ 4 * n ∧ x.2 % 4 = 0 := by
  simp [okAt, hx] at h
  exact ⟨h.1, h.2.1, h.2.2.1, h.2.2.2.1⟩

theorem Img.good {m : Img} (h : m.right = true) : Good m := by
  simp only [Img.right, Bool.and_eq_true, decide_eq_true_eq, Bool.not_eq_true'] at h
  obtain ⟨h1, h2, h3, h4, h5⟩ := h
  simp only [symsB, Bool.and_eq_true, decide_eq_true_eq] at h5
  refine ⟨fun z hz => ?_, h1, ⟨h3, h4⟩, fun x hx => ?_, h5.2⟩
  · have := List.any_eq_false.1 h2 z hz
    simp [oddW] at this
    omega
  · obtain ⟨j, hj, rfl⟩ := List.getElem_of_mem hx
    obtain ⟨a, b, c, _⟩ := okAt_get (List.getElem?_eq_getElem hj) (List.all_eq_true.1 h5.1 j (List.mem_range.2 hj))
    exact ⟨labL_len a, b, by omega⟩

theorem chunk_len (l : List (List Int)) (h : ∀ x ∈ l, x.length ≤ 8) : (l.flatMap wordLine).length ≤ 73 * l.length := by
  induction l with
  | nil => simp
  | cons x l ih =>
    have h1 := wordLine_len x (h x (by simp))
    have h2 := ih fun y hy => h y (by simp [hy])
    simp only [List.flatMap_cons, List.length_append, List.length_cons]
    omega

theorem head_len {m : Img} (h : Good m) : m.head.length ≤ 1000000 := by
  have h1 := itoa_small m.mem h.mem.1 h.mem.2
  have h2 := symLines_length (l := m.syms) fun x hx => (h.syms x hx).1
  have h3 := chunk_len (pieces m.words ((m.words.length + 7) / 8)) (fun x hx => by
    obtain ⟨j, _, rfl⟩ := List.mem_map.1 hx
    rw [pieceAt, List.length_take]
    omega)
  have h4 : (pieces m.words ((m.words.length + 7) / 8)).length = (m.words.length + 7) / 8 := by simp [pieces]
  have h5 := h.nsyms
  have h6 := h.nwords
  unfold Img.head headOf
  simp only [List.length_append, List.length_cons, List.length_nil]
  omega

/-- an image's text -/
def Img.print (m : Img) : List UInt8 := m.head ++ [115, 117, 109, 32] ++ digN 8 (sumL m.head) ++ [10]

theorem imgBox {w : World} {A1 : Option Addr} {n1 c1 : Nat} {A2 : Option Addr} {n2 c2 : Nat} {mem : Int} {fz : Nat × Nat} :
    (w.alloc (.cells #[.slice A1 n1 c1, .int .i64 mem, .slice A2 n2 c2] 25 fz)).cell? ⟨w.heap.size, 0, none⟩ = some (.slice A1 n1 c1) := new_cell rfl

set_option maxHeartbeats 400000 in
set_option maxRecDepth 100000 in
theorem print_yes (A1 : Option Addr) (n1 c1 : Nat) (A2 : Option Addr) (n2 c2 : Nat) (m : Img) (w : World) (h : IsImg w A1 n1 A2 n2 m) (hr : m.right = true) (hG : Glob w) (hc1 : n1 ≤ c1) :
    Calls Tryz.prog 12 #[.agg #[.slice A1 n1 c1, .int .i64 m.mem, .slice A2 n2 c2]] w fun e w' => e = .returned (.tuple #[.string (str m.print), .int .i64 0]) ∧ Below w.heap.size w w' := by
  have hg := Img.good hr
  have hlen := head_len hg
  have hB := bA (o := .cells #[.slice A1 n1 c1, .int .i64 m.mem, .slice A2 n2 c2] 25) (bR w)
  have H := Lib.hid (h.below hB)
  have HG := Lib.hid (hG.below hB)
  have HB := Lib.hid hB
  have HGood := Lib.hid hg
  clear hB h hG hg
  have hR := right_any A1 n1 c1 A2 n2 c2 m _ H.out
  rw [hr] at hR
  have HRt := Lib.hid hR
  clear hR hr
  have cells : ∀ w1, Below (w.alloc (.cells #[.slice A1 n1 c1, .int .i64 m.mem, .slice A2 n2 c2] 25)).heap.size (w.alloc (.cells #[.slice A1 n1 c1, .int .i64 m.mem, .slice A2 n2 c2] 25)) w1 →
      w1.cell? ⟨w.heap.size, 0, none⟩ = some (.slice A1 n1 c1) ∧ w1.cell? ⟨w.heap.size, 1, none⟩ = some (.int .i64 m.mem) ∧ w1.cell? ⟨w.heap.size, 2, none⟩ = some (.slice A2 n2 c2) := fun w1 hb =>
    ⟨(hb.cell (p := ⟨w.heap.size, 0, none⟩) (by simp)).trans (new_cell rfl), (hb.cell (p := ⟨w.heap.size, 1, none⟩) (by simp)).trans (new_cell rfl), (hb.cell (p := ⟨w.heap.size, 2, none⟩) (by simp)).trans (new_cell rfl)⟩
  have HC := Lib.hid cells
  clear cells
  obtain ⟨hd, hhd⟩ : ∃ hd, hd = m.head := ⟨_, rfl⟩
  obtain ⟨p1, hp1⟩ : ∃ p1, p1 = hd ++ [115, 117, 109, 32] := ⟨_, rfl⟩
  obtain ⟨p2, hp2⟩ : ∃ p2, p2 = p1 ++ digN 8 (sumL hd) := ⟨_, rfl⟩
  obtain ⟨p3, hp3⟩ : ∃ p3, p3 = p2 ++ [10] := ⟨_, rfl⟩
  rw [← hhd] at hlen
  have l1 : p1.length ≤ 1000004 := by rw [hp1, List.length_append]; simp; omega
  have l2 : p2.length ≤ 1000012 := by rw [hp2, List.length_append, digN_length]; omega
  have l3 : p3.length ≤ 1000013 := by rw [hp3, List.length_append]; simp; omega
  have cat1 := cat_at hp1 (by omega)
  have cat2 := cat_at hp2 (by omega)
  have cat3 := cat_at hp3 (by omega)
  have HP := Lib.hid (show m.print = p3 by rw [hp3, hp2, hp1, hhd]; rfl)
  have HHd := Lib.hid hhd
  have hsum := sumL_lt hd
  clear hp1 hp2 hp3 hhd l1 l2 l3
  go_enter Tryz.func12, Tryz.ntmps12
  go_wp2_with fail
  refine HRt.out.mono ?_
  rintro e w1 ⟨rfl, hb1⟩
  obtain ⟨c0, c1', c2'⟩ := HC.out w1 hb1
  have HB1 := Lib.hid hb1
  clear hb1
  go_wp2_with fail
  refine (head_any A1 n1 c1 A2 n2 c2 m _ (H.out.below HB1.out) HGood.out (HG.out.below HB1.out) hc1).mono ?_
  rintro e w2 ⟨rfl, hb2⟩
  rw [← HHd.out]
  have HB2 := Lib.hid (bT HB1.out hb2)
  clear hb2
  go_wp2_with fail
  refine (sum_any (str hd) _ (by show hd.length ≤ _; omega)).mono ?_
  rintro e w3 ⟨rfl, hb3⟩
  have HB3 := Lib.hid (bT HB2.out hb3)
  clear hb3
  go_wp2_with fail
  refine (digits_any (sumL hd) _ hsum (HG.out.below HB3.out).deb).mono ?_
  rintro e w4 ⟨rfl, hb4⟩
  have HB4 := Lib.hid (bT HB3.out hb4)
  clear hb4
  go_wp2
  go_ret2
  exact ⟨by rw [HP.out]; rfl, bT HB.out HB4.out⟩

set_option maxHeartbeats 400000 in
set_option maxRecDepth 100000 in
theorem print_no (A1 : Option Addr) (n1 c1 : Nat) (A2 : Option Addr) (n2 c2 : Nat) (m : Img) (w : World) (h : IsImg w A1 n1 A2 n2 m) (hr : m.right = false) :
    Calls Tryz.prog 12 #[.agg #[.slice A1 n1 c1, .int .i64 m.mem, .slice A2 n2 c2]] w fun e w' => e = .returned (.tuple #[.string (str []), .int .i64 1]) ∧ Below w.heap.size w w' := by
  have hB := bA (o := .cells #[.slice A1 n1 c1, .int .i64 m.mem, .slice A2 n2 c2] 25) (bR w)
  have hR := right_any A1 n1 c1 A2 n2 c2 m _ (h.below hB)
  rw [hr] at hR
  have HRt := Lib.hid hR
  have HB := Lib.hid hB
  clear hR hr h hB
  go_enter Tryz.func12, Tryz.ntmps12
  go_wp2_with fail
  refine HRt.out.mono ?_
  rintro e w1 ⟨rfl, hb1⟩
  go_wp2
  go_ret2
  exact ⟨rfl, bT HB.out hb1⟩

set_option maxHeartbeats 400000 in
set_option maxRecDepth 100000 in
theorem sumOf_yes (A1 : Option Addr) (n1 c1 : Nat) (A2 : Option Addr) (n2 c2 : Nat) (m : Img) (w : World) (h : IsImg w A1 n1 A2 n2 m) (hr : m.right = true) (hG : Glob w) (hc1 : n1 ≤ c1) :
    Calls Tryz.prog 16 #[.agg #[.slice A1 n1 c1, .int .i64 m.mem, .slice A2 n2 c2]] w fun e w' => e = .returned (.int .i64 (sumL m.head : Nat)) ∧ Below w.heap.size w w' := by
  have hg := Img.good hr
  have hlen := head_len hg
  have hB := bA (o := .cells #[.slice A1 n1 c1, .int .i64 m.mem, .slice A2 n2 c2] 25) (bR w)
  have H := Lib.hid (h.below hB)
  have HG := Lib.hid (hG.below hB)
  have HB := Lib.hid hB
  have HGood := Lib.hid hg
  clear hB h hG hg
  have hR := right_any A1 n1 c1 A2 n2 c2 m _ H.out
  rw [hr] at hR
  have HRt := Lib.hid hR
  clear hR hr
  have cells : ∀ w1, Below (w.alloc (.cells #[.slice A1 n1 c1, .int .i64 m.mem, .slice A2 n2 c2] 25)).heap.size (w.alloc (.cells #[.slice A1 n1 c1, .int .i64 m.mem, .slice A2 n2 c2] 25)) w1 →
      w1.cell? ⟨w.heap.size, 0, none⟩ = some (.slice A1 n1 c1) ∧ w1.cell? ⟨w.heap.size, 1, none⟩ = some (.int .i64 m.mem) ∧ w1.cell? ⟨w.heap.size, 2, none⟩ = some (.slice A2 n2 c2) := fun w1 hb =>
    ⟨(hb.cell (p := ⟨w.heap.size, 0, none⟩) (by simp)).trans (new_cell rfl), (hb.cell (p := ⟨w.heap.size, 1, none⟩) (by simp)).trans (new_cell rfl), (hb.cell (p := ⟨w.heap.size, 2, none⟩) (by simp)).trans (new_cell rfl)⟩
  have HC := Lib.hid cells
  clear cells
  obtain ⟨hd, hhd⟩ : ∃ hd, hd = m.head := ⟨_, rfl⟩
  rw [← hhd] at hlen ⊢
  have HHd := Lib.hid hhd
  clear hhd
  go_enter Tryz.func16, Tryz.ntmps16
  go_wp2_with fail
  refine HRt.out.mono ?_
  rintro e w1 ⟨rfl, hb1⟩
  obtain ⟨c0, c1', c2'⟩ := HC.out w1 hb1
  have HB1 := Lib.hid hb1
  clear hb1
  go_wp2_with fail
  refine (head_any A1 n1 c1 A2 n2 c2 m _ (H.out.below HB1.out) HGood.out (HG.out.below HB1.out) hc1).mono ?_
  rintro e w2 ⟨rfl, hb2⟩
  rw [← HHd.out]
  have HB2 := Lib.hid (bT HB1.out hb2)
  clear hb2
  go_wp2_with fail
  refine (sum_any (str hd) _ (by show hd.length ≤ _; omega)).mono ?_
  rintro e w3 ⟨rfl, hb3⟩
  go_wp2
  go_ret
  exact ⟨rfl, bT HB.out (bT HB2.out hb3)⟩

set_option maxHeartbeats 400000 in
set_option maxRecDepth 100000 in
theorem sumOf_no (A1 : Option Addr) (n1 c1 : Nat) (A2 : Option Addr) (n2 c2 : Nat) (m : Img) (w : World) (h : IsImg w A1 n1 A2 n2 m) (hr : m.right = false) :
    Calls Tryz.prog 16 #[.agg #[.slice A1 n1 c1, .int .i64 m.mem, .slice A2 n2 c2]] w fun e w' => e = .returned (.int .i64 0) ∧ Below w.heap.size w w' := by
  have hB := bA (o := .cells #[.slice A1 n1 c1, .int .i64 m.mem, .slice A2 n2 c2] 25) (bR w)
  have hR := right_any A1 n1 c1 A2 n2 c2 m _ (h.below hB)
  rw [hr] at hR
  have HRt := Lib.hid hR
  have HB := Lib.hid hB
  clear hR hr h hB
  go_enter Tryz.func16, Tryz.ntmps16
  go_wp2_with fail
  refine HRt.out.mono ?_
  rintro e w1 ⟨rfl, hb1⟩
  go_wp2
  go_ret
  exact ⟨rfl, bT HB.out hb1⟩
end Go.Proofs.YtgajlhejefjhhaaGreatDoor
