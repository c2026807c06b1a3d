/- A contract: the example answers true. No condition of ours. -/
import Derived.Test.YtgajlhejefjhhaaGreatDoorT25
namespace Go.Proofs.YtgajlhejefjhhaaGreatDoor
open Go.RowKit

/-- Parse, at a text of which it is known what it is -/
theorem parse_told {s : List UInt8} {r : Option (Option Img)} (hr : parseR s = r) (w : World) (hG : Glob w) (hs : s.length ≤ 1000000) :
    Calls Tryz.prog 23 #[.string (str s)] w fun e w' => (∃ A1 n1 c1 A2 n2 c2, e = .returned (.tuple #[.agg #[.slice A1 n1 c1, .int .i64 (resI r).mem, .slice A2 n2 c2], .int .i64 (errI r), .int .i64 (lineI s r)]) ∧ IsImg w' A1 n1 A2 n2 (resI r) ∧ n1 ≤ c1) ∧ Below w.heap.size w w' := by
  subst hr
  exact parseTop_any s w hG hs

/-- the world in which the example lies -/
abbrev exW (w : World) (o : Obj) : World := (((w.alloc o).alloc (.cells #[.int .i64 19] 3)).alloc (.cells #[.string ⟨#[97]⟩, .int .i64 4] 45)).alloc (.cells #[.slice (some ⟨w.heap.size + 1, 0, none⟩) 1 1, .int .i64 3, .slice (some ⟨w.heap.size + 1 + 1, 0, none⟩) 1 1] 25)

theorem ex_below (w : World) (o : Obj) : Below w.heap.size w (exW w o) := bA (bA (bA (bA (bR w))))
theorem ex_box (w : World) (o : Obj) : (exW w o).heap[w.heap.size + 1 + 1 + 1]? = some (.cells #[.slice (some ⟨w.heap.size + 1, 0, none⟩) 1 1, .int .i64 3, .slice (some ⟨w.heap.size + 1 + 1, 0, none⟩) 1 1] 25) := by
  have := heap_alloc_new (((w.alloc o).alloc (.cells #[.int .i64 19] 3)).alloc (.cells #[.string ⟨#[97]⟩, .int .i64 4] 45)) (.cells #[.slice (some ⟨w.heap.size + 1, 0, none⟩) 1 1, .int .i64 3, .slice (some ⟨w.heap.size + 1 + 1, 0, none⟩) 1 1] 25)
  simpa only [World.size_alloc] using this
theorem ex_img (w : World) (o : Obj) : IsImg (exW w o) (some ⟨w.heap.size + 1, 0, none⟩) 1 (some ⟨w.heap.size + 1 + 1, 0, none⟩) 1 oneI := by
  have h1 : (exW w o).heap[w.heap.size + 1]? = some (.cells #[.int .i64 19] 3) := by
    have := heap_alloc_new (w.alloc o) (.cells #[.int .i64 19] 3)
    rw [World.size_alloc] at this
    exact (Below.heap_alloc _ _ _ (by simp)).trans ((Below.heap_alloc _ _ _ (by simp)).trans this)
  have h2 : (exW w o).heap[w.heap.size + 1 + 1]? = some (.cells #[.string ⟨#[97]⟩, .int .i64 4] 45) := by
    have := heap_alloc_new ((w.alloc o).alloc (.cells #[.int .i64 19] 3)) (.cells #[.string ⟨#[97]⟩, .int .i64 4] 45)
    rw [World.size_alloc, World.size_alloc] at this
    exact (Below.heap_alloc _ _ _ (by simp)).trans this
  refine ⟨⟨rfl, fun _ => ⟨_, 0, rfl, (Array.getElem?_eq_some_iff.1 h1).1, fun j u hu => ?_⟩⟩, ⟨rfl, fun _ => ⟨_, 0, rfl, (Array.getElem?_eq_some_iff.1 h2).1, fun j u hu => ?_⟩⟩, by omega, by omega, fun z hz => ?_, ⟨by decide, by decide⟩, fun x hx => ?_⟩
  · rw [cell_of_row _ _ _ _ _ _ h1, Nat.zero_add]
    simpa using hu
  · rw [cell_of_row _ _ _ _ _ _ h2, Nat.zero_add]
    simpa [symCells, str] using hu
  · simp at hz
    omega
  · simp at hx
    subst hx
    simp

set_option maxHeartbeats 2000000 in
set_option maxRecDepth 100000 in
theorem awake_any (w : World) (hG : Glob w) : Calls Tryz.prog 10 #[] w fun e w' => e = .returned (.bool true) ∧ Below w.heap.size w w' := by
  have HG := Lib.hid hG
  clear hG
  have HP := Lib.hid (print_yes none 0 0 none 0 0 zeroI w (img_zero w) zero_right HG.out (Nat.le_refl _))
  obtain ⟨zp, hzp⟩ : ∃ zp, zp = zeroI.print := ⟨_, rfl⟩
  obtain ⟨hz1, hz2⟩ := zero_print
  have hzr := parse_print zero_right
  rw [← hzp] at hz1 hz2 hzr HP
  have hzs := str_take zp 17
  rw [hz2] at hzs
  have HZr := Lib.hid hzr
  clear hz2 hzp hzr
  go_enter Tryz.func10, Tryz.ntmps10
  go_wp2_with fail
  refine HP.out.mono ?_
  rintro e w1 ⟨rfl, hb1⟩
  have HB1 := Lib.hid hb1
  clear hb1
  go_wp2_with fail
  refine (parse_told HZr.out _ (HG.out.below HB1.out) (by omega)).mono ?_
  rintro e w2 ⟨⟨A1, n1, c1, A2, n2, c2, rfl, hi2, hc2⟩, hb2⟩
  dsimp only [resI, errI, lineI] at hi2 ⊢
  have HB2 := Lib.hid (bT HB1.out hb2)
  have HI2 := Lib.hid hi2
  clear hb2 hi2
  go_wp2_with fail
  refine (parse_told text_sum _ (HG.out.below (bA HB2.out)) (by simp)).mono ?_
  rintro e w3 ⟨⟨D1, k1, d1, D2, k2, d2, rfl, _, _⟩, hb3⟩
  have hlc : Lib.countByte [105, 109, 97, 103, 101, 32, 48, 10, 99, 111, 100, 101, 10, 115, 117, 109, 32, 48, 48, 48, 48, 48, 48, 48, 48, 10] 10 = 3 := by decide +kernel
  dsimp only [resI, errI, lineI]
  rw [hlc]
  clear hlc
  have HB3 := Lib.hid (bT (bA HB2.out) hb3)
  have HI3 := Lib.hid ((HI2.out.below (bA (bR w2))).below hb3)
  have hbx := (hb3.block w2.heap.size (by simp)).trans (heap_alloc_new w2 (.cells #[.slice A1 n1 c1, .int .i64 0, .slice A2 n2 c2] 25))
  have HX3 := Lib.hid hbx
  clear hb3 hbx
  go_wp2_with fail
  refine (parse_told text_form _ (HG.out.below (bA HB3.out)) (by simp)).mono ?_
  rintro e w4 ⟨⟨E1, l1, e1, E2, l2, e2, rfl, _, _⟩, hb4⟩
  dsimp only [resI, errI, lineI]
  have HB4 := Lib.hid (bT (bA HB3.out) hb4)
  have HI4 := Lib.hid ((HI3.out.below (bA (bR w3))).below hb4)
  have hx4 := (hb4.block w2.heap.size (by have := (Array.getElem?_eq_some_iff.1 HX3.out).1; simp; omega)).trans ((Below.heap_alloc w3 (.cells #[.slice D1 k1 d1, .int .i64 0, .slice D2 k2 d2] 25) _ (Array.getElem?_eq_some_iff.1 HX3.out).1).trans HX3.out)
  have HX4 := Lib.hid hx4
  clear hb4 hx4
  have hK : ∀ w', Below (exW w4 (.cells #[.slice E1 l1 e1, .int .i64 0, .slice E2 l2 e2] 25)).heap.size (exW w4 (.cells #[.slice E1 l1 e1, .int .i64 0, .slice E2 l2 e2] 25)) w' →
      (w'.cell? ⟨w2.heap.size, 0, none⟩ = some (.slice A1 n1 c1) ∧ w'.cell? ⟨w2.heap.size, 1, none⟩ = some (.int .i64 0) ∧ w'.cell? ⟨w2.heap.size, 2, none⟩ = some (.slice A2 n2 c2)) ∧
      (w'.cell? ⟨w4.heap.size + 1 + 1 + 1, 0, none⟩ = some (.slice (some ⟨w4.heap.size + 1, 0, none⟩) 1 1) ∧ w'.cell? ⟨w4.heap.size + 1 + 1 + 1, 1, none⟩ = some (.int .i64 3) ∧ w'.cell? ⟨w4.heap.size + 1 + 1 + 1, 2, none⟩ = some (.slice (some ⟨w4.heap.size + 1 + 1, 0, none⟩) 1 1)) ∧
      IsImg w' A1 n1 A2 n2 zeroI ∧ IsImg w' (some ⟨w4.heap.size + 1, 0, none⟩) 1 (some ⟨w4.heap.size + 1 + 1, 0, none⟩) 1 oneI ∧ Glob w' ∧ Below w.heap.size w w' := fun w' hb => by
    have b4 := bT (ex_below w4 (.cells #[.slice E1 l1 e1, .int .i64 0, .slice E2 l2 e2] 25)) hb
    have x := cells3 ((b4.block _ (Array.getElem?_eq_some_iff.1 HX4.out).1).trans HX4.out)
    have y := cells3 ((hb.block _ (Array.getElem?_eq_some_iff.1 (ex_box w4 _)).1).trans (ex_box w4 _))
    exact ⟨⟨x.1, x.2.1, x.2.2.1⟩, ⟨y.1, y.2.1, y.2.2.1⟩, HI4.out.below b4, (ex_img w4 _).below hb, (HG.out.below HB4.out).below b4, bT HB4.out b4⟩
  have HK := Lib.hid hK
  clear hK
  obtain ⟨⟨x0, x1, x2⟩, ⟨y0, y1, y2⟩, hi5, _⟩ := HK.out _ (bR _)
  have HI5 := Lib.hid hi5
  clear hi5
  go_wp2_with fail
  refine (same_any A1 n1 c1 A2 n2 c2 zeroI none 0 0 none 0 0 zeroI _ HI5.out (img_zero _)).mono ?_
  rintro e w6 ⟨rfl, hb6⟩
  rw [(same_iff zeroI zeroI).2 rfl]
  have HB6 := Lib.hid hb6
  obtain ⟨⟨x0, x1, x2⟩, ⟨y0, y1, y2⟩, _, hi6, _⟩ := HK.out _ hb6
  have HI6 := Lib.hid hi6
  clear hb6 hi6
  go_wp2_with fail
  refine (right_any _ 1 1 _ 1 1 oneI _ HI6.out).mono ?_
  rintro e w7 ⟨rfl, hb7⟩
  rw [one_right]
  have hb7' := HB6.out.trans (hb7.mono HB6.out.size)
  have HB7 := Lib.hid hb7'
  obtain ⟨⟨x0, x1, x2⟩, ⟨y0, y1, y2⟩, _, hi7, _⟩ := HK.out _ hb7'
  have HI7 := Lib.hid hi7
  clear hb7 hb7' hi7
  go_wp2_with fail
  refine (find_any _ 1 1 _ 1 1 oneI [97] _ HI7.out).mono ?_
  rintro e w8 ⟨rfl, hb8⟩
  rw [one_find_a]
  have hb8' := HB7.out.trans (hb8.mono HB7.out.size)
  have HB8 := Lib.hid hb8'
  obtain ⟨⟨x0, x1, x2⟩, ⟨y0, y1, y2⟩, _, hi8, _⟩ := HK.out _ hb8'
  have HI8 := Lib.hid hi8
  clear hb8 hb8' hi8
  go_wp2_with fail
  refine (find_any _ 1 1 _ 1 1 oneI [98] _ HI8.out).mono ?_
  rintro e w9 ⟨rfl, hb9⟩
  rw [one_find_b]
  have hb9' := HB8.out.trans (hb9.mono HB8.out.size)
  have HB9 := Lib.hid hb9'
  obtain ⟨⟨x0, x1, x2⟩, ⟨y0, y1, y2⟩, _, hi9, hg9, _⟩ := HK.out _ hb9'
  have HI9 := Lib.hid hi9
  have HG9 := Lib.hid hg9
  clear hb9 hb9' hi9 hg9
  have hsum := one_sum
  obtain ⟨sm, hsm⟩ : ∃ sm, sm = sumL oneI.head := ⟨_, rfl⟩
  have HS := Lib.hid (sumOf_yes _ 1 1 _ 1 1 oneI _ HI9.out one_right HG9.out (Nat.le_refl _))
  rw [← hsm] at hsum HS
  clear hsm
  go_wp2_with fail
  refine HS.out.mono ?_
  rintro e w10 ⟨rfl, hb10⟩
  have hb10' := HB9.out.trans (hb10.mono HB9.out.size)
  have HB10 := Lib.hid hb10'
  obtain ⟨⟨x0, x1, x2⟩, ⟨y0, y1, y2⟩, hz10, hi10, _⟩ := HK.out _ hb10'
  have HI10 := Lib.hid hi10
  have HZ10 := Lib.hid hz10
  clear hb10 hb10' hi10 hz10
  go_wp2_with fail
  refine (same_any _ 1 1 _ 1 1 oneI A1 n1 c1 A2 n2 c2 zeroI _ HI10.out HZ10.out).mono ?_
  rintro e w11 ⟨rfl, hb11⟩
  have hsf : oneI.same zeroI = false := by decide +kernel
  rw [hsf]
  clear hsf
  obtain ⟨_, _, _, _, _, hfin⟩ := HK.out _ (HB10.out.trans (hb11.mono HB10.out.size))
  have HFin := Lib.hid hfin
  clear hfin hb11
  go_wp2
  go_ret
  exact ⟨rfl, HFin.out⟩
end Go.Proofs.YtgajlhejefjhhaaGreatDoor
