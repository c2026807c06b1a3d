/- The walk of the statement ImageBack. No condition of ours. -/
import Derived.Test.YtgajlhejefjhhaaGreatDoorT31
namespace Go.Proofs.YtgajlhejefjhhaaGreatDoor
open Go.RowKit

/-! ### the statement ImageBack -/
set_option maxHeartbeats 2000000 in
set_option maxRecDepth 100000 in
theorem back_any (A1 : Option Addr) (n1 c1 : Nat) (A2 : Option Addr) (n2 c2 : Nat) (m : Img) (B1 : Option Addr) (k1 d1 : Nat) (B2 : Option Addr) (k2 d2 : Nat) (k : Img) (w : World) (h : IsImg w A1 n1 A2 n2 m) (h' : IsImg w B1 k1 B2 k2 k) (hG : Glob w) :
    Calls Tryz.prog 4 #[.agg #[.slice A1 n1 c1, .int .i64 m.mem, .slice A2 n2 c2], .agg #[.slice B1 k1 d1, .int .i64 k.mem, .slice B2 k2 d2]] w fun e w' => e = .returned (.bool true) ∧ Below w.heap.size w w' := by
  obtain ⟨a, ha⟩ : ∃ a, a = m.mem := ⟨_, rfl⟩
  obtain ⟨b, hb⟩ : ∃ b, b = k.mem := ⟨_, rfl⟩
  obtain ⟨x, hx⟩ : ∃ x, x = m.fit := ⟨_, rfl⟩
  obtain ⟨y, hy⟩ : ∃ y, y = k.fit := ⟨_, rfl⟩
  have HPx := Lib.hid (show x.print.length ≤ 1013 from hx ▸ fit_short m)
  have hF1 := fit_told A1 n1 c1 A2 n2 c2 m hx
  have hF2 := fit_told B1 k1 d1 B2 k2 d2 k hy
  rw [← ha] at hF1 ⊢
  rw [← hb] at hF2 ⊢
  have HF1 := Lib.hid hF1
  have HF2 := Lib.hid hF2
  have HX := Lib.hid (show x.right = true from hx ▸ fit_right m)
  have HY := Lib.hid (show y.right = true from hy ▸ fit_right k)
  have hB := bA (o := .cells #[.slice B1 k1 d1, .int .i64 b, .slice B2 k2 d2] 25) (bA (o := .cells #[.slice A1 n1 c1, .int .i64 a, .slice A2 n2 c2] 25) (bR w))
  have H := Lib.hid (h.below hB)
  have H' := Lib.hid (h'.below hB)
  have HG := Lib.hid (hG.below hB)
  have HB := Lib.hid hB
  have hn' := box_new (w.alloc (.cells #[.slice A1 n1 c1, .int .i64 a, .slice A2 n2 c2] 25)) B1 k1 d1 b B2 k2 d2
  rw [World.size_alloc] at hn'
  have HN' := Lib.hid hn'
  have HN := Lib.hid (box_below (box_new w A1 n1 c1 a A2 n2 c2) (bA (o := .cells #[.slice B1 k1 d1, .int .i64 b, .slice B2 k2 d2] 25) (bR _)))
  clear hB h h' hG hn' hF1 hF2 ha hb hx hy
  go_enter Tryz.func4, Tryz.ntmps4
  go_wp2_with fail
  refine (awake_any _ HG.out).mono ?_
  rintro e w1 ⟨rfl, hb1⟩
  have HB1 := Lib.hid (bT HB.out hb1)
  have H1 := Lib.hid (H.out.below hb1)
  have H1' := Lib.hid (H'.out.below hb1)
  have HG1 := Lib.hid (HG.out.below hb1)
  have HN1' := Lib.hid (box_below HN'.out hb1)
  have HN1 := Lib.hid (box_below HN.out hb1)
  clear hb1
  obtain ⟨r0, r1, r2, _⟩ := cells3 HN1.out
  go_wp2_with fail
  refine (HF1.out _ H1.out).mono ?_
  rintro e w2 ⟨⟨F1, p, f1, F2, q, f2, rfl, hi2, hf1, hp, hq, _, _⟩, hb2⟩
  clear r0 r1 r2
  have hb2a := bA (o := .cells #[.slice F1 p f1, .int .i64 x.mem, .slice F2 q f2] 25) hb2
  have HB2 := Lib.hid (bT HB1.out hb2a)
  have HI2 := Lib.hid (hi2.below (bA (o := .cells #[.slice F1 p f1, .int .i64 x.mem, .slice F2 q f2] 25) (bR w2)))
  have H2' := Lib.hid (H1'.out.below hb2a)
  have HG2 := Lib.hid (HG1.out.below hb2a)
  have HN2' := Lib.hid (box_below HN1'.out hb2a)
  have HX2 := Lib.hid (box_new w2 F1 p f1 x.mem F2 q f2)
  clear hb2 hb2a hi2
  obtain ⟨r0, r1, r2, _⟩ := cells3 HN2'.out
  go_wp2_with fail
  refine (HF2.out _ H2'.out).mono ?_
  rintro e w3 ⟨⟨G1, s, g1, G2, t, g2, rfl, hi3, hg1, hs, ht, _, _⟩, hb3⟩
  clear r0 r1 r2
  have hb3a := bA (o := .cells #[.slice G1 s g1, .int .i64 y.mem, .slice G2 t g2] 25) hb3
  have HB3 := Lib.hid (bT HB2.out hb3a)
  have HI3 := Lib.hid (HI2.out.below hb3a)
  have HJ3 := Lib.hid (hi3.below (bA (o := .cells #[.slice G1 s g1, .int .i64 y.mem, .slice G2 t g2] 25) (bR w3)))
  have HG3 := Lib.hid (HG2.out.below hb3a)
  have HX3 := Lib.hid (box_below HX2.out hb3a)
  have HY3 := Lib.hid (box_new w3 G1 s g1 y.mem G2 t g2)
  clear hb3 hb3a hi3
  obtain ⟨r0, r1, r2, _⟩ := cells3 HX3.out
  go_wp2_with fail
  refine (print_yes F1 p f1 F2 q f2 x _ HI3.out HX.out HG3.out hf1).mono ?_
  rintro e w4 ⟨rfl, hb4⟩
  clear r0 r1 r2
  have HB4 := Lib.hid (bT HB3.out hb4)
  have HI4 := Lib.hid (HI3.out.below hb4)
  have HJ4 := Lib.hid (HJ3.out.below hb4)
  have HG4 := Lib.hid (HG3.out.below hb4)
  have HX4 := Lib.hid (box_below HX3.out hb4)
  have HY4 := Lib.hid (box_below HY3.out hb4)
  clear hb4
  obtain ⟨px, hpx⟩ : ∃ px, px = x.print := ⟨_, rfl⟩
  rw [← hpx]
  have hpl : px.length ≤ 1013 := by rw [hpx]; exact HPx.out
  have HPp := Lib.hid (show parseR px = some (some x) by rw [hpx]; exact parse_print HX.out)
  have HPe := Lib.hid hpx
  clear hpx
  obtain ⟨r0, r1, r2, _⟩ := cells3 HY4.out
  go_wp2_with fail
  refine (print_yes G1 s g1 G2 t g2 y _ HJ4.out HY.out HG4.out hg1).mono ?_
  rintro e w5 ⟨rfl, hb5⟩
  clear r0 r1 r2
  have HB5 := Lib.hid (bT HB4.out hb5)
  have HI5 := Lib.hid (HI4.out.below hb5)
  have HJ5 := Lib.hid (HJ4.out.below hb5)
  have HG5 := Lib.hid (HG4.out.below hb5)
  have HX5 := Lib.hid (box_below HX4.out hb5)
  have HY5 := Lib.hid (box_below HY4.out hb5)
  clear hb5
  obtain ⟨py, hpy⟩ : ∃ py, py = y.print := ⟨_, rfl⟩
  rw [← hpy]
  have HEq := Lib.hid (show ((px == py) == x.same y) = true by
    have h : px = py ↔ x.same y = true := by
      rw [HPe.out, hpy, same_iff]
      exact ⟨fun h => print_inj HX.out HY.out h, fun h => by rw [h]⟩
    rw [beq_iff_eq, Bool.eq_iff_iff, beq_iff_eq]
    exact h)
  clear hpy
  go_wp2_with fail
  refine (parse_told HPp.out _ HG5.out (by omega)).mono ?_
  rintro e w6 ⟨⟨D1, u, v1, D2, v, v2, rfl, hi6, hc6⟩, hb6⟩
  dsimp only [resI, errI, lineI] at hi6 ⊢
  have hb6a := bA (o := .cells #[.slice D1 u v1, .int .i64 x.mem, .slice D2 v v2] 25) hb6
  have HB6 := Lib.hid (bT HB5.out hb6a)
  have HI6 := Lib.hid (HI5.out.below hb6a)
  have HJ6 := Lib.hid (HJ5.out.below hb6a)
  have HZ6 := Lib.hid (hi6.below (bA (o := .cells #[.slice D1 u v1, .int .i64 x.mem, .slice D2 v v2] 25) (bR w6)))
  have HX6 := Lib.hid (box_below HX5.out hb6a)
  have HY6 := Lib.hid (box_below HY5.out hb6a)
  have HW6 := Lib.hid (box_new w6 D1 u v1 x.mem D2 v v2)
  clear hb6 hb6a hi6
  obtain ⟨r0, r1, r2, _⟩ := cells3 HX6.out
  obtain ⟨t0, t1, t2, _⟩ := cells3 HW6.out
  go_wp2_with fail
  refine (same_any F1 p f1 F2 q f2 x D1 u v1 D2 v v2 x _ HI6.out HZ6.out).mono ?_
  rintro e w7 ⟨rfl, hb7⟩
  rw [(same_iff x x).2 rfl]
  clear r0 r1 r2 t0 t1 t2
  have HB7 := Lib.hid (bT HB6.out hb7)
  have HI7 := Lib.hid (HI6.out.below hb7)
  have HJ7 := Lib.hid (HJ6.out.below hb7)
  have HX7 := Lib.hid (box_below HX6.out hb7)
  have HY7 := Lib.hid (box_below HY6.out hb7)
  clear hb7
  obtain ⟨r0, r1, r2, _⟩ := cells3 HX7.out
  obtain ⟨t0, t1, t2, _⟩ := cells3 HY7.out
  go_wp2_with fail
  refine (same_any F1 p f1 F2 q f2 x G1 s g1 G2 t g2 y _ HI7.out HJ7.out).mono ?_
  rintro e w8 ⟨rfl, hb8⟩
  have HB8 := Lib.hid (bT HB7.out hb8)
  clear hb8 r0 r1 r2 t0 t1 t2
  go_wp2
  go_ret
  exact ⟨ret_bool HEq.out, HB8.out⟩
end Go.Proofs.YtgajlhejefjhhaaGreatDoor
