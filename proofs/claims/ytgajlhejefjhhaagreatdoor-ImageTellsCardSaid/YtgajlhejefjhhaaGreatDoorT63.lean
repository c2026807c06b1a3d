/- The walk of the statement ImageTells. No condition of ours. -/
import Derived.Test.YtgajlhejefjhhaaGreatDoorT62
import Derived.Deep.CutRange
import Derived.Deep.RegionHeld3
import Derived.IntWalk
namespace Go.Proofs.YtgajlhejefjhhaaGreatDoor
open Go.RowKit

/-! ### the statement's first part -/
/-- what the statement holds in its variables -/
def TellS (w : World) (b0 b14 : Nat) (F1 : Option Addr) (p f1 : Nat) (xm : Int) (F2 : Option Addr) (q f2 : Nat) (x : Img) (wx : World) : Prop :=
  ∃ y E1 p1 d1 E2 p2 d2, Box wx b0 E1 p1 d1 y.mem E2 p2 d2 ∧ IsImg wx E1 p1 E2 p2 y ∧ p1 ≤ d1 ∧ Box wx b14 F1 p f1 xm F2 q f2 ∧ IsImg wx F1 p F2 q x ∧ Below w.heap.size w wx

/-- two images lie in a row -/
abbrev Two (w : World) (b : Nat) (E1 : Option Addr) (p1 d1 : Nat) (me : Int) (E2 : Option Addr) (p2 d2 : Nat) (F1 : Option Addr) (q1 f1 : Nat) (mx : Int) (F2 : Option Addr) (q2 f2 : Nat) : Prop :=
  w.heap[b]? = some (.cells #[.slice E1 p1 d1, .int .i64 me, .slice E2 p2 d2, .slice F1 q1 f1, .int .i64 mx, .slice F2 q2 f2] 25)

theorem own_at {w : World} {base e size : Nat} {F : Option Addr} {n c : Nat} {k : Nat} {xs : List Value} (h : w.ownsRow base e size (.slice F n c) k xs) : ∀ a, F = some a → base ≤ a.block := by
  intro a ha
  rcases h.2 with ⟨h1, _⟩ | ⟨g, cap, cur, h1, hb, _⟩
  · injection h1 with h1
    rw [h1] at ha
    cases ha
  · injection h1 with h1
    rw [h1] at ha
    injection ha with ha
    subst ha
    exact hb

set_option maxHeartbeats 8000000 in
set_option maxRecDepth 100000 in
theorem tells_any (A1 : Option Addr) (n1 c1 : Nat) (A2 : Option Addr) (n2 c2 : Nat) (m : Img) (B1 : Option Addr) (k1 e1 : Nat) (B2 : Option Addr) (k2 e2 : Nat) (raw : Img) (s : List UInt8) (at' : Int) (more name : List UInt8) (w : World)
    (h : IsImg w A1 n1 A2 n2 m) (hc1 : n1 ≤ c1) (h' : IsImg w B1 k1 B2 k2 raw) (hsl : s.length ≤ 140737488355328) (ha1 : -9223372036854775808 ≤ at') (ha2 : at' ≤ 9223372036854775807) (hml : more.length ≤ 140737488355328) (hG : Glob w) :
    Calls Tryz.prog 3 #[.agg #[.slice A1 n1 c1, .int .i64 m.mem, .slice A2 n2 c2], .agg #[.slice B1 k1 e1, .int .i64 raw.mem, .slice B2 k2 e2], .string (str s), .int .i64 at', .string (str more), .string (str name)] w fun e w' => e = .returned (.bool true) ∧ Below w.heap.size w w' := by
  obtain ⟨a, ha⟩ : ∃ a, a = m.mem := ⟨_, rfl⟩
  obtain ⟨b, hb⟩ : ∃ b, b = raw.mem := ⟨_, rfl⟩
  obtain ⟨x, hx⟩ : ∃ x, x = raw.fit := ⟨_, rfl⟩
  have hF := fit_told B1 k1 e1 B2 k2 e2 raw hx
  rw [← ha]
  rw [← hb] at hF ⊢
  have HF := Lib.hid hF
  have HX := Lib.hid (show x.right = true from hx ▸ fit_right raw)
  have HPx := Lib.hid (show x.print.length ≤ 1013 from hx ▸ fit_short raw)
  have HPa := Lib.hid (fun (n : Int) w' (hn : 0 < n) => pick_any at' n w' hn ha1 ha2)
  have hB := bA (o := .cells #[.slice B1 k1 e1, .int .i64 b, .slice B2 k2 e2] 25) (bA (o := .cells #[.slice A1 n1 c1, .int .i64 a, .slice A2 n2 c2] 25) (bR w))
  have H := Lib.hid (h.below hB)
  have H' := Lib.hid (h'.below hB)
  have HG := Lib.hid (hG.below hB)
  have HG0 := Lib.hid hG
  have HB := Lib.hid hB
  have HA := Lib.hid ha
  have hn' := box_new (w.alloc (.cells #[.slice A1 n1 c1, .int .i64 a, .slice A2 n2 c2] 25)) B1 k1 e1 b B2 k2 e2
  rw [World.size_alloc] at hn'
  have HN' := Lib.hid hn'
  have HN := Lib.hid (box_below (box_new w A1 n1 c1 a A2 n2 c2) (bA (o := .cells #[.slice B1 k1 e1, .int .i64 b, .slice B2 k2 e2] 25) (bR _)))
  clear hB h h' hG hn' hF ha hb hx ha1 ha2
  go_enter Tryz.func3, Tryz.ntmps3
  go_wp2_with fail
  refine (awake_any _ HG.out).mono ?_
  rintro e w1 ⟨rfl, hb1⟩
  have HB1 := Lib.hid (bT HB.out hb1)
  have H1 := Lib.hid (H.out.below hb1)
  have H1' := Lib.hid (H'.out.below hb1)
  have HN1' := Lib.hid (box_below HN'.out hb1)
  have HN1 := Lib.hid (box_below HN.out hb1)
  clear hb1
  obtain ⟨r0, r1, r2, _⟩ := cells3 HN1'.out
  go_wp2_with fail
  refine (HF.out _ H1'.out).mono ?_
  rintro e w2 ⟨⟨F1, p, f1, F2, q, f2, rfl, hi2, hf1, hp, hq, ho1, ho2⟩, hb2⟩
  clear r0 r1 r2
  obtain ⟨xm, hxm⟩ : ∃ xm, xm = x.mem := ⟨_, rfl⟩
  rw [← hxm]
  have hb2a := bA (o := .cells #[.slice F1 p f1, .int .i64 xm, .slice F2 q f2] 25) hb2
  have HB2 := Lib.hid (bT HB1.out hb2a)
  have HI2 := Lib.hid (hi2.below (bA (o := .cells #[.slice F1 p f1, .int .i64 xm, .slice F2 q f2] 25) (bR w2)))
  have H2 := Lib.hid (H1.out.below hb2a)
  have HN2 := Lib.hid (box_below HN1.out hb2a)
  have HX2 := Lib.hid (box_new w2 F1 p f1 xm F2 q f2)
  have HXM := Lib.hid hxm
  have HS2 := Lib.hid (show w1.heap.size ≤ w2.heap.size from hb2.size)
  have HO1 := Lib.hid (own_at ho1)
  have HO2 := Lib.hid (own_at ho2)
  clear hb2 hb2a hi2 hxm ho1 ho2
  obtain ⟨W2, hW2⟩ : ∃ W2, W2 = w2.alloc (.cells #[.slice F1 p f1, .int .i64 xm, .slice F2 q f2] 25) := ⟨_, rfl⟩
  rw [← hW2] at HB2 HI2 H2 HN2 HX2
  go_upto_region 3 with fail
  rw [← hW2]
  clear hW2
  obtain ⟨b0, hb0⟩ : ∃ b0, b0 = w.heap.size := ⟨_, rfl⟩
  obtain ⟨b14, hb14⟩ : ∃ b14, b14 = w2.heap.size := ⟨_, rfl⟩
  rw [← hb14] at HX2 ⊢
  have hne : b0 ≠ b14 := by
    subst hb0
    subst hb14
    have h1 := HB1.out.size
    have h2 := box_lt HN1.out
    have h3 := HS2.out
    omega
  rw [← hb0] at HN2 ⊢
  have HLe := Lib.hid (show w.heap.size ≤ b0 from Nat.le_of_eq hb0.symm)
  have HLt := Lib.hid (show b0 < w1.heap.size from hb0 ▸ box_lt HN1.out)
  clear hb0 hb14
  obtain ⟨r0, r1, r2, _⟩ := cells3 HN2.out
  obtain ⟨q0, q1, q2, _⟩ := cells3 HX2.out
  clear q0 q1 q2
  go_upto_if 42 with fail
  go_cut [43] from 43 to 43 (fun s43 wx => TellS w b0 b14 F1 p f1 xm F2 q f2 x wx)
  case first =>
    by_cases hw : 50 < wrap64 ((n1 : Int) + (n2 : Int))
    · go_wp2_with fail
      go_meet
      case rel =>
        have hlt1 := HLt.out
        have hf : ∀ k, k ≠ b0 → (((W2.setCell ⟨b0, 0, none⟩ (.slice none 0 0)).setCell ⟨b0, 1, none⟩ (.int .i64 0)).setCell ⟨b0, 2, none⟩ (.slice none 0 0)).heap[k]? = W2.heap[k]? := fun k hk => by
          rw [Below.heap_setCell _ _ _ _ hk, Below.heap_setCell _ _ _ _ hk, Below.heap_setCell _ _ _ _ hk]
        exact ⟨⟨[], 0, []⟩, none, 0, 0, none, 0, 0, set3 HN2.out, img_zero _, Nat.le_refl _, (hf b14 (fun e => hne e.symm)).trans HX2.out,
          HI2.out.far b0 (by simp [World.setCell]) (fun k hk _ => hf k hk) (fun a ha => by have := HO1.out a ha; omega) (fun a ha => by have := HO2.out a ha; omega),
          bS (bS (bS HB2.out HLe.out) HLe.out) HLe.out⟩
    · go_wp2_with fail
      go_meet
      case rel => exact ⟨m, A1, n1, c1, A2, n2, c2, HA.out ▸ HN2.out, H2.out, hc1, HX2.out, HI2.out, HB2.out⟩
  case rest =>
    obtain ⟨y, E1, p1, d1, E2, p2, d2, hbx, hiy, hpd, hbx14, hix, hbw⟩ := hcut
    obtain ⟨ym, hym⟩ : ∃ ym, ym = y.mem := ⟨_, rfl⟩
    rw [← hym] at hbx
    have HYM := Lib.hid hym
    have HBX := Lib.hid hbx
    have HIY := Lib.hid hiy
    have HBX14 := Lib.hid hbx14
    have HIX := Lib.hid hix
    have HBW := Lib.hid hbw
    clear hym hbx hiy hbx14 hix hbw r0 r1 r2 HB HB1 HB2 HI2 HN2 HX2 HN1 HN1' HN HN' H1 H1' H H' H2 HF HO1 HO2 HG HS2 HLt
    obtain ⟨r0, r1, r2, _⟩ := cells3 HBX.out
    obtain ⟨q0, q1, q2, _⟩ := cells3 HBX14.out
    go_wp2_with fail
    obtain ⟨b46, hb46⟩ : ∃ b46, b46 = wc.heap.size := ⟨_, rfl⟩
    obtain ⟨W3, hW3⟩ : ∃ W3, W3 = wc.alloc (.cells #[.slice E1 p1 d1, .int .i64 ym, .slice E2 p2 d2, .slice F1 p f1, .int .i64 xm, .slice F2 q f2] 25) := ⟨_, rfl⟩
    have hb3 := bA (o := .cells #[.slice E1 p1 d1, .int .i64 ym, .slice E2 p2 d2, .slice F1 p f1, .int .i64 xm, .slice F2 q f2] 25) (bR wc)
    have htw := heap_alloc_new wc (.cells #[.slice E1 p1 d1, .int .i64 ym, .slice E2 p2 d2, .slice F1 p f1, .int .i64 xm, .slice F2 q f2] 25)
    rw [← hb46] at htw
    rw [← hW3] at hb3 htw
    have HTW := Lib.hid htw
    have HIY3 := Lib.hid (HIY.out.below hb3)
    have HIX3 := Lib.hid (HIX.out.below hb3)
    have HBX3 := Lib.hid (box_below HBX14.out hb3)
    have HBW3 := Lib.hid (bT HBW.out hb3)
    rw [← hb46, ← hW3]
    clear hb46 hW3 hb3 htw r0 r1 r2 q0 q1 q2 HBX HIY HIX HBX14 HBW
    go_loopw [48] (fun v wr => ∃ i : Nat, i ≤ 2 ∧ v = .int .i64 i ∧ Below W3.heap.size W3 wr) (fun v _ => 2 - (intOf v).toNat)
    case atStart => exact ⟨0, by omega, rfl, bR W3⟩
    case round =>
      obtain ⟨i, hi2, rfl, hBr⟩ := hrel
      obtain ⟨w5, rfl⟩ : ∃ x, x = wr := ⟨wr, rfl⟩
      have HBr := Lib.hid hBr
      clear hBr
      by_cases hlt : i < 2
      · obtain ⟨z, G1, g1, h1, G2, g2, h2, t0, t1, t2, hiz, hgh⟩ : ∃ z G1 g1 h1 G2 g2 h2, w5.cell? ⟨b46, i * 3, none⟩ = some (.slice G1 g1 h1) ∧ w5.cell? ⟨b46, i * 3 + 1, none⟩ = some (.int .i64 z.mem) ∧ w5.cell? ⟨b46, i * 3 + 2, none⟩ = some (.slice G2 g2 h2) ∧ IsImg W3 G1 g1 G2 g2 z ∧ g1 ≤ h1 := by
          have hrow := (HBr.out.block b46 (Array.getElem?_eq_some_iff.1 HTW.out).1).trans HTW.out
          rw [cell_of_row w5 _ (i * 3) _ _ _ hrow, cell_of_row w5 _ (i * 3 + 1) _ _ _ hrow, cell_of_row w5 _ (i * 3 + 2) _ _ _ hrow]
          rcases (show i = 0 ∨ i = 1 by omega) with rfl | rfl
          · exact ⟨y, E1, p1, d1, E2, p2, d2, rfl, by rw [← HYM.out]; rfl, rfl, HIY3.out, hpd⟩
          · exact ⟨x, F1, p, f1, F2, q, f2, rfl, by rw [← HXM.out]; rfl, rfl, HIX3.out, hf1⟩
        obtain ⟨zm, hzm⟩ : ∃ zm, zm = z.mem := ⟨_, rfl⟩
        rw [← hzm] at t1
        obtain ⟨W6, hW6⟩ : ∃ W6, W6 = w5.alloc (.cells #[.slice G1 g1 h1, .int .i64 zm, .slice G2 g2 h2] 25) := ⟨_, rfl⟩
        obtain ⟨b16, hb16⟩ : ∃ b16, b16 = w5.heap.size := ⟨_, rfl⟩
        have hb6 := bA (o := .cells #[.slice G1 g1 h1, .int .i64 zm, .slice G2 g2 h2] 25) HBr.out
        have hbz6 := box_new w5 G1 g1 h1 zm G2 g2 h2
        rw [← hb16] at hbz6
        rw [← hW6] at hb6 hbz6
        have HB6 := Lib.hid hb6
        have HBZ6 := Lib.hid hbz6
        have HIZ6 := Lib.hid (hiz.below hb6)
        have HIX6 := Lib.hid (HIX3.out.below hb6)
        have HBX6 := Lib.hid (box_below HBX3.out hb6)
        have HG6 := Lib.hid (HG0.out.below (bT HBW3.out hb6))
        have HS6 := Lib.hid (show ∀ wx, Below W6.heap.size W6 wx → wx.cell? ⟨b16, 0, none⟩ = some (.slice G1 g1 h1) ∧ wx.cell? ⟨b16, 1, none⟩ = some (.int .i64 zm) ∧ wx.cell? ⟨b16, 2, none⟩ = some (.slice G2 g2 h2) ∧ wx.cell? ⟨b14, 0, none⟩ = some (.slice F1 p f1) ∧ wx.cell? ⟨b14, 1, none⟩ = some (.int .i64 xm) ∧ wx.cell? ⟨b14, 2, none⟩ = some (.slice F2 q f2) from fun wx hb => by
          obtain ⟨s0, s1, s2, _⟩ := cells3 (box_below HBZ6.out hb)
          obtain ⟨s3, s4, s5, _⟩ := cells3 (box_below HBX6.out hb)
          exact ⟨s0, s1, s2, s3, s4, s5⟩)
        obtain ⟨T, hT⟩ : ∃ T, T = z.outL := ⟨_, rfl⟩
        obtain ⟨E, hE⟩ : ∃ E, E = z.outE := ⟨_, rfl⟩
        obtain ⟨Sm, hSm⟩ : ∃ Sm, Sm = z.outS := ⟨_, rfl⟩
        obtain ⟨R, hR⟩ : ∃ R, R = z.right := ⟨_, rfl⟩
        obtain ⟨Fn, hFn⟩ : ∃ Fn, Fn = z.find name := ⟨_, rfl⟩
        obtain ⟨Fa, hFa⟩ : ∃ Fa, Fa = z.find [97, 98] := ⟨_, rfl⟩
        obtain ⟨Sa, hSa⟩ : ∃ Sa, Sa = z.same x := ⟨_, rfl⟩
        have HC12 := Lib.hid (show ∀ wx, Below W6.heap.size W6 wx → Calls Tryz.prog 12 #[.agg #[.slice G1 g1 h1, .int .i64 zm, .slice G2 g2 h2]] wx fun e w' => e = .returned (.tuple #[.string (str T), .int .i64 E]) ∧ Below wx.heap.size wx w' from fun wx hb => by rw [hT, hE, hzm]; exact print_told _ _ _ _ _ _ _ _ (HIZ6.out.below hb) (HG6.out.below hb) hgh)
        have HC13 := Lib.hid (show ∀ wx, Below W6.heap.size W6 wx → Calls Tryz.prog 13 #[.agg #[.slice G1 g1 h1, .int .i64 zm, .slice G2 g2 h2]] wx fun e w' => e = .returned (.tuple #[.string (str T), .int .i64 E]) ∧ Below wx.heap.size wx w' from fun wx hb => by rw [hT, hE, hzm]; exact refPrint_told _ _ _ _ _ _ _ _ (HIZ6.out.below hb))
        have HC14 := Lib.hid (show ∀ wx, Below W6.heap.size W6 wx → Calls Tryz.prog 14 #[.agg #[.slice G1 g1 h1, .int .i64 zm, .slice G2 g2 h2]] wx fun e w' => e = .returned (.bool R) ∧ Below wx.heap.size wx w' from fun wx hb => by rw [hR, hzm]; exact right_any _ _ _ _ _ _ _ _ (HIZ6.out.below hb))
        have HC15 := Lib.hid (show ∀ wx, Below W6.heap.size W6 wx → Calls Tryz.prog 15 #[.agg #[.slice G1 g1 h1, .int .i64 zm, .slice G2 g2 h2]] wx fun e w' => e = .returned (.bool R) ∧ Below wx.heap.size wx w' from fun wx hb => by rw [hR, hzm]; exact refRight_any _ _ _ _ _ _ _ _ (HIZ6.out.below hb))
        have HC16 := Lib.hid (show ∀ wx, Below W6.heap.size W6 wx → Calls Tryz.prog 16 #[.agg #[.slice G1 g1 h1, .int .i64 zm, .slice G2 g2 h2]] wx fun e w' => e = .returned (.int .i64 Sm) ∧ Below wx.heap.size wx w' from fun wx hb => by rw [hSm, hzm]; exact sum_told _ _ _ _ _ _ _ _ (HIZ6.out.below hb) (HG6.out.below hb) hgh)
        have HC17 := Lib.hid (show ∀ wx, Below W6.heap.size W6 wx → Calls Tryz.prog 17 #[.agg #[.slice G1 g1 h1, .int .i64 zm, .slice G2 g2 h2]] wx fun e w' => e = .returned (.int .i64 Sm) ∧ Below wx.heap.size wx w' from fun wx hb => by rw [hSm, hzm]; exact refSum_told _ _ _ _ _ _ _ _ (HIZ6.out.below hb))
        have HC18 := Lib.hid (show ∀ wx, Below W6.heap.size W6 wx → Calls Tryz.prog 18 #[.agg #[.slice G1 g1 h1, .int .i64 zm, .slice G2 g2 h2], .string (str name)] wx fun e w' => e = .returned (.int .i64 Fn) ∧ Below wx.heap.size wx w' from fun wx hb => by rw [hFn, hzm]; exact find_any _ _ _ _ _ _ _ _ _ (HIZ6.out.below hb))
        have HC19 := Lib.hid (show ∀ wx, Below W6.heap.size W6 wx → Calls Tryz.prog 19 #[.agg #[.slice G1 g1 h1, .int .i64 zm, .slice G2 g2 h2], .string (str name)] wx fun e w' => e = .returned (.int .i64 Fn) ∧ Below wx.heap.size wx w' from fun wx hb => by rw [hFn, hzm]; exact refFind_any _ _ _ _ _ _ _ _ _ (HIZ6.out.below hb))
        have HC18a := Lib.hid (show ∀ wx, Below W6.heap.size W6 wx → Calls Tryz.prog 18 #[.agg #[.slice G1 g1 h1, .int .i64 zm, .slice G2 g2 h2], .string ⟨#[97, 98]⟩] wx fun e w' => e = .returned (.int .i64 Fa) ∧ Below wx.heap.size wx w' from fun wx hb => by rw [hFa, hzm]; exact find_any _ _ _ _ _ _ _ _ _ (HIZ6.out.below hb))
        have HC19a := Lib.hid (show ∀ wx, Below W6.heap.size W6 wx → Calls Tryz.prog 19 #[.agg #[.slice G1 g1 h1, .int .i64 zm, .slice G2 g2 h2], .string ⟨#[97, 98]⟩] wx fun e w' => e = .returned (.int .i64 Fa) ∧ Below wx.heap.size wx w' from fun wx hb => by rw [hFa, hzm]; exact refFind_any _ _ _ _ _ _ _ _ _ (HIZ6.out.below hb))
        have HC20 := Lib.hid (show ∀ wx, Below W6.heap.size W6 wx → Calls Tryz.prog 20 #[.agg #[.slice G1 g1 h1, .int .i64 zm, .slice G2 g2 h2], .agg #[.slice F1 p f1, .int .i64 xm, .slice F2 q f2]] wx fun e w' => e = .returned (.bool Sa) ∧ Below wx.heap.size wx w' from fun wx hb => by rw [hSa, hzm, HXM.out]; exact same_any _ _ _ _ _ _ _ _ _ _ _ _ _ _ _ (HIZ6.out.below hb) (HIX6.out.below hb))
        have HC21 := Lib.hid (show ∀ wx, Below W6.heap.size W6 wx → Calls Tryz.prog 21 #[.agg #[.slice G1 g1 h1, .int .i64 zm, .slice G2 g2 h2], .agg #[.slice F1 p f1, .int .i64 xm, .slice F2 q f2]] wx fun e w' => e = .returned (.bool Sa) ∧ Below wx.heap.size wx w' from fun wx hb => by rw [hSa, hzm, HXM.out]; exact refSame_any _ _ _ _ _ _ _ _ _ _ _ _ _ _ _ (HIZ6.out.below hb) (HIX6.out.below hb))
        clear hT hE hSm hR hFn hFa hSa hzm hb6 hbz6 hiz
        go_wp2_with fail
        rw [← hb16, ← hW6]
        clear hW6 hb16 t0 t1 t2
        refine (HC12.out _ (bR _)).mono ?_
        rintro e w7 ⟨rfl, hb7⟩
        obtain ⟨s0, s1, s2, s3, s4, s5⟩ := HS6.out w7 hb7
        have HB7 := Lib.hid hb7
        clear hb7
        go_wp2_with fail
        refine (HC13.out _ HB7.out).mono ?_
        rintro e w8 ⟨rfl, hb8⟩
        clear s0 s1 s2 s3 s4 s5
        have HB8 := Lib.hid (bT HB7.out hb8)
        clear hb8
        go_upto_region 10 with fail
        refine wp_region_held_drew (S := fun wx => Below W6.heap.size W6 wx) (by kernel_rfl) (bD HB8.out) (fun hHeld => ?_)
        refine wpAnyH_take (i := 0) (v := ?_) (at0) (by kernel_rfl) (by kernel_rfl) (by kernel_rfl) (fun _ _ _ h => h) (Or.inl ⟨rfl, ?_⟩) (by assumption) ?_
        rotate_left
        · (intro w hSw; (try dsimp only at hSw); go_simp; first | done | (with_reducible rfl))
        simp only [Act.put, List.setIfInBounds_toArray, List.set_cons_zero, List.set_cons_succ]
        refine wpAnyH_take (i := 1) (v := ?_) (atS (at0)) (by kernel_rfl) (by kernel_rfl) (by kernel_rfl) (fun _ _ _ h => h) (Or.inl ⟨rfl, ?_⟩) (by assumption) ?_
        rotate_left
        · (intro w hSw; (try dsimp only at hSw); go_simp; first | done | (with_reducible rfl))
        simp only [Act.put, List.setIfInBounds_toArray, List.set_cons_zero, List.set_cons_succ]
        refine wpAnyH_take (i := 2) (v := ?_) (atS (atS (at0))) (by kernel_rfl) (by kernel_rfl) (by kernel_rfl) (fun _ _ _ h => h) (Or.inl ⟨rfl, ?_⟩) (by assumption) ?_
        rotate_left
        · (intro w hSw; (try dsimp only at hSw); go_simp; first | done | (with_reducible rfl))
        simp only [Act.put, List.setIfInBounds_toArray, List.set_cons_zero, List.set_cons_succ]
        refine wpAnyH_take (i := 3) (v := ?_) (atS (atS (atS (at0)))) (by kernel_rfl) (by kernel_rfl) (by kernel_rfl) (fun _ _ _ h => h) (Or.inl ⟨rfl, ?_⟩) (by assumption) ?_
        rotate_left
        · (intro w hSw; (try dsimp only at hSw); go_simp; first | done | (with_reducible rfl))
        simp only [Act.put, List.setIfInBounds_toArray, List.set_cons_zero, List.set_cons_succ]
        refine wpAnyH_take (i := 4) (v := ?_) (atS (atS (atS (atS (at0))))) (by kernel_rfl) (by kernel_rfl) (by kernel_rfl) (fun _ _ _ h => h) (Or.inl ⟨rfl, ?_⟩) (by assumption) ?_
        rotate_left
        · (intro w hSw; (try dsimp only at hSw); go_simp; first | done | (with_reducible rfl))
        simp only [Act.put, List.setIfInBounds_toArray, List.set_cons_zero, List.set_cons_succ]
        refine wpAnyH_take (i := 5) (v := ?_) (atS (atS (atS (atS (atS (at0)))))) (by kernel_rfl) (by kernel_rfl) (by kernel_rfl) (fun _ _ _ h => h) (Or.inl ⟨rfl, ?_⟩) (by assumption) ?_
        rotate_left
        · (intro w hSw; (try dsimp only at hSw); go_simp; first | done | (with_reducible rfl))
        simp only [Act.put, List.setIfInBounds_toArray, List.set_cons_zero, List.set_cons_succ]
        refine wpAnyH_take (i := 6) (v := ?_) (atS (atS (atS (atS (atS (atS (at0))))))) (by kernel_rfl) (by kernel_rfl) (by kernel_rfl) (fun _ _ _ h => h) (Or.inl ⟨rfl, ?_⟩) (by assumption) ?_
        rotate_left
        · (intro w hSw; (try dsimp only at hSw); go_simp; first | done | (with_reducible rfl))
        simp only [Act.put, List.setIfInBounds_toArray, List.set_cons_zero, List.set_cons_succ]
        refine wpAnyH_take (i := 7) (v := ?_) (atS (atS (atS (atS (atS (atS (atS (at0)))))))) (by kernel_rfl) (by kernel_rfl) (by kernel_rfl) (fun _ _ _ h => h) (Or.inl ⟨rfl, ?_⟩) (by assumption) ?_
        rotate_left
        · (intro w hSw; (try dsimp only at hSw); go_simp; first | done | (with_reducible rfl))
        simp only [Act.put, List.setIfInBounds_toArray, List.set_cons_zero, List.set_cons_succ]
        refine wpAnyH_take (i := 8) (v := ?_) (atS (atS (atS (atS (atS (atS (atS (atS (at0))))))))) (by kernel_rfl) (by kernel_rfl) (by kernel_rfl) (fun _ _ _ h => h) (Or.inl ⟨rfl, ?_⟩) (by assumption) ?_
        rotate_left
        · (intro w hSw; (try dsimp only at hSw); go_simp; first | done | (with_reducible rfl))
        simp only [Act.put, List.setIfInBounds_toArray, List.set_cons_zero, List.set_cons_succ]
        refine wpAnyH_take (i := 9) (v := ?_) (atS (atS (atS (atS (atS (atS (atS (atS (atS (at0)))))))))) (by kernel_rfl) (by kernel_rfl) (by kernel_rfl) (fun _ _ _ h => h) (Or.inl ⟨rfl, ?_⟩) (by assumption) ?_
        rotate_left
        · (intro w hSw; (try dsimp only at hSw); obtain ⟨s0, s1, s2, s3, s4, s5⟩ := HS6.out w hSw; go_simp; first | done | (with_reducible rfl))
        simp only [Act.put, List.setIfInBounds_toArray, List.set_cons_zero, List.set_cons_succ]
        refine wpAnyH_take (i := 11) (v := ?_) (atS (atS (atS (atS (atS (atS (atS (atS (atS (atS (atS (at0)))))))))))) (by kernel_rfl) (by kernel_rfl) (by kernel_rfl) (fun _ _ _ h => h) (Or.inl ⟨rfl, ?_⟩) (by assumption) ?_
        rotate_left
        · (intro w hSw; (try dsimp only at hSw); obtain ⟨s0, s1, s2, s3, s4, s5⟩ := HS6.out w hSw; go_simp; first | done | (with_reducible rfl))
        simp only [Act.put, List.setIfInBounds_toArray, List.set_cons_zero, List.set_cons_succ]
        refine wpAnyH_ready (rs := [10]) (by kernel_rfl) (by simp) ?_
        refine AllReadyH.cons (atS (atS (atS (atS (atS (atS (atS (atS (atS (atS (at0))))))))))) (fun K2 hK2 => ?_) AllReadyH.nil
        have hbc := hHeld
        clear hHeld
        go_simp
        go_wp2_with (go_at_call 14; refine (HC14.out _ hbc).mono ?_; rintro e wC ⟨rfl, hbC⟩)
        refine hK2.out _ _ (bT hbc hbC) (fun hHeld => ?_)
        clear hK2 K2 hbc hbC
        refine wpAnyH_ready (rs := [12]) (by kernel_rfl) (by simp) ?_
        refine AllReadyH.cons (atS (atS (atS (atS (atS (atS (atS (atS (atS (atS (atS (atS (at0))))))))))))) (fun K2 hK2 => ?_) AllReadyH.nil
        have hbc := hHeld
        clear hHeld
        go_simp
        go_wp2_with (go_at_call 15; refine (HC15.out _ hbc).mono ?_; rintro e wC ⟨rfl, hbC⟩)
        refine hK2.out _ _ (bT hbc hbC) (fun hHeld => ?_)
        clear hK2 K2 hbc hbC
        refine wpAnyH_take (i := 13) (v := ?_) (atS (atS (atS (atS (atS (atS (atS (atS (atS (atS (atS (atS (atS (at0)))))))))))))) (by kernel_rfl) (by kernel_rfl) (by kernel_rfl) (fun _ _ _ h => h) (Or.inl ⟨rfl, ?_⟩) (by assumption) ?_
        rotate_left
        · (intro w hSw; (try dsimp only at hSw); go_simp; first | done | (with_reducible rfl))
        simp only [Act.put, List.setIfInBounds_toArray, List.set_cons_zero, List.set_cons_succ]
        refine wpAnyH_take (i := 14) (v := ?_) (atS (atS (atS (atS (atS (atS (atS (atS (atS (atS (atS (atS (atS (atS (at0))))))))))))))) (by kernel_rfl) (by kernel_rfl) (by kernel_rfl) (fun _ _ _ h => h) (Or.inl ⟨rfl, ?_⟩) (by assumption) ?_
        rotate_left
        · (intro w hSw; (try dsimp only at hSw); go_simp; first | done | (with_reducible rfl))
        simp only [Act.put, List.setIfInBounds_toArray, List.set_cons_zero, List.set_cons_succ]
        refine wpAnyH_take (i := 15) (v := ?_) (atS (atS (atS (atS (atS (atS (atS (atS (atS (atS (atS (atS (atS (atS (atS (at0)))))))))))))))) (by kernel_rfl) (by kernel_rfl) (by kernel_rfl) (fun _ _ _ h => h) (Or.inl ⟨rfl, ?_⟩) (by assumption) ?_
        rotate_left
        · (intro w hSw; (try dsimp only at hSw); go_simp; first | done | (with_reducible rfl))
        simp only [Act.put, List.setIfInBounds_toArray, List.set_cons_zero, List.set_cons_succ]
        refine wpAnyH_take (i := 16) (v := ?_) (atS (atS (atS (atS (atS (atS (atS (atS (atS (atS (atS (atS (atS (atS (atS (atS (at0))))))))))))))))) (by kernel_rfl) (by kernel_rfl) (by kernel_rfl) (fun _ _ _ h => h) (Or.inl ⟨rfl, ?_⟩) (by assumption) ?_
        rotate_left
        · (intro w hSw; (try dsimp only at hSw); obtain ⟨s0, s1, s2, s3, s4, s5⟩ := HS6.out w hSw; go_simp; first | done | (with_reducible rfl))
        simp only [Act.put, List.setIfInBounds_toArray, List.set_cons_zero, List.set_cons_succ]
        refine wpAnyH_take (i := 18) (v := ?_) (atS (atS (atS (atS (atS (atS (atS (atS (atS (atS (atS (atS (atS (atS (atS (atS (atS (atS (at0))))))))))))))))))) (by kernel_rfl) (by kernel_rfl) (by kernel_rfl) (fun _ _ _ h => h) (Or.inl ⟨rfl, ?_⟩) (by assumption) ?_
        rotate_left
        · (intro w hSw; (try dsimp only at hSw); obtain ⟨s0, s1, s2, s3, s4, s5⟩ := HS6.out w hSw; go_simp; first | done | (with_reducible rfl))
        simp only [Act.put, List.setIfInBounds_toArray, List.set_cons_zero, List.set_cons_succ]
        refine wpAnyH_ready (rs := [17]) (by kernel_rfl) (by simp) ?_
        refine AllReadyH.cons (atS (atS (atS (atS (atS (atS (atS (atS (atS (atS (atS (atS (atS (atS (atS (atS (atS (at0)))))))))))))))))) (fun K2 hK2 => ?_) AllReadyH.nil
        have hbc := hHeld
        clear hHeld
        go_simp
        go_wp2_with (go_at_call 16; refine (HC16.out _ hbc).mono ?_; rintro e wC ⟨rfl, hbC⟩)
        refine hK2.out _ _ (bT hbc hbC) (fun hHeld => ?_)
        clear hK2 K2 hbc hbC
        refine wpAnyH_ready (rs := [19]) (by kernel_rfl) (by simp) ?_
        refine AllReadyH.cons (atS (atS (atS (atS (atS (atS (atS (atS (atS (atS (atS (atS (atS (atS (atS (atS (atS (atS (atS (at0)))))))))))))))))))) (fun K2 hK2 => ?_) AllReadyH.nil
        have hbc := hHeld
        clear hHeld
        go_simp
        go_wp2_with (go_at_call 17; refine (HC17.out _ hbc).mono ?_; rintro e wC ⟨rfl, hbC⟩)
        refine hK2.out _ _ (bT hbc hbC) (fun hHeld => ?_)
        clear hK2 K2 hbc hbC
        refine wpAnyH_take (i := 20) (v := ?_) (atS (atS (atS (atS (atS (atS (atS (atS (atS (atS (atS (atS (atS (atS (atS (atS (atS (atS (atS (atS (at0))))))))))))))))))))) (by kernel_rfl) (by kernel_rfl) (by kernel_rfl) (fun _ _ _ h => h) (Or.inl ⟨rfl, ?_⟩) (by assumption) ?_
        rotate_left
        · (intro w hSw; (try dsimp only at hSw); go_simp; first | done | (with_reducible rfl))
        simp only [Act.put, List.setIfInBounds_toArray, List.set_cons_zero, List.set_cons_succ]
        refine wpAnyH_take (i := 21) (v := ?_) (atS (atS (atS (atS (atS (atS (atS (atS (atS (atS (atS (atS (atS (atS (atS (atS (atS (atS (atS (atS (atS (at0)))))))))))))))))))))) (by kernel_rfl) (by kernel_rfl) (by kernel_rfl) (fun _ _ _ h => h) (Or.inl ⟨rfl, ?_⟩) (by assumption) ?_
        rotate_left
        · (intro w hSw; (try dsimp only at hSw); go_simp; first | done | (with_reducible rfl))
        simp only [Act.put, List.setIfInBounds_toArray, List.set_cons_zero, List.set_cons_succ]
        refine wpAnyH_take (i := 22) (v := ?_) (atS (atS (atS (atS (atS (atS (atS (atS (atS (atS (atS (atS (atS (atS (atS (atS (atS (atS (atS (atS (atS (atS (at0))))))))))))))))))))))) (by kernel_rfl) (by kernel_rfl) (by kernel_rfl) (fun _ _ _ h => h) (Or.inl ⟨rfl, ?_⟩) (by assumption) ?_
        rotate_left
        · (intro w hSw; (try dsimp only at hSw); go_simp; first | done | (with_reducible rfl))
        simp only [Act.put, List.setIfInBounds_toArray, List.set_cons_zero, List.set_cons_succ]
        refine wpAnyH_take (i := 23) (v := ?_) (atS (atS (atS (atS (atS (atS (atS (atS (atS (atS (atS (atS (atS (atS (atS (atS (atS (atS (atS (atS (atS (atS (atS (at0)))))))))))))))))))))))) (by kernel_rfl) (by kernel_rfl) (by kernel_rfl) (fun _ _ _ h => h) (Or.inl ⟨rfl, ?_⟩) (by assumption) ?_
        rotate_left
        · (intro w hSw; (try dsimp only at hSw); obtain ⟨s0, s1, s2, s3, s4, s5⟩ := HS6.out w hSw; go_simp; first | done | (with_reducible rfl))
        simp only [Act.put, List.setIfInBounds_toArray, List.set_cons_zero, List.set_cons_succ]
        refine wpAnyH_take (i := 24) (v := ?_) (atS (atS (atS (atS (atS (atS (atS (atS (atS (atS (atS (atS (atS (atS (atS (atS (atS (atS (atS (atS (atS (atS (atS (atS (at0))))))))))))))))))))))))) (by kernel_rfl) (by kernel_rfl) (by kernel_rfl) (fun _ _ _ h => h) (Or.inl ⟨rfl, ?_⟩) (by assumption) ?_
        rotate_left
        · (intro w hSw; (try dsimp only at hSw); go_simp; first | done | (with_reducible rfl))
        simp only [Act.put, List.setIfInBounds_toArray, List.set_cons_zero, List.set_cons_succ]
        refine wpAnyH_take (i := 26) (v := ?_) (atS (atS (atS (atS (atS (atS (atS (atS (atS (atS (atS (atS (atS (atS (atS (atS (atS (atS (atS (atS (atS (atS (atS (atS (atS (atS (at0))))))))))))))))))))))))))) (by kernel_rfl) (by kernel_rfl) (by kernel_rfl) (fun _ _ _ h => h) (Or.inl ⟨rfl, ?_⟩) (by assumption) ?_
        rotate_left
        · (intro w hSw; (try dsimp only at hSw); obtain ⟨s0, s1, s2, s3, s4, s5⟩ := HS6.out w hSw; go_simp; first | done | (with_reducible rfl))
        simp only [Act.put, List.setIfInBounds_toArray, List.set_cons_zero, List.set_cons_succ]
        refine wpAnyH_take (i := 27) (v := ?_) (atS (atS (atS (atS (atS (atS (atS (atS (atS (atS (atS (atS (atS (atS (atS (atS (atS (atS (atS (atS (atS (atS (atS (atS (atS (atS (atS (at0)))))))))))))))))))))))))))) (by kernel_rfl) (by kernel_rfl) (by kernel_rfl) (fun _ _ _ h => h) (Or.inl ⟨rfl, ?_⟩) (by assumption) ?_
        rotate_left
        · (intro w hSw; (try dsimp only at hSw); go_simp; first | done | (with_reducible rfl))
        simp only [Act.put, List.setIfInBounds_toArray, List.set_cons_zero, List.set_cons_succ]
        refine wpAnyH_ready (rs := [25]) (by kernel_rfl) (by simp) ?_
        refine AllReadyH.cons (atS (atS (atS (atS (atS (atS (atS (atS (atS (atS (atS (atS (atS (atS (atS (atS (atS (atS (atS (atS (atS (atS (atS (atS (atS (at0)))))))))))))))))))))))))) (fun K2 hK2 => ?_) AllReadyH.nil
        have hbc := hHeld
        clear hHeld
        go_simp
        go_wp2_with (go_at_call 18; refine (HC18.out _ hbc).mono ?_; rintro e wC ⟨rfl, hbC⟩)
        refine hK2.out _ _ (bT hbc hbC) (fun hHeld => ?_)
        clear hK2 K2 hbc hbC
        refine wpAnyH_ready (rs := [28]) (by kernel_rfl) (by simp) ?_
        refine AllReadyH.cons (atS (atS (atS (atS (atS (atS (atS (atS (atS (atS (atS (atS (atS (atS (atS (atS (atS (atS (atS (atS (atS (atS (atS (atS (atS (atS (atS (atS (at0))))))))))))))))))))))))))))) (fun K2 hK2 => ?_) AllReadyH.nil
        have hbc := hHeld
        clear hHeld
        go_simp
        go_wp2_with (go_at_call 19; refine (HC19.out _ hbc).mono ?_; rintro e wC ⟨rfl, hbC⟩)
        refine hK2.out _ _ (bT hbc hbC) (fun hHeld => ?_)
        clear hK2 K2 hbc hbC
        refine wpAnyH_take (i := 29) (v := ?_) (atS (atS (atS (atS (atS (atS (atS (atS (atS (atS (atS (atS (atS (atS (atS (atS (atS (atS (atS (atS (atS (atS (atS (atS (atS (atS (atS (atS (atS (at0)))))))))))))))))))))))))))))) (by kernel_rfl) (by kernel_rfl) (by kernel_rfl) (fun _ _ _ h => h) (Or.inl ⟨rfl, ?_⟩) (by assumption) ?_
        rotate_left
        · (intro w hSw; (try dsimp only at hSw); go_simp; first | done | (with_reducible rfl))
        simp only [Act.put, List.setIfInBounds_toArray, List.set_cons_zero, List.set_cons_succ]
        refine wpAnyH_take (i := 30) (v := ?_) (atS (atS (atS (atS (atS (atS (atS (atS (atS (atS (atS (atS (atS (atS (atS (atS (atS (atS (atS (atS (atS (atS (atS (atS (atS (atS (atS (atS (atS (atS (at0))))))))))))))))))))))))))))))) (by kernel_rfl) (by kernel_rfl) (by kernel_rfl) (fun _ _ _ h => h) (Or.inl ⟨rfl, ?_⟩) (by assumption) ?_
        rotate_left
        · (intro w hSw; (try dsimp only at hSw); go_simp; first | done | (with_reducible rfl))
        simp only [Act.put, List.setIfInBounds_toArray, List.set_cons_zero, List.set_cons_succ]
        refine wpAnyH_take (i := 31) (v := ?_) (atS (atS (atS (atS (atS (atS (atS (atS (atS (atS (atS (atS (atS (atS (atS (atS (atS (atS (atS (atS (atS (atS (atS (atS (atS (atS (atS (atS (atS (atS (atS (at0)))))))))))))))))))))))))))))))) (by kernel_rfl) (by kernel_rfl) (by kernel_rfl) (fun _ _ _ h => h) (Or.inl ⟨rfl, ?_⟩) (by assumption) ?_
        rotate_left
        · (intro w hSw; (try dsimp only at hSw); go_simp; first | done | (with_reducible rfl))
        simp only [Act.put, List.setIfInBounds_toArray, List.set_cons_zero, List.set_cons_succ]
        refine wpAnyH_take (i := 32) (v := ?_) (atS (atS (atS (atS (atS (atS (atS (atS (atS (atS (atS (atS (atS (atS (atS (atS (atS (atS (atS (atS (atS (atS (atS (atS (atS (atS (atS (atS (atS (atS (atS (atS (at0))))))))))))))))))))))))))))))))) (by kernel_rfl) (by kernel_rfl) (by kernel_rfl) (fun _ _ _ h => h) (Or.inl ⟨rfl, ?_⟩) (by assumption) ?_
        rotate_left
        · (intro w hSw; (try dsimp only at hSw); obtain ⟨s0, s1, s2, s3, s4, s5⟩ := HS6.out w hSw; go_simp; first | done | (with_reducible rfl))
        simp only [Act.put, List.setIfInBounds_toArray, List.set_cons_zero, List.set_cons_succ]
        refine wpAnyH_take (i := 34) (v := ?_) (atS (atS (atS (atS (atS (atS (atS (atS (atS (atS (atS (atS (atS (atS (atS (atS (atS (atS (atS (atS (atS (atS (atS (atS (atS (atS (atS (atS (atS (atS (atS (atS (atS (atS (at0))))))))))))))))))))))))))))))))))) (by kernel_rfl) (by kernel_rfl) (by kernel_rfl) (fun _ _ _ h => h) (Or.inl ⟨rfl, ?_⟩) (by assumption) ?_
        rotate_left
        · (intro w hSw; (try dsimp only at hSw); obtain ⟨s0, s1, s2, s3, s4, s5⟩ := HS6.out w hSw; go_simp; first | done | (with_reducible rfl))
        simp only [Act.put, List.setIfInBounds_toArray, List.set_cons_zero, List.set_cons_succ]
        refine wpAnyH_ready (rs := [33]) (by kernel_rfl) (by simp) ?_
        refine AllReadyH.cons (atS (atS (atS (atS (atS (atS (atS (atS (atS (atS (atS (atS (atS (atS (atS (atS (atS (atS (atS (atS (atS (atS (atS (atS (atS (atS (atS (atS (atS (atS (atS (atS (atS (at0)))))))))))))))))))))))))))))))))) (fun K2 hK2 => ?_) AllReadyH.nil
        have hbc := hHeld
        clear hHeld
        go_simp
        go_wp2_with (go_at_call 18; refine (HC18a.out _ hbc).mono ?_; rintro e wC ⟨rfl, hbC⟩)
        refine hK2.out _ _ (bT hbc hbC) (fun hHeld => ?_)
        clear hK2 K2 hbc hbC
        refine wpAnyH_ready (rs := [35]) (by kernel_rfl) (by simp) ?_
        refine AllReadyH.cons (atS (atS (atS (atS (atS (atS (atS (atS (atS (atS (atS (atS (atS (atS (atS (atS (atS (atS (atS (atS (atS (atS (atS (atS (atS (atS (atS (atS (atS (atS (atS (atS (atS (atS (atS (at0)))))))))))))))))))))))))))))))))))) (fun K2 hK2 => ?_) AllReadyH.nil
        have hbc := hHeld
        clear hHeld
        go_simp
        go_wp2_with (go_at_call 19; refine (HC19a.out _ hbc).mono ?_; rintro e wC ⟨rfl, hbC⟩)
        refine hK2.out _ _ (bT hbc hbC) (fun hHeld => ?_)
        clear hK2 K2 hbc hbC
        refine wpAnyH_take (i := 36) (v := ?_) (atS (atS (atS (atS (atS (atS (atS (atS (atS (atS (atS (atS (atS (atS (atS (atS (atS (atS (atS (atS (atS (atS (atS (atS (atS (atS (atS (atS (atS (atS (atS (atS (atS (atS (atS (atS (at0))))))))))))))))))))))))))))))))))))) (by kernel_rfl) (by kernel_rfl) (by kernel_rfl) (fun _ _ _ h => h) (Or.inl ⟨rfl, ?_⟩) (by assumption) ?_
        rotate_left
        · (intro w hSw; (try dsimp only at hSw); go_simp; first | done | (with_reducible rfl))
        simp only [Act.put, List.setIfInBounds_toArray, List.set_cons_zero, List.set_cons_succ]
        refine wpAnyH_take (i := 37) (v := ?_) (atS (atS (atS (atS (atS (atS (atS (atS (atS (atS (atS (atS (atS (atS (atS (atS (atS (atS (atS (atS (atS (atS (atS (atS (atS (atS (atS (atS (atS (atS (atS (atS (atS (atS (atS (atS (atS (at0)))))))))))))))))))))))))))))))))))))) (by kernel_rfl) (by kernel_rfl) (by kernel_rfl) (fun _ _ _ h => h) (Or.inl ⟨rfl, ?_⟩) (by assumption) ?_
        rotate_left
        · (intro w hSw; (try dsimp only at hSw); go_simp; first | done | (with_reducible rfl))
        simp only [Act.put, List.setIfInBounds_toArray, List.set_cons_zero, List.set_cons_succ]
        refine wpAnyH_take (i := 38) (v := ?_) (atS (atS (atS (atS (atS (atS (atS (atS (atS (atS (atS (atS (atS (atS (atS (atS (atS (atS (atS (atS (atS (atS (atS (atS (atS (atS (atS (atS (atS (atS (atS (atS (atS (atS (atS (atS (atS (atS (at0))))))))))))))))))))))))))))))))))))))) (by kernel_rfl) (by kernel_rfl) (by kernel_rfl) (fun _ _ _ h => h) (Or.inl ⟨rfl, ?_⟩) (by assumption) ?_
        rotate_left
        · (intro w hSw; (try dsimp only at hSw); go_simp; first | done | (with_reducible rfl))
        simp only [Act.put, List.setIfInBounds_toArray, List.set_cons_zero, List.set_cons_succ]
        refine wpAnyH_take (i := 39) (v := ?_) (atS (atS (atS (atS (atS (atS (atS (atS (atS (atS (atS (atS (atS (atS (atS (atS (atS (atS (atS (atS (atS (atS (atS (atS (atS (atS (atS (atS (atS (atS (atS (atS (atS (atS (atS (atS (atS (atS (atS (at0)))))))))))))))))))))))))))))))))))))))) (by kernel_rfl) (by kernel_rfl) (by kernel_rfl) (fun _ _ _ h => h) (Or.inl ⟨rfl, ?_⟩) (by assumption) ?_
        rotate_left
        · (intro w hSw; (try dsimp only at hSw); obtain ⟨s0, s1, s2, s3, s4, s5⟩ := HS6.out w hSw; go_simp; first | done | (with_reducible rfl))
        simp only [Act.put, List.setIfInBounds_toArray, List.set_cons_zero, List.set_cons_succ]
        refine wpAnyH_take (i := 40) (v := ?_) (atS (atS (atS (atS (atS (atS (atS (atS (atS (atS (atS (atS (atS (atS (atS (atS (atS (atS (atS (atS (atS (atS (atS (atS (atS (atS (atS (atS (atS (atS (atS (atS (atS (atS (atS (atS (atS (atS (atS (atS (at0))))))))))))))))))))))))))))))))))))))))) (by kernel_rfl) (by kernel_rfl) (by kernel_rfl) (fun _ _ _ h => h) (Or.inl ⟨rfl, ?_⟩) (by assumption) ?_
        rotate_left
        · (intro w hSw; (try dsimp only at hSw); obtain ⟨s0, s1, s2, s3, s4, s5⟩ := HS6.out w hSw; go_simp; first | done | (with_reducible rfl))
        simp only [Act.put, List.setIfInBounds_toArray, List.set_cons_zero, List.set_cons_succ]
        refine wpAnyH_take (i := 42) (v := ?_) (atS (atS (atS (atS (atS (atS (atS (atS (atS (atS (atS (atS (atS (atS (atS (atS (atS (atS (atS (atS (atS (atS (atS (atS (atS (atS (atS (atS (atS (atS (atS (atS (atS (atS (atS (atS (atS (atS (atS (atS (atS (atS (at0))))))))))))))))))))))))))))))))))))))))))) (by kernel_rfl) (by kernel_rfl) (by kernel_rfl) (fun _ _ _ h => h) (Or.inl ⟨rfl, ?_⟩) (by assumption) ?_
        rotate_left
        · (intro w hSw; (try dsimp only at hSw); obtain ⟨s0, s1, s2, s3, s4, s5⟩ := HS6.out w hSw; go_simp; first | done | (with_reducible rfl))
        simp only [Act.put, List.setIfInBounds_toArray, List.set_cons_zero, List.set_cons_succ]
        refine wpAnyH_take (i := 43) (v := ?_) (atS (atS (atS (atS (atS (atS (atS (atS (atS (atS (atS (atS (atS (atS (atS (atS (atS (atS (atS (atS (atS (atS (atS (atS (atS (atS (atS (atS (atS (atS (atS (atS (atS (atS (atS (atS (atS (atS (atS (atS (atS (atS (atS (at0)))))))))))))))))))))))))))))))))))))))))))) (by kernel_rfl) (by kernel_rfl) (by kernel_rfl) (fun _ _ _ h => h) (Or.inl ⟨rfl, ?_⟩) (by assumption) ?_
        rotate_left
        · (intro w hSw; (try dsimp only at hSw); obtain ⟨s0, s1, s2, s3, s4, s5⟩ := HS6.out w hSw; go_simp; first | done | (with_reducible rfl))
        simp only [Act.put, List.setIfInBounds_toArray, List.set_cons_zero, List.set_cons_succ]
        refine wpAnyH_ready (rs := [41]) (by kernel_rfl) (by simp) ?_
        refine AllReadyH.cons (atS (atS (atS (atS (atS (atS (atS (atS (atS (atS (atS (atS (atS (atS (atS (atS (atS (atS (atS (atS (atS (atS (atS (atS (atS (atS (atS (atS (atS (atS (atS (atS (atS (atS (atS (atS (atS (atS (atS (atS (atS (at0)))))))))))))))))))))))))))))))))))))))))) (fun K2 hK2 => ?_) AllReadyH.nil
        have hbc := hHeld
        clear hHeld
        go_simp
        go_wp2_with (go_at_call 20; refine (HC20.out _ hbc).mono ?_; rintro e wC ⟨rfl, hbC⟩)
        refine hK2.out _ _ (bT hbc hbC) (fun hHeld => ?_)
        clear hK2 K2 hbc hbC
        refine wpAnyH_ready (rs := [44]) (by kernel_rfl) (by simp) ?_
        refine AllReadyH.cons (atS (atS (atS (atS (atS (atS (atS (atS (atS (atS (atS (atS (atS (atS (atS (atS (atS (atS (atS (atS (atS (atS (atS (atS (atS (atS (atS (atS (atS (atS (atS (atS (atS (atS (atS (atS (atS (atS (atS (atS (atS (atS (atS (atS (at0))))))))))))))))))))))))))))))))))))))))))))) (fun K2 hK2 => ?_) AllReadyH.nil
        have hbc := hHeld
        clear hHeld
        go_simp
        go_wp2_with (go_at_call 21; refine (HC21.out _ hbc).mono ?_; rintro e wC ⟨rfl, hbC⟩)
        refine hK2.out _ _ (bT hbc hbC) (fun hHeld => ?_)
        clear hK2 K2 hbc hbC
        refine wpAnyH_take (i := 45) (v := ?_) (atS (atS (atS (atS (atS (atS (atS (atS (atS (atS (atS (atS (atS (atS (atS (atS (atS (atS (atS (atS (atS (atS (atS (atS (atS (atS (atS (atS (atS (atS (atS (atS (atS (atS (atS (atS (atS (atS (atS (atS (atS (atS (atS (atS (atS (at0)))))))))))))))))))))))))))))))))))))))))))))) (by kernel_rfl) (by kernel_rfl) (by kernel_rfl) (fun _ _ _ h => h) (Or.inl ⟨rfl, ?_⟩) (by assumption) ?_
        rotate_left
        · (intro w hSw; (try dsimp only at hSw); go_simp; first | done | (with_reducible rfl))
        simp only [Act.put, List.setIfInBounds_toArray, List.set_cons_zero, List.set_cons_succ]
        refine wpAnyH_take (i := 46) (v := ?_) (atS (atS (atS (atS (atS (atS (atS (atS (atS (atS (atS (atS (atS (atS (atS (atS (atS (atS (atS (atS (atS (atS (atS (atS (atS (atS (atS (atS (atS (atS (atS (atS (atS (atS (atS (atS (atS (atS (atS (atS (atS (atS (atS (atS (atS (atS (at0))))))))))))))))))))))))))))))))))))))))))))))) (by kernel_rfl) (by kernel_rfl) (by kernel_rfl) (fun _ _ _ h => h) (Or.inl ⟨rfl, ?_⟩) (by assumption) ?_
        rotate_left
        · (intro w hSw; (try dsimp only at hSw); go_simp; first | done | (with_reducible rfl))
        simp only [Act.put, List.setIfInBounds_toArray, List.set_cons_zero, List.set_cons_succ]
        refine wpAnyH_done (by kernel_rfl) ?_ _
        go_wp2_with fail
        go_roundw
        case rel => exact ⟨i + 1, by omega, by go_num, bT HB6.out hHeld⟩
        case measure => simp [intOf]; omega
      · have HIX5 := Lib.hid (HIX3.out.below HBr.out)
        have HG5 := Lib.hid (HG0.out.below (bT HBW3.out HBr.out))
        have HB5 := Lib.hid (bT HBW3.out HBr.out)
        obtain ⟨q0, q1, q2, _⟩ := cells3 (box_below HBX3.out HBr.out)
        obtain ⟨px, hpx⟩ : ∃ px, px = x.print := ⟨_, rfl⟩
        have hpl : px.length ≤ 1013 := by rw [hpx]; exact HPx.out
        have HC13 := Lib.hid (show Calls Tryz.prog 13 #[.agg #[.slice F1 p f1, .int .i64 xm, .slice F2 q f2]] w5 fun e w' => e = .returned (.tuple #[.string (str px), .int .i64 0]) ∧ Below w5.heap.size w5 w' by rw [hpx, HXM.out]; exact refPrint_yes _ _ _ _ _ _ _ _ HIX5.out HX.out)
        clear hpx
        go_wp2_with fail
        refine HC13.out.mono ?_
        rintro e w6 ⟨rfl, hb6⟩
        have HB6 := Lib.hid (bT HB5.out hb6)
        have HG6 := Lib.hid (HG5.out.below hb6)
        clear hb6 q0 q1 q2 HC13
        obtain ⟨k, hk⟩ : ∃ k : Nat, (k : Int) = pk at' ((px.length : Int) + 1) := ⟨(pk at' ((px.length : Int) + 1)).toNat, by have := pk_lo at' ((px.length : Int) + 1) (by omega); omega⟩
        have hkl : k ≤ px.length := by have := pk_hi at' ((px.length : Int) + 1) (by omega); omega
        have HPk := Lib.hid (fun w' => hk ▸ HPa.out ((px.length : Int) + 1) w' (by omega))
        clear hk
        go_wp2_with fail
        refine (HPk.out _).mono ?_
        rintro e w' ⟨rfl, rfl⟩
        obtain ⟨j, hj⟩ : ∃ j : Nat, j = min (k + more.length) px.length := ⟨_, rfl⟩
        have hjl : j ≤ px.length := by omega
        have hmin : min (IntKind.i64.wrap ((k : Int) + (more.length : Int))) (px.length : Int) = (j : Int) := by rw [IntWalk.i64_in _ (by omega)]; omega
        have hd1 := str_drop px j
        have hd2 := str_drop px k
        have ht := str_take px k
        obtain ⟨tk, htk⟩ : ∃ tk, tk = px.take k := ⟨_, rfl⟩
        obtain ⟨dj, hdj⟩ : ∃ dj, dj = px.drop j := ⟨_, rfl⟩
        obtain ⟨dk, hdk⟩ : ∃ dk, dk = px.drop k := ⟨_, rfl⟩
        rw [← htk] at ht
        rw [← hdj] at hd1
        rw [← hdk] at hd2
        have l1 : tk.length ≤ 1013 := by rw [htk, List.length_take]; omega
        have l2 : dj.length ≤ 1013 := by rw [hdj, List.length_drop]; omega
        have l3 : dk.length ≤ 1013 := by rw [hdk, List.length_drop]; omega
        obtain ⟨z0, hz0⟩ : ∃ z0, z0 = tk ++ more := ⟨_, rfl⟩
        obtain ⟨z1, hz1⟩ : ∃ z1, z1 = z0 ++ dj := ⟨_, rfl⟩
        obtain ⟨z2, hz2⟩ : ∃ z2, z2 = z0 ++ dk := ⟨_, rfl⟩
        have k0 : z0.length ≤ 140737488356500 := by rw [hz0, List.length_append]; omega
        have k1 : z1.length ≤ 140737488357600 := by rw [hz1, List.length_append]; omega
        have k2 : z2.length ≤ 140737488357600 := by rw [hz2, List.length_append]; omega
        have cat0 := cat_at hz0 (by omega)
        have cat1 := cat_at hz1 (by omega)
        have cat2 := cat_at hz2 (by omega)
        clear hz0 hz1 hz2 htk hdj hdk hj
        go_wp2_with fail
        go_region_held3 (fun _ => True) (trivial) (fail)
        clear cat0 cat1 cat2 ht hd1 hd2 hmin
        have HBy := Lib.hid (bA (o := .cells #[.string (str s), .string (str px), .string (str z1), .string (str z2), .string (str tk)] 9) HB6.out)
        have HNy := Lib.hid (show (w6.alloc (.cells #[.string (str s), .string (str px), .string (str z1), .string (str z2), .string (str tk)] 9)).drew.heap[w6.heap.size]? = some (.cells #[.string (str s), .string (str px), .string (str z1), .string (str z2), .string (str tk)] 9) from heap_alloc_new w6 _)
        obtain ⟨W7, hW7⟩ : ∃ W7, W7 = (w6.alloc (.cells #[.string (str s), .string (str px), .string (str z1), .string (str z2), .string (str tk)] 9)).drew := ⟨_, rfl⟩
        have HB7 := Lib.hid (show Below w.heap.size w W7 by rw [hW7]; exact bD HBy.out)
        rw [← hW7] at HNy ⊢
        have HG7 := Lib.hid (HG0.out.below HB7.out)
        obtain ⟨b149, hb149⟩ : ∃ b149, b149 = w6.heap.size := ⟨_, rfl⟩
        rw [← hb149] at HNy ⊢
        clear hW7 hb149 HBy
        go_wp2_with fail
        go_loopw [151] (fun v wr => ∃ i : Nat, i ≤ 5 ∧ v = .int .i64 i ∧ Below W7.heap.size W7 wr) (fun v _ => 5 - (intOf v).toNat)
        case atStart => exact ⟨0, by omega, rfl, bR W7⟩
        case round =>
          obtain ⟨i, hi3, rfl, hBr⟩ := hrel
          obtain ⟨w8, rfl⟩ : ∃ x, x = wr := ⟨wr, rfl⟩
          have HBr := Lib.hid hBr
          have HGr := Lib.hid (HG7.out.below hBr)
          have HNr := Lib.hid ((hBr.block _ (Array.getElem?_eq_some_iff.1 HNy.out).1).trans HNy.out)
          clear hBr
          by_cases hlt : i < 5
          · obtain ⟨z, hzc, hzl⟩ : ∃ z : List UInt8, w8.cell? ⟨b149, i, none⟩ = some (.string (str z)) ∧ z.length ≤ 140737488357600 := by
              rw [cell_of_row w8 _ i _ _ _ HNr.out]
              have hi : i = 0 ∨ i = 1 ∨ i = 2 ∨ i = 3 ∨ i = 4 := by omega
              rcases hi with rfl | rfl | rfl | rfl | rfl
              · exact ⟨s, rfl, by omega⟩
              · exact ⟨px, rfl, by omega⟩
              · exact ⟨z1, rfl, by omega⟩
              · exact ⟨z2, rfl, by omega⟩
              · exact ⟨tk, rfl, by omega⟩
            by_cases hlen : z.length ≤ 2000
            · have HP := Lib.hid (parseTop_any z w8 HGr.out (by omega))
              have HQ := Lib.hid (fun wx => refParse_any z wx hlen)
              obtain ⟨re, hre⟩ : ∃ re, re = resI (parseR z) := ⟨_, rfl⟩
              obtain ⟨er, her⟩ : ∃ er, er = errI (parseR z) := ⟨_, rfl⟩
              obtain ⟨li, hli⟩ : ∃ li, li = lineI z (parseR z) := ⟨_, rfl⟩
              obtain ⟨me, hme⟩ : ∃ me, me = re.mem := ⟨_, rfl⟩
              have HU := Lib.hid (show ∀ e wx, ParsedIs z e wx → ∃ A1 n1 c1 A2 n2 c2, e = .returned (.tuple #[.agg #[.slice A1 n1 c1, .int .i64 me, .slice A2 n2 c2], .int .i64 er, .int .i64 li]) ∧ IsImg wx A1 n1 A2 n2 re from fun e wx hx => by
                obtain ⟨A1, n1, c1, A2, n2, c2, he, hi, _⟩ := hx
                rw [← hre, ← her, ← hli, ← hme] at he
                rw [← hre] at hi
                exact ⟨A1, n1, c1, A2, n2, c2, he, hi⟩)
              have HME := Lib.hid hme
              clear hre her hli hme
              go_wp2_with fail
              refine HP.out.mono ?_
              rintro e w9 ⟨hp9, hb9⟩
              obtain ⟨D1, u1, v1, D2, u2, v2, rfl, hi9⟩ := HU.out _ _ hp9
              have hb9a := bA (o := .cells #[.slice D1 u1 v1, .int .i64 me, .slice D2 u2 v2] 25) hb9
              have HB9 := Lib.hid (bT HBr.out hb9a)
              have HI9 := Lib.hid (hi9.below (bA (o := .cells #[.slice D1 u1 v1, .int .i64 me, .slice D2 u2 v2] 25) (bR w9)))
              have HX9 := Lib.hid (box_new w9 D1 u1 v1 me D2 u2 v2)
              clear hp9 hb9 hb9a hi9
              go_wp2_with fail
              refine (HQ.out _).mono ?_
              rintro e w10 ⟨hp10, hb10⟩
              obtain ⟨E1, g1, h1, E2, g2, h2, rfl, hi10⟩ := HU.out _ _ hp10
              have hb10a := bA (o := .cells #[.slice E1 g1 h1, .int .i64 me, .slice E2 g2 h2] 25) hb10
              have HB10 := Lib.hid (bT HB9.out hb10a)
              have HI10 := Lib.hid (HI9.out.below hb10a)
              have HX10 := Lib.hid (box_below HX9.out hb10a)
              have HJ10 := Lib.hid (hi10.below (bA (o := .cells #[.slice E1 g1 h1, .int .i64 me, .slice E2 g2 h2] 25) (bR w10)))
              have HY10 := Lib.hid (box_new w10 E1 g1 h1 me E2 g2 h2)
              have HB10W := Lib.hid (bR (w10.alloc (.cells #[.slice E1 g1 h1, .int .i64 me, .slice E2 g2 h2] 25)))
              obtain ⟨W10, hW10⟩ : ∃ W10, W10 = w10.alloc (.cells #[.slice E1 g1 h1, .int .i64 me, .slice E2 g2 h2] 25) := ⟨_, rfl⟩
              obtain ⟨b26, hb26⟩ : ∃ b26, b26 = w9.heap.size := ⟨_, rfl⟩
              obtain ⟨b29, hb29⟩ : ∃ b29, b29 = w10.heap.size := ⟨_, rfl⟩
              rw [← hW10] at HB10 HI10 HX10 HJ10 HY10 HB10W
              rw [← hb26] at HX10
              rw [← hb29] at HY10
              have HSm := Lib.hid (show re.same re = true from (same_iff re re).2 rfl)
              have HC20 := Lib.hid (show ∀ wx, Below W10.heap.size W10 wx → Calls Tryz.prog 20 #[.agg #[.slice D1 u1 v1, .int .i64 me, .slice D2 u2 v2], .agg #[.slice E1 g1 h1, .int .i64 me, .slice E2 g2 h2]] wx fun e w' => e = .returned (.bool true) ∧ Below wx.heap.size wx w' from fun wx hb => by rw [← HSm.out, HME.out]; exact same_any _ _ _ _ _ _ _ _ _ _ _ _ _ _ _ (HI10.out.below hb) (HJ10.out.below hb))
              have HC21 := Lib.hid (show ∀ wx, Below W10.heap.size W10 wx → Calls Tryz.prog 21 #[.agg #[.slice D1 u1 v1, .int .i64 me, .slice D2 u2 v2], .agg #[.slice E1 g1 h1, .int .i64 me, .slice E2 g2 h2]] wx fun e w' => e = .returned (.bool true) ∧ Below wx.heap.size wx w' from fun wx hb => by rw [← HSm.out, HME.out]; exact refSame_any _ _ _ _ _ _ _ _ _ _ _ _ _ _ _ (HI10.out.below hb) (HJ10.out.below hb))
              clear hp10 hb10 hb10a hi10 HSm HP HQ HU
              go_upto_region 21 with fail
              rw [← hW10, ← hb29, ← hb26]
              clear hW10 hb26 hb29
              have hB10W := HB10W.out
              obtain ⟨s0, s1, s2, _⟩ := cells3 HX10.out
              obtain ⟨s3, s4, s5, _⟩ := cells3 HY10.out
              go_wp2_with fail
              refine (HC20.out _ hB10W).mono ?_
              rintro e w11 ⟨rfl, hb11⟩
              clear s0 s1 s2 s3 s4 s5
              have hB11 := bT hB10W hb11
              clear hB10W hb11
              obtain ⟨s0, s1, s2, _⟩ := cells3 (box_below HX10.out hB11)
              obtain ⟨s3, s4, s5, _⟩ := cells3 (box_below HY10.out hB11)
              go_wp2_with fail
              refine (HC21.out _ hB11).mono ?_
              rintro e w12 ⟨rfl, hb12⟩
              clear s0 s1 s2 s3 s4 s5
              have HB12 := Lib.hid (bT HB10.out (bT hB11 hb12))
              clear hB11 hb12
              go_wp2_with fail
              go_roundw
              case rel => exact ⟨i + 1, by omega, by go_num, HB12.out⟩
              case measure => simp [intOf]; omega
            · go_wp2_with fail
              go_roundw
              case rel => exact ⟨i + 1, by omega, by go_num, HBr.out⟩
              case measure => simp [intOf]; omega
          · go_wp2_with fail
            go_ret
            exact ⟨rfl, bT HB7.out HBr.out⟩
end Go.Proofs.YtgajlhejefjhhaaGreatDoor
