/- The walk of the statement ImageFinds. No condition of ours. -/
import Derived.Test.YtgajlhejefjhhaaGreatDoorT31
import Derived.Deep.RegionHeld3
namespace Go.Proofs.YtgajlhejefjhhaaGreatDoor
open Go.RowKit

set_option maxHeartbeats 2000000 in
set_option maxRecDepth 100000 in
theorem finds_any (A1 : Option Addr) (n1 c1 : Nat) (A2 : Option Addr) (n2 c2 : Nat) (m : Img) (w : World) (h : IsImg w A1 n1 A2 n2 m) (hG : Glob w) :
    Calls Tryz.prog 7 #[.agg #[.slice A1 n1 c1, .int .i64 m.mem, .slice A2 n2 c2]] w fun e w' => e = .returned (.bool true) ∧ Below w.heap.size w w' := by
  obtain ⟨a, ha⟩ : ∃ a, a = m.mem := ⟨_, rfl⟩
  obtain ⟨x, hx⟩ : ∃ x, x = m.fit := ⟨_, rfl⟩
  have hF1 := fit_told A1 n1 c1 A2 n2 c2 m hx
  rw [← ha] at hF1 ⊢
  have HF1 := Lib.hid hF1
  have HX := Lib.hid (show x.right = true from hx ▸ fit_right m)
  have HSt := Lib.hid (show x.find [115, 116, 114, 97, 110, 103, 101] = -1 ∧ x.find [] = -1 from hx ▸ fit_strange m)
  have hB := bA (o := .cells #[.slice A1 n1 c1, .int .i64 a, .slice A2 n2 c2] 25) (bR w)
  have H := Lib.hid (h.below hB)
  have HG := Lib.hid (hG.below hB)
  have HB := Lib.hid hB
  have HN := Lib.hid (box_new w A1 n1 c1 a A2 n2 c2)
  clear hB h hG hF1 ha hx
  go_enter Tryz.func7, Tryz.ntmps7
  go_wp2_with fail
  refine (awake_any _ HG.out).mono ?_
  rintro e w1 ⟨rfl, hb1⟩
  have HB1 := Lib.hid (bT HB.out hb1)
  have H1 := Lib.hid (H.out.below hb1)
  have HN1 := Lib.hid (box_below HN.out hb1)
  clear hb1
  obtain ⟨r0, r1, r2, _⟩ := cells3 HN1.out
  go_wp2_with fail
  refine (HF1.out _ H1.out).mono ?_
  rintro e w2 ⟨⟨F1, p, f1, F2, q, f2, rfl, hi2, hf1, hp, hq, _, _⟩, hb2⟩
  clear r0 r1 r2
  have hb2a := bA (o := .cells #[.slice F1 p f1, .int .i64 x.mem, .slice F2 q f2] 25) hb2
  have HB2 := Lib.hid (bT HB1.out hb2a)
  have HI2 := Lib.hid (hi2.below (bA (o := .cells #[.slice F1 p f1, .int .i64 x.mem, .slice F2 q f2] 25) (bR w2)))
  have HX2 := Lib.hid (box_new w2 F1 p f1 x.mem F2 q f2)
  have HLt := Lib.hid (show (w2.alloc (.cells #[.slice F1 p f1, .int .i64 x.mem, .slice F2 q f2] 25)).heap.size = w2.heap.size + 1 by simp)
  clear hb2 hb2a hi2
  obtain ⟨xm, hxm⟩ : ∃ xm, xm = x.mem := ⟨_, rfl⟩
  rw [← hxm] at HX2 HB2 HI2 HLt ⊢
  have HM := Lib.hid hxm
  clear hxm
  have HFi := Lib.hid (fun t w' (hi : IsImg w' F1 p F2 q x) => HM.out ▸ find_any F1 p f1 F2 q f2 x t w' hi)
  have HRi := Lib.hid (fun w' (hi : IsImg w' F1 p F2 q x) => HM.out ▸ HX.out ▸ right_any F1 p f1 F2 q f2 x w' hi)
  go_wp2
  go_loopw [5] (fun i wr => ∃ k : Nat, k ≤ q ∧ i = .int .i64 k ∧ Below (w2.heap.size + 1) (w2.alloc (.cells #[.slice F1 p f1, .int .i64 xm, .slice F2 q f2] 25)) wr) (fun i _ => q - (intOf i).toNat)
  case atStart => exact ⟨0, Nat.zero_le _, rfl, Below.refl _ _⟩
  case round =>
    obtain ⟨k, hk, rfl, hB3⟩ := hrel
    obtain ⟨w3, rfl⟩ : ∃ x, x = wr := ⟨wr, rfl⟩
    rw [← HLt.out] at hB3
    have HB3 := Lib.hid hB3
    have HI3 := Lib.hid (HI2.out.below hB3)
    have HX3 := Lib.hid (box_below HX2.out hB3)
    clear hB3
    obtain ⟨r0, r1, r2, _⟩ := cells3 HX3.out
    by_cases hlt : k < q
    · obtain ⟨b, off, nm, pl, rfl, hx, hc, hd⟩ := HI3.out.r2.sym hlt
      have hv : x.find nm = pl := find_at HX.out hx
      have HFk := Lib.hid (fun w' hi => hv ▸ HFi.out nm w' hi)
      clear hv hx
      have HK := Lib.hid (fun (w' : World) (hb : Below w3.heap.size w3 w') => show (w'.cell? ⟨w2.heap.size, 0, none⟩ = some (.slice F1 p f1) ∧ w'.cell? ⟨w2.heap.size, 1, none⟩ = some (.int .i64 xm) ∧ w'.cell? ⟨w2.heap.size, 2, none⟩ = some (.slice (some ⟨b, off, none⟩) q f2) ∧ w'.cell? ⟨b, off + k * 2, none⟩ = some (.string (str nm)) ∧ w'.cell? ⟨b, off + k * 2 + 1, none⟩ = some (.int .i64 pl)) from
        ⟨(hb.cell (p := ⟨w2.heap.size, 0, none⟩) (cell_lt r0)).trans r0, (hb.cell (p := ⟨w2.heap.size, 1, none⟩) (cell_lt r1)).trans r1, (hb.cell (p := ⟨w2.heap.size, 2, none⟩) (cell_lt r2)).trans r2, (hb.cell (p := ⟨b, off + k * 2, none⟩) (cell_lt hc)).trans hc, (hb.cell (p := ⟨b, off + k * 2 + 1, none⟩) (cell_lt hd)).trans hd⟩)
      go_wp2
      go_region_held3 (fun w' => w'.cell? ⟨w2.heap.size, 0, none⟩ = some (.slice F1 p f1) ∧ w'.cell? ⟨w2.heap.size, 1, none⟩ = some (.int .i64 xm) ∧ w'.cell? ⟨w2.heap.size, 2, none⟩ = some (.slice (some ⟨b, off, none⟩) q f2) ∧ w'.cell? ⟨b, off + k * 2, none⟩ = some (.string (str nm)) ∧ w'.cell? ⟨b, off + k * 2 + 1, none⟩ = some (.int .i64 pl)) (first | exact HK.out _ (bT (bD (bR w3)) hb4) | exact HK.out _ (bR w3) | exact HK.out _ (bD (bR w3)))
        (first | (go_at_call 18; refine (HFk.out _ (HI3.out.below (bD (bR w3)))).mono ?_; rintro e w4 ⟨rfl, hb4⟩))
      go_wp2
      have hB4 := (HB3.out.drew).trans (hb4.mono (by have := HB3.out.size; show _ ≤ w3.heap.size; exact this))
      rw [HLt.out] at hB4
      go_roundw
      case rel => exact ⟨k + 1, by omega, by go_num, hB4⟩
      case measure => simp [intOf]; omega
    · go_wp2_with fail
      refine (HRi.out _ HI3.out).mono ?_
      rintro e w4 ⟨rfl, hb4⟩
      have HB4 := Lib.hid hb4
      have HI4 := Lib.hid (HI3.out.below hb4)
      have HX4 := Lib.hid (box_below HX3.out hb4)
      clear hb4 r0 r1 r2
      obtain ⟨r0, r1, r2, _⟩ := cells3 HX4.out
      go_wp2_with fail
      refine (HFi.out _ _ HI4.out).mono ?_
      rintro e w5 ⟨rfl, hb5⟩
      rw [HSt.out.1]
      have HB5 := Lib.hid (bT HB4.out hb5)
      have HI5 := Lib.hid (HI4.out.below hb5)
      have HX5 := Lib.hid (box_below HX4.out hb5)
      clear hb5 r0 r1 r2
      obtain ⟨r0, r1, r2, _⟩ := cells3 HX5.out
      go_wp2_with fail
      refine (HFi.out _ _ HI5.out).mono ?_
      rintro e w6 ⟨rfl, hb6⟩
      rw [HSt.out.2]
      have HB6 := Lib.hid (bT HB5.out hb6)
      clear hb6
      go_wp2
      go_ret
      exact ⟨rfl, bT HB2.out (bT HB3.out HB6.out)⟩
end Go.Proofs.YtgajlhejefjhhaaGreatDoor
