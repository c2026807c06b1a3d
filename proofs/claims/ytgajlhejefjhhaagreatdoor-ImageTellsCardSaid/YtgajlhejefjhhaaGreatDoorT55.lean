/- Contracts of the document's own functions: the sum of an image, its print, whether two are alike. No condition of ours. -/
import Derived.Test.YtgajlhejefjhhaaGreatDoorT54
namespace Go.Proofs.YtgajlhejefjhhaaGreatDoor
open Go.RowKit

set_option maxHeartbeats 2000000 in
set_option maxRecDepth 100000 in
theorem refSum_yes (A1 : Option Addr) (n1 c1 : Nat) (A2 : Option Addr) (n2 c2 : Nat) (m : Img) (w : World) (h : IsImg w A1 n1 A2 n2 m) (hr : m.right = true) :
    Calls Tryz.prog 17 #[.agg #[.slice A1 n1 c1, .int .i64 m.mem, .slice A2 n2 c2]] w fun e w' => e = .returned (.int .i64 (sumL m.head : Nat)) ∧ Below w.heap.size w w' := by
  have hB := bA (o := .cells #[.slice A1 n1 c1, .int .i64 m.mem, .slice A2 n2 c2] 25) (bR w)
  have H := Lib.hid (h.below hB)
  have HB := Lib.hid hB
  have HN := Lib.hid (box_new w A1 n1 c1 m.mem A2 n2 c2)
  have hR := refRight_any A1 n1 c1 A2 n2 c2 m _ H.out
  rw [hr] at hR
  have HRt := Lib.hid hR
  have HRr := Lib.hid hr
  have hhl := head_len (Img.good hr)
  clear hB h hR hr
  go_enter Tryz.func17, Tryz.ntmps17
  go_wp2_with fail
  refine HRt.out.mono ?_
  rintro e w1 ⟨rfl, hb1⟩
  have HB1 := Lib.hid (bT HB.out hb1)
  have H1 := Lib.hid (H.out.below hb1)
  have HN1 := Lib.hid (box_below HN.out hb1)
  clear hb1
  obtain ⟨r0, r1, r2, _⟩ := cells3 HN1.out
  go_wp2_with fail
  refine (refHead_any A1 n1 c1 A2 n2 c2 m _ H1.out HRr.out).mono ?_
  rintro e w2 ⟨rfl, hb2⟩
  have HB2 := Lib.hid (bT HB1.out hb2)
  clear hb2 r0 r1 r2
  obtain ⟨s, hs⟩ : ∃ s, s = m.head := ⟨_, rfl⟩
  rw [← hs] at hhl ⊢
  have HS := Lib.hid hs
  clear hs
  go_wp2_with fail
  go_loop [5, 6, 7] (fun va vb i => ∃ k a b : Nat, k ≤ s.length ∧ i = .int .i64 k ∧ va = .int .i64 a ∧ vb = .int .i64 b ∧ a < 65521 ∧ b < 65521 ∧ sumP (s.take k) = (a, b)) (fun _ _ i => s.length - (intOf i).toNat)
  case atStart => exact ⟨0, 1, 0, Nat.zero_le _, rfl, rfl, rfl, by omega, by omega, rfl⟩
  case round =>
    obtain ⟨k, a, b, hk, rfl, rfl, rfl, ha, hb, hall⟩ := hrel
    have HA := Lib.hid hall
    clear hall
    by_cases hlt : k < s.length
    · have hsz : k < (str s).size := hlt
      have hb8 := ((str s)[k]).toNat_lt
      have HN := Lib.hid (show sumP (s.take (k + 1)) = ((a + ((str s)[k]).toNat) % 65521, (b + (a + ((str s)[k]).toNat) % 65521) % 65521) by
        rw [List.take_succ_eq_append_getElem hlt, sumP_snoc, HA.out]
        rfl)
      go_wp2_with fail
      go_round
      case rel => exact ⟨k + 1, (a + ((str s)[k]).toNat) % 65521, (b + (a + ((str s)[k]).toNat) % 65521) % 65521, by omega, by go_num, by go_num, by go_num, Nat.mod_lt _ (by omega), Nat.mod_lt _ (by omega), HN.out⟩
      case measure => simp [intOf]; omega
    · have HN := Lib.hid (show (65536 * (b : Int) + (a : Int)) = ((sumL s : Nat) : Int) by
        have h := HA.out
        rw [List.take_of_length_le (by omega)] at h
        unfold sumL
        rw [h]
        show (65536 * (b : Int) + (a : Int)) = ((65536 * b + a : Nat) : Int)
        omega)
      go_wp2
      go_ret
      exact ⟨ret_int (HN.out.trans (by rw [HS.out])), HB2.out⟩

set_option maxHeartbeats 400000 in
set_option maxRecDepth 100000 in
theorem refSum_no (A1 : Option Addr) (n1 c1 : Nat) (A2 : Option Addr) (n2 c2 : Nat) (m : Img) (w : World) (h : IsImg w A1 n1 A2 n2 m) (hr : m.right = false) :
    Calls Tryz.prog 17 #[.agg #[.slice A1 n1 c1, .int .i64 m.mem, .slice A2 n2 c2]] w fun e w' => e = .returned (.int .i64 0) ∧ Below w.heap.size w w' := by
  have hB := bA (o := .cells #[.slice A1 n1 c1, .int .i64 m.mem, .slice A2 n2 c2] 25) (bR w)
  have hR := refRight_any A1 n1 c1 A2 n2 c2 m _ (h.below hB)
  rw [hr] at hR
  have HRt := Lib.hid hR
  have HB := Lib.hid hB
  clear hR hr h hB
  go_enter Tryz.func17, Tryz.ntmps17
  go_wp2_with fail
  refine HRt.out.mono ?_
  rintro e w1 ⟨rfl, hb1⟩
  go_wp2
  go_ret
  exact ⟨rfl, bT HB.out hb1⟩

set_option maxHeartbeats 2000000 in
set_option maxRecDepth 100000 in
theorem refPrint_yes (A1 : Option Addr) (n1 c1 : Nat) (A2 : Option Addr) (n2 c2 : Nat) (m : Img) (w : World) (h : IsImg w A1 n1 A2 n2 m) (hr : m.right = true) :
    Calls Tryz.prog 13 #[.agg #[.slice A1 n1 c1, .int .i64 m.mem, .slice A2 n2 c2]] w fun e w' => e = .returned (.tuple #[.string (str m.print), .int .i64 0]) ∧ Below w.heap.size w w' := by
  have hB := bA (o := .cells #[.slice A1 n1 c1, .int .i64 m.mem, .slice A2 n2 c2] 25) (bR w)
  have H := Lib.hid (h.below hB)
  have HB := Lib.hid hB
  have HN := Lib.hid (box_new w A1 n1 c1 m.mem A2 n2 c2)
  have hR := refRight_any A1 n1 c1 A2 n2 c2 m _ H.out
  rw [hr] at hR
  have HRt := Lib.hid hR
  have HRr := Lib.hid hr
  have hhl := head_len (Img.good hr)
  clear hB h hR hr
  obtain ⟨a, ha⟩ : ∃ a, a = m.mem := ⟨_, rfl⟩
  obtain ⟨hd, hhd⟩ : ∃ hd, hd = m.head := ⟨_, rfl⟩
  obtain ⟨sm, hsm⟩ : ∃ sm, sm = sumL hd := ⟨_, rfl⟩
  have hsl : sm < 4294967296 := hsm ▸ sumL_lt hd
  obtain ⟨dg, hdg⟩ : ∃ dg, dg = digN 8 sm := ⟨_, rfl⟩
  obtain ⟨p1, hp1⟩ : ∃ p1, p1 = hd ++ [115, 117, 109, 32] := ⟨_, rfl⟩
  obtain ⟨p2, hp2⟩ : ∃ p2, p2 = p1 ++ dg := ⟨_, rfl⟩
  obtain ⟨p3, hp3⟩ : ∃ p3, p3 = p2 ++ [10] := ⟨_, rfl⟩
  rw [← hhd] at hhl
  have l1 : p1.length ≤ 1000004 := by rw [hp1, List.length_append]; simp; omega
  have l2 : p2.length ≤ 1000012 := by rw [hp2, List.length_append, hdg, digN_length]; omega
  have l3 : p3.length ≤ 1000013 := by rw [hp3, List.length_append]; simp; omega
  have cat1 := cat_at hp1 (by omega)
  have cat2 := cat_at hp2 (by omega)
  have cat3 := cat_at hp3 (by omega)
  have HP := Lib.hid (show m.print = p3 by rw [hp3, hp2, hp1, hdg, hsm, hhd]; rfl)
  have HHe := Lib.hid (show ∀ w', IsImg w' A1 n1 A2 n2 m → Calls Tryz.prog 28 #[.agg #[.slice A1 n1 c1, .int .i64 a, .slice A2 n2 c2]] w' (fun e w'' => e = .returned (.string (str hd)) ∧ Below w'.heap.size w' w'') from fun w' hi => by rw [ha, hhd]; exact refHead_any A1 n1 c1 A2 n2 c2 m w' hi HRr.out)
  have HSu := Lib.hid (show ∀ w', IsImg w' A1 n1 A2 n2 m → Calls Tryz.prog 17 #[.agg #[.slice A1 n1 c1, .int .i64 a, .slice A2 n2 c2]] w' (fun e w'' => e = .returned (.int .i64 (sm : Int)) ∧ Below w'.heap.size w' w'') from fun w' hi => by rw [ha, hsm, hhd]; exact refSum_yes A1 n1 c1 A2 n2 c2 m w' hi HRr.out)
  have HDg := Lib.hid (show ∀ w', Calls Tryz.prog 29 #[.int .i64 (sm : Int), .int .i64 16, .int .i64 8] w' (fun e w'' => e = .returned (.string (str dg)) ∧ Below w'.heap.size w' w'') from fun w' => by rw [hdg]; exact refHex_any sm w' hsl)
  rw [← ha] at H HB HN HRt ⊢
  clear hp1 hp2 hp3 hdg hsm hhd ha l1 l2 l3 hhl hsl
  go_enter Tryz.func13, Tryz.ntmps13
  go_wp2_with fail
  refine HRt.out.mono ?_
  rintro e w1 ⟨rfl, hb1⟩
  have HB1 := Lib.hid (bT HB.out hb1)
  have H1 := Lib.hid (H.out.below hb1)
  have HN1 := Lib.hid (box_below HN.out hb1)
  clear hb1
  obtain ⟨r0, r1, r2, _⟩ := cells3 HN1.out
  have HK := Lib.hid (fun (w' : World) (hb : Below w1.heap.size w1 w') => show (w'.cell? ⟨w.heap.size, 0, none⟩ = some (.slice A1 n1 c1) ∧ w'.cell? ⟨w.heap.size, 1, none⟩ = some (.int .i64 a) ∧ w'.cell? ⟨w.heap.size, 2, none⟩ = some (.slice A2 n2 c2)) from
    ⟨(hb.cell (p := ⟨w.heap.size, 0, none⟩) (cell_lt r0)).trans r0, (hb.cell (p := ⟨w.heap.size, 1, none⟩) (cell_lt r1)).trans r1, (hb.cell (p := ⟨w.heap.size, 2, none⟩) (cell_lt r2)).trans r2⟩)
  go_wp2_with fail
  go_region_held3 (fun w' => w'.cell? ⟨w.heap.size, 0, none⟩ = some (.slice A1 n1 c1) ∧ w'.cell? ⟨w.heap.size, 1, none⟩ = some (.int .i64 a) ∧ w'.cell? ⟨w.heap.size, 2, none⟩ = some (.slice A2 n2 c2)) (first | exact HK.out _ hb4' | exact HK.out _ hb3' | exact HK.out _ hb2' | exact HK.out _ (bD (bR w1)) | exact HK.out _ (bR w1))
    (first
      | (go_at_call 28; refine (HHe.out _ (H1.out.below (bD (bR w1)))).mono ?_; rintro e w2 ⟨rfl, hb2⟩; have hb2' := bT (bD (bR w1)) hb2)
      | (go_at_call 17; refine (HSu.out _ (H1.out.below hb2')).mono ?_; rintro e w3 ⟨rfl, hb3⟩; have hb3' := bT hb2' hb3)
      | (go_at_call 29; refine (HDg.out _).mono ?_; rintro e w4 ⟨rfl, hb4⟩; have hb4' := bT hb3' hb4))
  all_goals
    go_wp2_with fail
    go_ret2
    exact ⟨by rw [HP.out]; rfl, bT HB1.out hb4'⟩

set_option maxHeartbeats 400000 in
set_option maxRecDepth 100000 in
theorem refPrint_no (A1 : Option Addr) (n1 c1 : Nat) (A2 : Option Addr) (n2 c2 : Nat) (m : Img) (w : World) (h : IsImg w A1 n1 A2 n2 m) (hr : m.right = false) :
    Calls Tryz.prog 13 #[.agg #[.slice A1 n1 c1, .int .i64 m.mem, .slice A2 n2 c2]] w fun e w' => e = .returned (.tuple #[.string (str []), .int .i64 1]) ∧ Below w.heap.size w w' := by
  have hB := bA (o := .cells #[.slice A1 n1 c1, .int .i64 m.mem, .slice A2 n2 c2] 25) (bR w)
  have hR := refRight_any A1 n1 c1 A2 n2 c2 m _ (h.below hB)
  rw [hr] at hR
  have HRt := Lib.hid hR
  have HB := Lib.hid hB
  clear hR hr h hB
  go_enter Tryz.func13, Tryz.ntmps13
  go_wp2_with fail
  refine HRt.out.mono ?_
  rintro e w1 ⟨rfl, hb1⟩
  go_wp2
  go_ret2
  exact ⟨rfl, bT HB.out hb1⟩
end Go.Proofs.YtgajlhejefjhhaaGreatDoor
