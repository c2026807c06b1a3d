/- The walk of the statement ImageOne. No condition of ours. -/
import Derived.Test.YtgajlhejefjhhaaGreatDoorT31
import Derived.Deep.RegionLaw
import Derived.Deep.CutRange
import Derived.IntWalk
import Derived.Laws.BytesArg
namespace Go.Proofs.YtgajlhejefjhhaaGreatDoor
open Go.RowKit

theorem bytes_row (l : List UInt8) (w : World) : ∃ (cap : Nat) (C : Array Value), l.length ≤ C.size ∧
    (convert 9 41 (.string (str l))).run Tryz.prog w = .ok (.slice (some ⟨w.heap.size, 0, none⟩) l.length cap) (w.drew.alloc (.cells C 5 (C.size, C.size + 1))) ∧
      ∀ j (h : j < l.length), C[j]? = some (.int .u8 (l[j].toNat : Int)) :=
  ⟨_, _, by simp [bytesRow], run_bytes_of_string w 9 41 5 (str l) Tryz.underlying9 Tryz.underlying41 Tryz.underlying5, fun j h => bytesRow_at (str l) _ j h⟩

/-- the bytes of l lie in the block behind w -/
def OneW (w : World) (l : List UInt8) (w' : World) : Prop := Below w.heap.size w w' ∧ ∀ i, i < l.length → w'.cell? ⟨w.heap.size, 0 + i, none⟩ = some (.int .u8 ((l.map fun c => (c.toNat : Int)).getD i 0))

theorem one_w {w : World} {l : List UInt8} {k : Nat} {c : UInt8} {C : Array Value} (hC : ∀ j (h : j < l.length), C[j]? = some (.int .u8 (l[j].toNat : Int))) (hk : k < l.length) (hCs : l.length ≤ C.size) :
    OneW w (l.set k c) ((w.alloc (.cells C 5 (C.size, C.size + 1))).setCell ⟨w.heap.size, k, none⟩ (.int .u8 (c.toNat : Int))).drew.drew := by
  refine ⟨bD (bD (bS (bA (bR w)) (Nat.le_refl _))), fun i hi => ?_⟩
  rw [List.length_set] at hi
  have hh := heap_setCell_same (i := k) (heap_alloc_new w (.cells C 5 (C.size, C.size + 1))) (.int .u8 (c.toNat : Int))
  have := cell_of_row _ _ (0 + i) _ _ _ hh
  show ((w.alloc (.cells C 5 (C.size, C.size + 1))).setCell ⟨w.heap.size, k, none⟩ (.int .u8 (c.toNat : Int))).cell? ⟨w.heap.size, 0 + i, none⟩ = _
  rw [this, Nat.zero_add]
  have hs : i < (l.set k c).length := by simpa using hi
  rw [List.getD_eq_getElem?_getD, List.getElem?_map, List.getElem?_eq_getElem hs]
  by_cases e : i = k
  · subst e
    rw [Array.getElem?_setIfInBounds_self_of_lt (by omega)]
    simp
  · rw [Array.getElem?_setIfInBounds_ne (by omega), hC i hi]
    simp [List.getElem_set_ne (show k ≠ i by omega)]
theorem one_str (l : List UInt8) : strOfNums (l.map fun c => (c.toNat : Int)) = str l := by
  apply ByteArray.ext
  rw [← Array.toList_inj, strOfNums_data, List.map_map]
  exact (List.map_congr_left fun c _ => by simp).trans (List.map_id l)

set_option maxHeartbeats 2000000 in
set_option maxRecDepth 100000 in
theorem one_any (A1 : Option Addr) (n1 c1 : Nat) (A2 : Option Addr) (n2 c2 : Nat) (m : Img) (at' by' : Int) (w : World) (h : IsImg w A1 n1 A2 n2 m) (ha1 : -9223372036854775808 ≤ at') (ha2 : at' ≤ 9223372036854775807) (hb1 : -9223372036854775808 ≤ by') (hb2 : by' ≤ 9223372036854775807) (hG : Glob w) :
    Calls Tryz.prog 5 #[.agg #[.slice A1 n1 c1, .int .i64 m.mem, .slice A2 n2 c2], .int .i64 at', .int .i64 by'] w fun e w' => e = .returned (.bool true) ∧ Below w.heap.size w w' := by
  obtain ⟨a, ha⟩ : ∃ a, a = m.mem := ⟨_, rfl⟩
  obtain ⟨x, hx⟩ : ∃ x, x = m.fit := ⟨_, rfl⟩
  have hF1 := fit_told A1 n1 c1 A2 n2 c2 m hx
  rw [← ha] at hF1 ⊢
  have HF1 := Lib.hid hF1
  have HX := Lib.hid (show x.right = true from hx ▸ fit_right m)
  have HPx := Lib.hid (show x.print.length ≤ 1013 from hx ▸ fit_short m)
  obtain ⟨r, hr⟩ : ∃ r, r = pk by' 255 := ⟨_, rfl⟩
  have HPr := Lib.hid (fun w' => hr ▸ pick_any by' 255 w' (by omega) hb1 hb2)
  have hr1 : 0 ≤ r := hr ▸ pk_lo by' 255 (by omega)
  have hr2 : r < 255 := hr ▸ pk_hi by' 255 (by omega)
  have HPa := Lib.hid (fun (n : Int) w' (hn : 0 < n) => pick_any at' n w' hn ha1 ha2)
  have hB := bA (o := .cells #[.slice A1 n1 c1, .int .i64 a, .slice A2 n2 c2] 25) (bR w)
  have H := Lib.hid (h.below hB)
  have HG := Lib.hid (hG.below hB)
  have HB := Lib.hid hB
  have HN := Lib.hid (box_new w A1 n1 c1 a A2 n2 c2)
  clear hB h hG hF1 ha hx ha1 ha2 hb1 hb2 hr
  go_enter Tryz.func5, Tryz.ntmps5
  go_wp2_with fail
  refine (awake_any _ HG.out).mono ?_
  rintro e w1 ⟨rfl, hb1⟩
  have HB1 := Lib.hid (bT HB.out hb1)
  have H1 := Lib.hid (H.out.below hb1)
  have HG1 := Lib.hid (HG.out.below hb1)
  have HN1 := Lib.hid (box_below HN.out hb1)
  clear hb1
  obtain ⟨r0, r1, r2, _⟩ := cells3 HN1.out
  go_wp2_with fail
  refine (HF1.out _ H1.out).mono ?_
  rintro e w2 ⟨⟨F1, p, f1, F2, q, f2, rfl, hi2, hf1, hp, hq, _, _⟩, hb2⟩
  clear r0 r1 r2
  have hb2a := bA (o := .cells #[.slice F1 p f1, .int .i64 x.mem, .slice F2 q f2] 25) hb2
  have HB2 := Lib.hid (bT HB1.out hb2a)
  have HI2 := Lib.hid (hi2.below (bA (o := .cells #[.slice F1 p f1, .int .i64 x.mem, .slice F2 q f2] 25) (bR w2)))
  have HG2 := Lib.hid (HG1.out.below hb2a)
  have HX2 := Lib.hid (box_new w2 F1 p f1 x.mem F2 q f2)
  clear hb2 hb2a hi2
  obtain ⟨r0, r1, r2, _⟩ := cells3 HX2.out
  go_wp2_with fail
  refine (print_yes F1 p f1 F2 q f2 x _ HI2.out HX.out HG2.out hf1).mono ?_
  rintro e w4 ⟨rfl, hb4⟩
  clear r0 r1 r2
  have HB4 := Lib.hid (bT HB2.out hb4)
  have HG4 := Lib.hid (HG2.out.below hb4)
  clear hb4
  obtain ⟨px, hpx⟩ : ∃ px, px = x.print := ⟨_, rfl⟩
  rw [← hpx]
  have hpl : px.length ≤ 1013 := by rw [hpx]; exact HPx.out
  have hpl0 : 13 ≤ px.length := by rw [hpx, print_len]; omega
  have HPe := Lib.hid hpx
  clear hpx
  have hne : ((px.length : Int) == 0) = false := by rw [beq_eq_false_iff_ne]; omega
  obtain ⟨k, hk⟩ : ∃ k : Nat, (k : Int) = pk at' px.length := ⟨(pk at' px.length).toNat, by have := pk_lo at' px.length (by omega); omega⟩
  have hkl : k < px.length := by have := pk_hi at' px.length (by omega); omega
  have HPk := Lib.hid (fun w' => hk ▸ HPa.out px.length w' (by omega))
  clear hk
  obtain ⟨cap, C, hCs, hrun, hC⟩ := bytes_row px w4
  have hck := hC k hkl
  have hb8 := px[k].toNat_lt
  obtain ⟨b8, hb8e⟩ : ∃ b8 : Int, b8 = (px[k].toNat : Int) := ⟨_, rfl⟩
  rw [← hb8e] at hck
  have hb80 : 0 ≤ b8 := by omega
  have hb81 : b8 < 256 := by omega
  have HC := Lib.hid hC
  have HE8 := Lib.hid hb8e
  clear hC hb8e hb8
  have hcell := new_cell (w := w4.drew) (t := 5) (fz := (C.size, C.size + 1)) hck
  go_wp2_with fail
  refine (HPk.out _).mono ?_
  rintro e w' ⟨rfl, rfl⟩
  have hcell2 : (w4.alloc (.cells C 5 (C.size, C.size + 1))).cell? ⟨w4.heap.size, k, none⟩ = some (.int .u8 b8) := new_cell hck
  have hfz : (w4.alloc (.cells C 5 (C.size, C.size + 1))).frozen? ⟨w4.heap.size, k, none⟩ = false := by
    have hh := heap_alloc_new w4 (.cells C 5 (C.size, C.size + 1))
    unfold World.frozen?
    rw [hh]
    simp
    omega
  clear hcell
  go_wp2_with fail
  obtain ⟨c, hc⟩ : ∃ c : UInt8, c = UInt8.ofNat ((px[k].toNat + 1 + r.toNat) % 256) := ⟨_, rfl⟩
  have hcn : c.toNat = (px[k].toNat + 1 + r.toNat) % 256 := by rw [hc, UInt8.toNat_ofNat']; omega
  have hce : c ≠ px[k] := fun e => by
    have := congrArg UInt8.toNat e
    rw [hcn] at this
    have h8 := px[k].toNat_lt
    omega
  have HV := Lib.hid (show IntKind.u8.wrap ((IntKind.i64.wrap (IntKind.i64.wrap (IntKind.i64.wrap b8 + 1) + r)).tmod 256) = (c.toNat : Int) by
    rw [IntWalk.i64_in b8 (by omega), IntWalk.i64_in (b8 + 1) (by omega), IntWalk.i64_in (b8 + 1 + r) (by omega), Int.tmod_eq_emod_of_nonneg (by omega), IntKind.wrap_u8, hcn]
    have := HE8.out
    omega)
  have HCe := Lib.hid hce
  clear hc hcn hce
  go_cut [41] from 41 to 54 (fun s41 wx => OneW w4 (px.set k c) wx)
  case first =>
    go_region_law (first | (go_simp; go_at_call 22; refine (HPr.out _).mono ?_; rintro e w' ⟨rfl, rfl⟩))
    all_goals (go_wp2_with fail; go_meet; rw [HV.out]; exact one_w HC.out hkl hCs)
  case rest =>
    obtain ⟨hbw, hcw⟩ := hcut
    obtain ⟨w5, rfl⟩ : ∃ x, x = wc := ⟨wc, rfl⟩
    have HB5 := Lib.hid (bT HB4.out hbw)
    have HG5 := Lib.hid (HG4.out.below hbw)
    have hconv := run_convert_bytes_arg (P := Tryz.prog) w5 41 5 Tryz.underlying41 Tryz.underlying5 w4.heap.size 0 px.length cap ((px.set k c).map fun c => (c.toNat : Int)) (by simp) (fun i hi => hcw i (by simpa using hi)) 9 Tryz.underlying9
    rw [one_str] at hconv
    obtain ⟨tx, htx⟩ : ∃ tx, tx = px.set k c := ⟨_, rfl⟩
    rw [← htx] at hconv
    have htl : tx.length ≤ 1013 := by rw [htx]; simp; exact hpl
    have HTx := Lib.hid htx
    clear hbw hcw htx hcell2 hfz hck hrun hCs
    obtain ⟨pr, hpr⟩ : ∃ pr, parseR tx = pr := ⟨_, rfl⟩
    have HPr2 := Lib.hid hpr
    clear hpr
    go_wp2_with fail
    refine (parse_told HPr2.out _ HG5.out (by omega)).mono ?_
    rintro e w6 ⟨⟨D1, u, v1, D2, v, v2, rfl, hi6, hc6⟩, hb6⟩
    have HB6 := Lib.hid (bT HB5.out hb6)
    clear hb6
    rcases pr with _ | _ | mm
    · obtain rfl : 0 = u := hi6.r1.int_len
      dsimp only [resI, errI, lineI]
      clear hi6 hconv
      go_wp2
      go_ret
      exact ⟨rfl, bA HB6.out⟩
    · obtain rfl : 0 = u := hi6.r1.int_len
      dsimp only [resI, errI, lineI]
      have hln := sum_lines HPr2.out
      obtain ⟨ln, hlne⟩ : ∃ ln, ln = Lib.countByte tx 10 := ⟨_, rfl⟩
      rw [← hlne] at hln ⊢
      clear hi6 hconv hlne
      go_wp2
      go_ret
      exact ⟨rfl, bA HB6.out⟩
    · exact (one_none (x := x) (k := k) (c := c) (by rw [← HPe.out]; exact hkl) (by
        have h := HCe.out
        have e : x.print[k]? = px[k]? := by rw [HPe.out]
        rw [List.getElem?_eq_getElem hkl, List.getElem?_eq_getElem (by rw [← HPe.out]; exact hkl)] at e
        rw [Option.some.inj e]
        exact h) (m := mm) (by rw [← HPe.out, ← HTx.out]; exact HPr2.out)).elim
end Go.Proofs.YtgajlhejefjhhaaGreatDoor
