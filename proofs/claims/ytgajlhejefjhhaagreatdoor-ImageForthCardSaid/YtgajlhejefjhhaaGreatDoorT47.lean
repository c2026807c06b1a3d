/- The walk of the statement ImageForth. No condition of ours. -/
import Derived.Test.YtgajlhejefjhhaaGreatDoorT31
import Derived.Deep.RegionHeld3
import Derived.IntWalk
namespace Go.Proofs.YtgajlhejefjhhaaGreatDoor
open Go.RowKit

set_option maxHeartbeats 4000000 in
set_option maxRecDepth 100000 in
theorem forth_any (s : List UInt8) (A1 : Option Addr) (n1 c1 : Nat) (A2 : Option Addr) (n2 c2 : Nat) (m : Img) (at' : Int) (more : List UInt8) (w : World) (hsl : s.length ≤ 140737488355328) (h : IsImg w A1 n1 A2 n2 m) (ha1 : -9223372036854775808 ≤ at') (ha2 : at' ≤ 9223372036854775807) (hml : more.length ≤ 140737488355328) (hG : Glob w) :
    Calls Tryz.prog 6 #[.string (str s), .agg #[.slice A1 n1 c1, .int .i64 m.mem, .slice A2 n2 c2], .int .i64 at', .string (str more)] w fun e w' => e = .returned (.bool true) ∧ Below w.heap.size w w' := by
  obtain ⟨a, ha⟩ : ∃ a, a = m.mem := ⟨_, rfl⟩
  obtain ⟨x, hx⟩ : ∃ x, x = m.fit := ⟨_, rfl⟩
  have hF1 := fit_told A1 n1 c1 A2 n2 c2 m hx
  rw [← ha] at hF1 ⊢
  have HF1 := Lib.hid hF1
  have HX := Lib.hid (show x.right = true from hx ▸ fit_right m)
  have HPx := Lib.hid (show x.print.length ≤ 1013 from hx ▸ fit_short m)
  have HPa := Lib.hid (fun (n : Int) w' (hn : 0 < n) => pick_any at' n w' hn ha1 ha2)
  have hB := bA (o := .cells #[.slice A1 n1 c1, .int .i64 a, .slice A2 n2 c2] 25) (bR w)
  have H := Lib.hid (h.below hB)
  have HG := Lib.hid (hG.below hB)
  have HB := Lib.hid hB
  have HN := Lib.hid (box_new w A1 n1 c1 a A2 n2 c2)
  clear hB h hG hF1 ha hx ha1 ha2
  go_enter Tryz.func6, Tryz.ntmps6
  go_wp2_with fail
  refine (awake_any _ HG.out).mono ?_
  rintro e w1 ⟨rfl, hb1⟩
  have HB1 := Lib.hid (bT HB.out hb1)
  have H1 := Lib.hid (H.out.below hb1)
  have HG1 := Lib.hid (HG.out.below hb1)
  have HN1 := Lib.hid (box_below HN.out hb1)
  clear hb1
  obtain ⟨r0, r1, r2, _⟩ := cells3 HN1.out
  go_wp2_with fail
  refine (HF1.out _ H1.out).mono ?_
  rintro e w2 ⟨⟨F1, p, f1, F2, q, f2, rfl, hi2, hf1, hp, hq, _, _⟩, hb2⟩
  clear r0 r1 r2
  have HB2 := Lib.hid (bT HB1.out hb2)
  have HI2 := Lib.hid hi2
  have HG2 := Lib.hid (HG1.out.below hb2)
  clear hb2 hi2
  go_wp2_with fail
  refine (print_yes F1 p f1 F2 q f2 x _ HI2.out HX.out HG2.out hf1).mono ?_
  rintro e w4 ⟨rfl, hb4⟩
  have HB4 := Lib.hid (bT HB2.out hb4)
  have HG4 := Lib.hid (HG2.out.below hb4)
  clear hb4
  obtain ⟨px, hpx⟩ : ∃ px, px = x.print := ⟨_, rfl⟩
  rw [← hpx]
  have hpl : px.length ≤ 1013 := by rw [hpx]; exact HPx.out
  clear hpx
  obtain ⟨k, hk⟩ : ∃ k : Nat, (k : Int) = pk at' ((px.length : Int) + 1) := ⟨(pk at' ((px.length : Int) + 1)).toNat, by have := pk_lo at' ((px.length : Int) + 1) (by omega); omega⟩
  have hkl : k ≤ px.length := by have := pk_hi at' ((px.length : Int) + 1) (by omega); omega
  have HPk := Lib.hid (fun w' => hk ▸ HPa.out ((px.length : Int) + 1) w' (by omega))
  clear hk
  go_wp2_with fail
  refine (HPk.out _).mono ?_
  rintro e w' ⟨rfl, rfl⟩
  obtain ⟨j, hj⟩ : ∃ j : Nat, j = min (k + more.length) px.length := ⟨_, rfl⟩
  have hjl : j ≤ px.length := by omega
  have hmin : min (IntKind.i64.wrap ((k : Int) + (more.length : Int))) (px.length : Int) = (j : Int) := by rw [IntWalk.i64_in _ (by omega)]; omega
  have hd1 := str_drop px j
  have hd2 := str_drop px k
  have ht := str_take px k
  obtain ⟨tk, htk⟩ : ∃ tk, tk = px.take k := ⟨_, rfl⟩
  obtain ⟨dj, hdj⟩ : ∃ dj, dj = px.drop j := ⟨_, rfl⟩
  obtain ⟨dk, hdk⟩ : ∃ dk, dk = px.drop k := ⟨_, rfl⟩
  rw [← htk] at ht
  rw [← hdj] at hd1
  rw [← hdk] at hd2
  have l1 : tk.length ≤ 1013 := by rw [htk, List.length_take]; omega
  have l2 : dj.length ≤ 1013 := by rw [hdj, List.length_drop]; omega
  have l3 : dk.length ≤ 1013 := by rw [hdk, List.length_drop]; omega
  obtain ⟨z0, hz0⟩ : ∃ z0, z0 = tk ++ more := ⟨_, rfl⟩
  obtain ⟨z1, hz1⟩ : ∃ z1, z1 = z0 ++ dj := ⟨_, rfl⟩
  obtain ⟨z2, hz2⟩ : ∃ z2, z2 = z0 ++ dk := ⟨_, rfl⟩
  have k0 : z0.length ≤ 140737488356500 := by rw [hz0, List.length_append]; omega
  have k1 : z1.length ≤ 140737488357600 := by rw [hz1, List.length_append]; omega
  have k2 : z2.length ≤ 140737488357600 := by rw [hz2, List.length_append]; omega
  have cat0 := cat_at hz0 (by omega)
  have cat1 := cat_at hz1 (by omega)
  have cat2 := cat_at hz2 (by omega)
  clear hz0 hz1 hz2 htk hdj hdk hj
  go_wp2_with fail
  go_region_held3 (fun _ => True) (trivial) (fail)
  clear cat0 cat1 cat2 ht hd1 hd2 hmin
  have HBx := Lib.hid (bA (o := .cells #[.string (str s), .string (str z1), .string (str z2)] 9) HB4.out)
  have HNx := Lib.hid (show (w4.alloc (.cells #[.string (str s), .string (str z1), .string (str z2)] 9)).drew.heap[w4.heap.size]? = some (.cells #[.string (str s), .string (str z1), .string (str z2)] 9) from heap_alloc_new w4 _)
  have HGx := Lib.hid (show Glob (w4.alloc (.cells #[.string (str s), .string (str z1), .string (str z2)] 9)).drew from HG4.out.below (bD (bA (bR w4))))
  obtain ⟨W5, hW5⟩ : ∃ W5, W5 = (w4.alloc (.cells #[.string (str s), .string (str z1), .string (str z2)] 9)).drew := ⟨_, rfl⟩
  have HB5 := Lib.hid (show Below w.heap.size w W5 by rw [hW5]; exact bD HBx.out)
  rw [← hW5] at HNx HGx ⊢
  clear hW5
  go_wp2_with fail
  go_loopw [59] (fun v wr => ∃ i : Nat, i ≤ 3 ∧ v = .int .i64 i ∧ Below W5.heap.size W5 wr) (fun v _ => 3 - (intOf v).toNat)
  case atStart => exact ⟨0, by omega, rfl, bR W5⟩
  case round =>
    obtain ⟨i, hi3, rfl, hBr⟩ := hrel
    obtain ⟨w5, rfl⟩ : ∃ x, x = wr := ⟨wr, rfl⟩
    have HBr := Lib.hid hBr
    have HGr := Lib.hid (HGx.out.below hBr)
    have HNr := Lib.hid ((hBr.block _ (Array.getElem?_eq_some_iff.1 HNx.out).1).trans HNx.out)
    clear hBr
    by_cases hlt : i < 3
    · obtain ⟨z, hzc, hzl⟩ : ∃ z : List UInt8, w5.cell? ⟨w4.heap.size, i, none⟩ = some (.string (str z)) ∧ z.length ≤ 140737488357600 := by
        rw [cell_of_row w5 _ i _ _ _ HNr.out]
        have hi : i = 0 ∨ i = 1 ∨ i = 2 := by omega
        rcases hi with rfl | rfl | rfl
        · exact ⟨s, rfl, by omega⟩
        · exact ⟨z1, rfl, by omega⟩
        · exact ⟨z2, rfl, by omega⟩
      by_cases hlen : z.length ≤ 2000
      · obtain ⟨pr, hpr⟩ : ∃ pr, parseR z = pr := ⟨_, rfl⟩
        have HPr := Lib.hid hpr
        clear hpr
        go_wp2_with fail
        refine (parse_told HPr.out _ HGr.out (by omega)).mono ?_
        rintro e w6 ⟨⟨D1, u, v1, D2, v, v2, rfl, hi6, hc6⟩, hb6⟩
        have HB6 := Lib.hid (bT HBr.out hb6)
        have HG6 := Lib.hid (HGr.out.below hb6)
        clear hb6
        rcases pr with _ | _ | mm
        · obtain rfl : 0 = u := hi6.r1.int_len
          obtain rfl : 0 = v := hi6.r2.sym_len
          dsimp only [resI, errI, lineI]
          clear hi6
          go_wp2
          go_roundw
          case rel => exact ⟨i + 1, by omega, by go_num, bA HB6.out⟩
          case measure => simp [intOf]; omega
        · obtain rfl : 0 = u := hi6.r1.int_len
          obtain rfl : 0 = v := hi6.r2.sym_len
          dsimp only [resI, errI, lineI]
          clear hi6
          obtain ⟨ln, hln⟩ : ∃ ln, ln = Lib.countByte z 10 := ⟨_, rfl⟩
          rw [← hln]
          clear hln
          go_wp2
          go_roundw
          case rel => exact ⟨i + 1, by omega, by go_num, bA HB6.out⟩
          case measure => simp [intOf]; omega
        · dsimp only [resI, errI, lineI] at hi6 ⊢
          obtain ⟨hmr, hmp⟩ := parse_sound HPr.out
          obtain ⟨me, hme⟩ : ∃ me, me = mm.mem := ⟨_, rfl⟩
          have HI6 := Lib.hid (hi6.below (bA (o := .cells #[.slice D1 u v1, .int .i64 mm.mem, .slice D2 v v2] 25) (bR w6)))
          have HG7 := Lib.hid (HG6.out.below (bA (o := .cells #[.slice D1 u v1, .int .i64 mm.mem, .slice D2 v v2] 25) (bR w6)))
          have HX6 := Lib.hid (box_new w6 D1 u v1 mm.mem D2 v v2)
          have HB7 := Lib.hid (bA (o := .cells #[.slice D1 u v1, .int .i64 mm.mem, .slice D2 v v2] 25) HB6.out)
          have HPt := Lib.hid (fun w' hi hg => hmp ▸ print_yes D1 u v1 D2 v v2 mm w' hi hmr hg hc6)
          have HRt := Lib.hid (fun w' hi => hmr ▸ right_any D1 u v1 D2 v v2 mm w' hi)
          rw [← hme] at HX6 HB7 HG7 HI6 HPt HRt ⊢
          clear hi6 hmr hmp hme
          obtain ⟨t0, t1, t2, _⟩ := cells3 HX6.out
          go_wp2_with fail
          refine (HPt.out _ HI6.out HG7.out).mono ?_
          rintro e w7 ⟨rfl, hb7⟩
          have HB8 := Lib.hid (bT HB7.out hb7)
          have HI7 := Lib.hid (HI6.out.below hb7)
          have HX7 := Lib.hid (box_below HX6.out hb7)
          clear hb7 t0 t1 t2
          obtain ⟨t0, t1, t2, _⟩ := cells3 HX7.out
          go_wp2_with fail
          refine (HRt.out _ HI7.out).mono ?_
          rintro e w8 ⟨rfl, hb8⟩
          have HB9 := Lib.hid (bT HB8.out hb8)
          clear hb8 t0 t1 t2
          go_wp2
          go_roundw
          case rel => exact ⟨i + 1, by omega, by go_num, HB9.out⟩
          case measure => simp [intOf]; omega
      · go_wp2
        go_roundw
        case rel => exact ⟨i + 1, by omega, by go_num, HBr.out⟩
        case measure => simp [intOf]; omega
    · go_wp2
      go_ret
      exact ⟨rfl, bT HB5.out HBr.out⟩
end Go.Proofs.YtgajlhejefjhhaaGreatDoor
