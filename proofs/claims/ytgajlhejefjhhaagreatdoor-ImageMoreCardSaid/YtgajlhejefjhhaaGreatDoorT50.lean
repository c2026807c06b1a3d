/- The walk of the statement ImageMore. No condition of ours. -/
import Derived.Test.YtgajlhejefjhhaaGreatDoorT49
import Derived.Deep.RegionHeld3
namespace Go.Proofs.YtgajlhejefjhhaaGreatDoor
open Go.RowKit

set_option maxHeartbeats 4000000 in
set_option maxRecDepth 100000 in
theorem more_any (A1 : Option Addr) (n1 c1 : Nat) (A2 : Option Addr) (n2 c2 : Nat) (m : Img) (wv : Int) (w : World) (h : IsImg w A1 n1 A2 n2 m) (hw1 : -9223372036854775808 ≤ wv) (hw2 : wv ≤ 9223372036854775807) (hG : Glob w) :
    Calls Tryz.prog 9 #[.agg #[.slice A1 n1 c1, .int .i64 m.mem, .slice A2 n2 c2], .int .i64 wv] w fun e w' => e = .returned (.bool true) ∧ Below w.heap.size w w' := by
  obtain ⟨a, ha⟩ : ∃ a, a = m.mem := ⟨_, rfl⟩
  obtain ⟨x, hx⟩ : ∃ x, x = m.fit := ⟨_, rfl⟩
  have hF1 := fit_told A1 n1 c1 A2 n2 c2 m hx
  rw [← ha] at hF1 ⊢
  have HF1 := Lib.hid hF1
  have HX := Lib.hid (show x.right = true from hx ▸ fit_right m)
  have HSh := Lib.hid (show x.print.length ≤ 1013 from hx ▸ fit_short m)
  obtain ⟨qv, hqv⟩ : ∃ qv, qv = pk wv 4294967296 := ⟨_, rfl⟩
  have HPq := Lib.hid (fun w' => hqv ▸ pick_any wv 4294967296 w' (by omega) hw1 hw2)
  have hq1 : 0 ≤ qv := hqv ▸ pk_lo wv 4294967296 (by omega)
  have hq2 : qv < 4294967296 := hqv ▸ pk_hi wv 4294967296 (by omega)
  have HY := Lib.hid (show (x.more qv).right = true from hx ▸ more_right m qv hq1 hq2)
  have HYf := Lib.hid (show ∀ (k : Nat) (y : List UInt8 × Int), x.syms[k]? = some y → (x.more qv).find y.1 = y.2 from fun k y hy => by subst hx; exact more_find m qv hq1 hq2 hy)
  have HYl := Lib.hid (show (x.more qv).find [126, 126, 126] = 4 * ((x.words.length : Int) + 1) from by subst hx; exact more_last m qv hq1 hq2)
  have hB := bA (o := .cells #[.slice A1 n1 c1, .int .i64 a, .slice A2 n2 c2] 25) (bR w)
  have H := Lib.hid (h.below hB)
  have HG := Lib.hid (hG.below hB)
  have HB := Lib.hid hB
  have HN := Lib.hid (box_new w A1 n1 c1 a A2 n2 c2)
  clear hB h hG hF1 ha hx hw1 hw2 hqv
  go_enter Tryz.func9, Tryz.ntmps9
  go_wp2_with fail
  refine (awake_any _ HG.out).mono ?_
  rintro e w1 ⟨rfl, hb1⟩
  have HB1 := Lib.hid (bT HB.out hb1)
  have H1 := Lib.hid (H.out.below hb1)
  have HG1 := Lib.hid (HG.out.below hb1)
  have HN1 := Lib.hid (box_below HN.out hb1)
  clear hb1
  obtain ⟨r0, r1, r2, _⟩ := cells3 HN1.out
  go_wp2_with fail
  refine (HF1.out _ H1.out).mono ?_
  rintro e w2 ⟨⟨F1, p, f1, F2, q, f2, rfl, hi2, hf1, hp, hq, _, _⟩, hb2⟩
  clear r0 r1 r2
  have hlp := hi2.r1.int_len
  have hlq := hi2.r2.sym_len
  obtain ⟨xm, hxm⟩ : ∃ xm, xm = x.mem := ⟨_, rfl⟩
  rw [← hxm]
  have hb2a := bA (o := .cells #[.slice F1 p f1, .int .i64 xm, .slice F2 q f2] 25) hb2
  obtain ⟨W0, hW0⟩ : ∃ W0, W0 = w2.alloc (.cells #[.slice F1 p f1, .int .i64 xm, .slice F2 q f2] 25) := ⟨_, rfl⟩
  have HB2 := Lib.hid (show Below w.heap.size w W0 from hW0 ▸ bT HB1.out hb2a)
  have HI2 := Lib.hid (show IsImg W0 F1 p F2 q x from hW0 ▸ hi2.below (bA (o := .cells #[.slice F1 p f1, .int .i64 xm, .slice F2 q f2] 25) (bR w2)))
  have HG2 := Lib.hid (show Glob W0 from hW0 ▸ HG1.out.below hb2a)
  have HX2 := Lib.hid (show Box W0 w2.heap.size F1 p f1 xm F2 q f2 from hW0 ▸ box_new w2 F1 p f1 xm F2 q f2)
  have HM := Lib.hid hxm
  have HLp := Lib.hid hlp
  have HLq := Lib.hid hlq
  clear hb2 hb2a hi2 hxm hlp hlq
  go_upto_region 3 with fail
  rw [← hW0]
  clear hW0
  obtain ⟨b, hb⟩ : ∃ b, b = w2.heap.size := ⟨_, rfl⟩
  rw [← hb] at HX2 ⊢
  clear hb
  go_cut [7] from 16 to 36 (fun s7 wx => MoreR ⟨W0, b, F1, p, f1, xm, F2, q, f2, x, wv, qv⟩ s7 wx)
  case first =>
    obtain ⟨i0, hii, hz0, hz1, hz2⟩ := info_parts i64_info
    obtain ⟨j0, hjj, hy0, hy1, hy2⟩ := info_parts sym_info
    refine wp_region_inv (by kernel_rfl) (MoreI ⟨W0, b, F1, p, f1, xm, F2, q, f2, x, wv, qv⟩ ⟨_, _, _, _, _, _, _, _, _, _, _, _, _⟩) (by kernel_rfl) ⟨⟨undef, undef, undef, undef, undef, undef, undef, undef, undef, undef, undef, undef, undef, undef, undef, undef, undef, undef, undef, undef, undef, undef⟩, rfl, (Below.refl _ _).drew, fun j hj => ?_⟩ (fun i hi l a' w' hs hI hni hd => ?_) (fun l a' w' hs hall hI => ?_)
    · simp [Array.getD] at hj
    · obtain ⟨⟨v7, v16, v17, v18, v19, v20, v21, v22, v23, v24, v25, v26, v27, v28, v29, v30, v31, v32, v33, v34, v35, v36⟩, rfl, hB, hall⟩ := hI
      have hi23 : i < 23 := hi
      have HA := Lib.hid hall
      have HD := Lib.hid hd
      have HBx := Lib.hid (show Box w' b F1 p f1 xm F2 q f2 from box_below HX2.out hB)
      obtain ⟨r0, r1, r2, _⟩ := cells3 HBx.out
      clear hall hd hi
      have hcases : i = 0 ∨ i = 1 ∨ i = 2 ∨ i = 3 ∨ i = 4 ∨ i = 5 ∨ i = 6 ∨ i = 7 ∨ i = 8 ∨ i = 9 ∨ i = 10 ∨ i = 11 ∨ i = 12 ∨ i = 13 ∨ i = 14 ∨ i = 15 ∨ i = 16 ∨ i = 17 ∨ i = 18 ∨ i = 19 ∨ i = 20 ∨ i = 21 ∨ i = 22 := by omega
      clear hi23
      rcases hcases with rfl | rfl | rfl | rfl | rfl | rfl | rfl | rfl | rfl | rfl | rfl | rfl | rfl | rfl | rfl | rfl | rfl | rfl | rfl | rfl | rfl | rfl | rfl
      · refine wpOp_step (at0) (fun K hK => ?_)
        have HK := Lib.hid hK
        clear hK
        simp only [moreF]
        go_simp
        refine HK.out _ _ ⟨⟨_, _, _, _, _, _, _, _, _, _, _, _, _, _, _, _, _, _, _, _, _, _⟩, rfl, hB, more_step HA.out rfl (fun j hj _ h => cond_mono 0 j (cond_put0 _ j ⟨hj, fun k hk => by cases hk⟩ h))⟩
      · have k0 := HA.out 0 (HD.out 0 (by decide +kernel))
        obtain rfl : v16 = _ := k0
        refine wpOp_step (atS (at0)) (fun K hK => ?_)
        have HK := Lib.hid hK
        clear hK
        simp only [moreF]
        go_simp
        refine HK.out _ _ ⟨⟨_, _, _, _, _, _, _, _, _, _, _, _, _, _, _, _, _, _, _, _, _, _⟩, rfl, hB, more_step HA.out rfl (fun j hj _ h => cond_mono 1 j (cond_put1 _ j ⟨hj, fun k hk => by cases hk⟩ h))⟩
      · have k1 := HA.out 1 (HD.out 1 (by decide +kernel))
        obtain rfl : v17 = _ := k1
        refine wpOp_step (atS (atS (at0))) (fun K hK => ?_)
        rw [if_pos (by rfl)]
        refine wp_append_rd _ (.const (.slice none 0 0)) (.tmp 17) 22 rfl w'.heap.size 3 i0 _ 1 8 Tryz.underlying22 hii hz0 hz1 hz2 rfl (by decide) (.slice none 0 0) 0 [] rfl (World.ownsRow_nil _ _ _ _) F1 p f1 (x.words.map (Value.int .i64)) rfl (HI2.out.below hB).r1 (fun u hu => by obtain ⟨z, _, rfl⟩ := List.mem_map.1 hu; rfl) (by unfold maxLen; omega) (by omega) (Nat.le_refl _) ?_
        intro v' w3 hown hg
        simp only [moreF, Act.put, List.setIfInBounds_toArray, List.set_cons_zero, List.set_cons_succ]
        have hb3 := grown_own (World.ownsRow_nil w' w'.heap.size 3 1) hg w'.heap.size (Nat.le_refl _) (Nat.le_refl _)
        rw [Nat.zero_add, List.nil_append] at hown
        refine hK _ _ ⟨⟨_, _, _, _, _, _, _, _, _, _, _, _, _, _, _, _, _, _, _, _, _, _⟩, rfl, hB.trans (hb3.mono hB.size), more_step HA.out (.inr (own_low hown hB.size)) (fun j hj _ h => cond_mono 2 j (cond_put2 _ j ⟨hj, fun k hk => by cases hk⟩ (cond_below hb3 j h)))⟩
      · refine wpOp_step (atS (atS (atS (at0)))) (fun K hK => ?_)
        have HK := Lib.hid hK
        clear hK
        simp only [moreF]
        go_simp
        refine HK.out _ _ ⟨⟨_, _, _, _, _, _, _, _, _, _, _, _, _, _, _, _, _, _, _, _, _, _⟩, rfl, hB, more_step HA.out rfl (fun j hj _ h => cond_mono 3 j (cond_put3 _ j ⟨hj, fun k hk => by cases hk⟩ h))⟩
      · have k3 := HA.out 3 (HD.out 3 (by decide +kernel))
        have k2 := HA.out 2 (HD.out 2 (by decide +kernel))
        obtain rfl : v19 = _ := k3
        refine wpOp_step (atS (atS (atS (atS (at0))))) (fun K hK => ?_)
        have HK := Lib.hid hK
        clear hK
        simp only [moreF]
        go_simp
        go_wp2_with (go_at_call 22; refine (HPq.out _).mono ?_; rintro e w'' ⟨rfl, rfl⟩)
        refine HK.out _ _ ⟨⟨_, _, _, _, _, _, _, _, _, _, _, _, _, _, _, _, _, _, _, _, _, _⟩, rfl, hB, more_step HA.out ⟨gs_mono (HD.out 2 (by decide +kernel)), rfl⟩ (fun j hj _ h => cond_mono 4 j (cond_put4 _ j ⟨hj, fun k hk => by cases hk⟩ h))⟩
      · have k4 := HA.out 4 (HD.out 4 (by decide +kernel))
        obtain ⟨k42, k4⟩ := k4
        obtain rfl : v20 = _ := k4
        refine wpOp_step (atS (atS (atS (atS (atS (at0)))))) (fun K hK => ?_)
        have HK := Lib.hid hK
        clear hK
        simp only [moreF]
        go_simp
        refine HK.out _ _ ⟨⟨_, _, _, _, _, _, _, _, _, _, _, _, _, _, _, _, _, _, _, _, _, _⟩, rfl, hB.alloc hB.size _, more_step HA.out ⟨gs_mono k42, .inr ⟨_, rfl, heap_alloc_new w' _⟩⟩ (fun j hj _ h => cond_mono 5 j (cond_put5 _ j ⟨hj, fun k hk => by cases hk⟩ (cond_below (bA (bR w')) j h)))⟩
      · have k2 := HA.out 2 (HD.out 2 (by decide +kernel))
        have k5 := HA.out 5 (HD.out 5 (by decide +kernel))
        have k4 := HA.out 4 (HD.out 4 (by decide +kernel))
        obtain ⟨k42, k4⟩ := k4
        obtain rfl : v20 = _ := k4
        have ho2 := k2.resolve_left (by rw [hni]; decide)
        obtain ⟨k52, k5⟩ := k5
        obtain ⟨g, hv, hgc⟩ := k5.resolve_left (by rw [hni]; decide)
        obtain rfl : v21 = _ := hv
        refine wpOp_step (atS (atS (atS (atS (atS (atS (at0))))))) (fun K hK => ?_)
        rw [if_pos (by rfl)]
        refine wp_append_rd _ (.tmp 18) (.tmp 21) 22 rfl W0.heap.size 3 i0 _ 1 8 Tryz.underlying22 hii hz0 hz1 hz2 rfl (by decide) v18 p _ rfl ho2 (some ⟨g, 0, none⟩) 1 1 [.int .i64 qv] rfl (rd_one hgc) (by simp [Value.oneCell']) (by unfold maxLen; omega) (by omega) hB.size ?_
        intro v' w3 hown hg
        simp only [moreF, Act.put, List.setIfInBounds_toArray, List.set_cons_zero, List.set_cons_succ]
        have hb3 := grown_own ho2 hg W0.heap.size (Nat.le_refl _) hB.size
        exact hK _ _ ⟨⟨_, _, _, _, _, _, _, _, _, _, _, _, _, _, _, _, _, _, _, _, _, _⟩, rfl, hB.trans hb3, more_step HA.out ⟨⟨gs_mono k52, gs_mono (HD.out 5 (by decide +kernel))⟩, hown⟩ (fun j hj _ h => cond_app6 _ (by rw [hs]; decide) hni ho2 hg j hj h)⟩
      · refine wpOp_step (atS (atS (atS (atS (atS (atS (atS (at0)))))))) (fun K hK => ?_)
        have HK := Lib.hid hK
        clear hK
        simp only [moreF]
        go_simp
        refine HK.out _ _ ⟨⟨_, _, _, _, _, _, _, _, _, _, _, _, _, _, _, _, _, _, _, _, _, _⟩, rfl, hB, more_step HA.out rfl (fun j hj _ h => cond_mono 7 j (cond_put7 _ j ⟨hj, fun k hk => by cases hk⟩ h))⟩
      · have k7 := HA.out 7 (HD.out 7 (by decide +kernel))
        obtain rfl : v23 = _ := k7
        refine wpOp_step (atS (atS (atS (atS (atS (atS (atS (atS (at0))))))))) (fun K hK => ?_)
        have HK := Lib.hid hK
        clear hK
        simp only [moreF]
        go_simp
        refine HK.out _ _ ⟨⟨_, _, _, _, _, _, _, _, _, _, _, _, _, _, _, _, _, _, _, _, _, _⟩, rfl, hB, more_step HA.out rfl (fun j hj _ h => cond_mono 8 j (cond_put8 _ j ⟨hj, fun k hk => by cases hk⟩ h))⟩
      · refine wpOp_step (atS (atS (atS (atS (atS (atS (atS (atS (atS (at0)))))))))) (fun K hK => ?_)
        have HK := Lib.hid hK
        clear hK
        simp only [moreF]
        go_simp
        refine HK.out _ _ ⟨⟨_, _, _, _, _, _, _, _, _, _, _, _, _, _, _, _, _, _, _, _, _, _⟩, rfl, hB, more_step HA.out rfl (fun j hj _ h => cond_mono 9 j (cond_put9 _ j ⟨hj, fun k hk => by cases hk⟩ h))⟩
      · have k9 := HA.out 9 (HD.out 9 (by decide +kernel))
        obtain rfl : v25 = _ := k9
        refine wpOp_step (atS (atS (atS (atS (atS (atS (atS (atS (atS (atS (at0))))))))))) (fun K hK => ?_)
        have HK := Lib.hid hK
        clear hK
        simp only [moreF]
        go_simp
        refine HK.out _ _ ⟨⟨_, _, _, _, _, _, _, _, _, _, _, _, _, _, _, _, _, _, _, _, _, _⟩, rfl, hB, more_step HA.out rfl (fun j hj _ h => cond_mono 10 j (cond_put10 _ j ⟨hj, fun k hk => by cases hk⟩ h))⟩
      · have k10 := HA.out 10 (HD.out 10 (by decide +kernel))
        have k6 := HA.out 6 (HD.out 6 (by decide +kernel))
        obtain rfl : v26 = _ := k10
        refine wpOp_step (atS (atS (atS (atS (atS (atS (atS (atS (atS (atS (atS (at0)))))))))))) (fun K hK => ?_)
        rw [if_pos (by rfl)]
        refine wp_append_rd _ (.const (.slice none 0 0)) (.tmp 26) 23 rfl w'.heap.size 45 j0 _ 2 24 Tryz.underlying23 hjj hy0 hy1 hy2 rfl (by decide) (.slice none 0 0) 0 [] rfl (World.ownsRow_nil _ _ _ _) F2 q f2 (symCells x.syms) rfl (HI2.out.below hB).r2 (symCells_one _) (by unfold maxLen; omega) (by omega) (Nat.le_refl _) ?_
        intro v' w3 hown hg
        simp only [moreF, Act.put, List.setIfInBounds_toArray, List.set_cons_zero, List.set_cons_succ]
        have hb3 := grown_own (World.ownsRow_nil w' w'.heap.size 45 2) hg w'.heap.size (Nat.le_refl _) (Nat.le_refl _)
        rw [Nat.zero_add, List.nil_append] at hown
        refine hK _ _ ⟨⟨_, _, _, _, _, _, _, _, _, _, _, _, _, _, _, _, _, _, _, _, _, _⟩, rfl, hB.trans (hb3.mono hB.size), more_step HA.out ⟨gs_mono (HD.out 6 (by decide +kernel)), .inr (own_low hown hB.size)⟩ (fun j hj _ h => cond_mono 11 j (cond_put11 _ j ⟨hj, fun k hk => by cases hk⟩ (cond_below hb3 j h)))⟩
      · refine wpOp_step (atS (atS (atS (atS (atS (atS (atS (atS (atS (atS (atS (atS (at0))))))))))))) (fun K hK => ?_)
        have HK := Lib.hid hK
        clear hK
        simp only [moreF]
        go_simp
        refine HK.out _ _ ⟨⟨_, _, _, _, _, _, _, _, _, _, _, _, _, _, _, _, _, _, _, _, _, _⟩, rfl, hB, more_step HA.out rfl (fun j hj _ h => cond_mono 12 j (cond_put12 _ j ⟨hj, fun k hk => by cases hk⟩ h))⟩
      · have k12 := HA.out 12 (HD.out 12 (by decide +kernel))
        obtain rfl : v28 = _ := k12
        refine wpOp_step (atS (atS (atS (atS (atS (atS (atS (atS (atS (atS (atS (atS (atS (at0)))))))))))))) (fun K hK => ?_)
        have HK := Lib.hid hK
        clear hK
        simp only [moreF]
        go_simp
        refine HK.out _ _ ⟨⟨_, _, _, _, _, _, _, _, _, _, _, _, _, _, _, _, _, _, _, _, _, _⟩, rfl, hB, more_step HA.out rfl (fun j hj _ h => cond_mono 13 j (cond_put13 _ j ⟨hj, fun k hk => by cases hk⟩ h))⟩
      · have k13 := HA.out 13 (HD.out 13 (by decide +kernel))
        obtain rfl : v29 = _ := k13
        refine wpOp_step (atS (atS (atS (atS (atS (atS (atS (atS (atS (atS (atS (atS (atS (atS (at0))))))))))))))) (fun K hK => ?_)
        have HK := Lib.hid hK
        clear hK
        simp only [moreF]
        go_simp
        refine HK.out _ _ ⟨⟨_, _, _, _, _, _, _, _, _, _, _, _, _, _, _, _, _, _, _, _, _, _⟩, rfl, hB, more_step HA.out rfl (fun j hj _ h => cond_mono 14 j (cond_put14 _ j ⟨hj, fun k hk => by cases hk⟩ h))⟩
      · have k14 := HA.out 14 (HD.out 14 (by decide +kernel))
        obtain rfl : v30 = _ := k14
        refine wpOp_step (atS (atS (atS (atS (atS (atS (atS (atS (atS (atS (atS (atS (atS (atS (atS (at0)))))))))))))))) (fun K hK => ?_)
        have HK := Lib.hid hK
        clear hK
        simp only [moreF]
        go_simp
        rw [IntWalk.i64_in _ (by omega)]
        refine HK.out _ _ ⟨⟨_, _, _, _, _, _, _, _, _, _, _, _, _, _, _, _, _, _, _, _, _, _⟩, rfl, hB, more_step HA.out rfl (fun j hj _ h => cond_mono 15 j (cond_put15 _ j ⟨hj, fun k hk => by cases hk⟩ h))⟩
      · have k15 := HA.out 15 (HD.out 15 (by decide +kernel))
        obtain rfl : v31 = _ := k15
        refine wpOp_step (atS (atS (atS (atS (atS (atS (atS (atS (atS (atS (atS (atS (atS (atS (atS (atS (at0))))))))))))))))) (fun K hK => ?_)
        have HK := Lib.hid hK
        clear hK
        simp only [moreF]
        go_simp
        rw [IntWalk.i64_in _ (by omega)]
        refine HK.out _ _ ⟨⟨_, _, _, _, _, _, _, _, _, _, _, _, _, _, _, _, _, _, _, _, _, _⟩, rfl, hB, more_step HA.out rfl (fun j hj _ h => cond_mono 16 j (cond_put16 _ j ⟨hj, fun k hk => by cases hk⟩ h))⟩
      · have k16 := HA.out 16 (HD.out 16 (by decide +kernel))
        obtain rfl : v32 = _ := k16
        refine wpOp_step (atS (atS (atS (atS (atS (atS (atS (atS (atS (atS (atS (atS (atS (atS (atS (atS (atS (at0)))))))))))))))))) (fun K hK => ?_)
        have HK := Lib.hid hK
        clear hK
        simp only [moreF]
        go_simp
        refine HK.out _ _ ⟨⟨_, _, _, _, _, _, _, _, _, _, _, _, _, _, _, _, _, _, _, _, _, _⟩, rfl, hB, more_step HA.out rfl (fun j hj _ h => cond_mono 17 j (cond_put17 _ j ⟨hj, fun k hk => by cases hk⟩ h))⟩
      · have k17 := HA.out 17 (HD.out 17 (by decide +kernel))
        obtain rfl : v33 = _ := k17
        refine wpOp_step (atS (atS (atS (atS (atS (atS (atS (atS (atS (atS (atS (atS (atS (atS (atS (atS (atS (atS (at0))))))))))))))))))) (fun K hK => ?_)
        have HK := Lib.hid hK
        clear hK
        simp only [moreF]
        go_simp
        refine HK.out _ _ ⟨⟨_, _, _, _, _, _, _, _, _, _, _, _, _, _, _, _, _, _, _, _, _, _⟩, rfl, hB.alloc hB.size _, more_step HA.out (.inr ⟨_, rfl, heap_alloc_new w' _⟩) (fun j hj _ h => cond_mono 18 j (cond_put18 _ j ⟨hj, fun k hk => by cases hk⟩ (cond_below (bA (bR w')) j h)))⟩
      · have k11 := HA.out 11 (HD.out 11 (by decide +kernel))
        have k18 := HA.out 18 (HD.out 18 (by decide +kernel))
        obtain ⟨k116, k11⟩ := k11
        have ho2 := k11.resolve_left (by rw [hni]; decide)
        obtain ⟨g, hv, hgc⟩ := k18.resolve_left (by rw [hni]; decide)
        obtain rfl : v34 = _ := hv
        refine wpOp_step (atS (atS (atS (atS (atS (atS (atS (atS (atS (atS (atS (atS (atS (atS (atS (atS (atS (atS (atS (at0)))))))))))))))))))) (fun K hK => ?_)
        rw [if_pos (by rfl)]
        refine wp_append_rd _ (.tmp 27) (.tmp 34) 23 rfl W0.heap.size 45 j0 _ 2 24 Tryz.underlying23 hjj hy0 hy1 hy2 rfl (by decide) v27 q _ rfl ho2 (some ⟨g, 0, none⟩) 1 1 [.string tl3, .int .i64 (4 * ((p : Int) + 1))] rfl (rd_two hgc) (by simp [Value.oneCell']) (by unfold maxLen; omega) (by omega) hB.size ?_
        intro v' w3 hown hg
        simp only [moreF, Act.put, List.setIfInBounds_toArray, List.set_cons_zero, List.set_cons_succ]
        have hb3 := grown_own ho2 hg W0.heap.size (Nat.le_refl _) hB.size
        exact hK _ _ ⟨⟨_, _, _, _, _, _, _, _, _, _, _, _, _, _, _, _, _, _, _, _, _, _⟩, rfl, hB.trans hb3, more_step HA.out ⟨⟨gs_mono (HD.out 11 (by decide +kernel)), gs_mono k116⟩, hown⟩ (fun j hj _ h => cond_app19 _ (by rw [hs]; decide) hni ho2 hg j hj h)⟩
      · have k6 := HA.out 6 (HD.out 6 (by decide +kernel))
        have k8 := HA.out 8 (HD.out 8 (by decide +kernel))
        have k19 := HA.out 19 (HD.out 19 (by decide +kernel))
        obtain rfl : v24 = _ := k8
        obtain ⟨_, ho6⟩ := k6
        obtain ⟨_, ho19⟩ := k19
        obtain ⟨A', c', rfl, _⟩ := own_slice ho6
        obtain ⟨D', d', rfl, _⟩ := own_slice ho19
        clear ho6 ho19
        refine wpOp_step (atS (atS (atS (atS (atS (atS (atS (atS (atS (atS (atS (atS (atS (atS (atS (atS (atS (atS (atS (atS (at0))))))))))))))))))))) (fun K hK => ?_)
        have HK := Lib.hid hK
        clear hK
        simp only [moreF]
        go_simp
        refine HK.out _ _ ⟨⟨_, _, _, _, _, _, _, _, _, _, _, _, _, _, _, _, _, _, _, _, _, _⟩, rfl, hB, more_step HA.out ⟨⟨gs_mono (HD.out 6 (by decide +kernel)), gs_mono (HD.out 19 (by decide +kernel))⟩, rfl⟩ (fun j hj _ h => cond_mono 20 j (cond_put20 _ j ⟨hj, fun k hk => by cases hk⟩ h))⟩
      · refine wpOp_step (atS (atS (atS (atS (atS (atS (atS (atS (atS (atS (atS (atS (atS (atS (atS (atS (atS (atS (atS (atS (atS (at0)))))))))))))))))))))) (fun K hK => ?_)
        have HK := Lib.hid hK
        clear hK
        simp only [moreF]
        go_simp
        refine HK.out _ _ ⟨⟨_, _, _, _, _, _, _, _, _, _, _, _, _, _, _, _, _, _, _, _, _, _⟩, rfl, hB.alloc hB.size _, more_step HA.out ⟨_, rfl, hB.size, .inr (heap_alloc_new w' _)⟩ (fun j hj _ h => cond_mono 21 j (cond_put21 _ j ⟨hj, by
          intro k hk e
          subst e
          simp only [List.mem_cons, List.not_mem_nil, or_false] at hk
          subst hk
          exact absurd h.1.2.2 (by rw [hni]; decide)⟩ (cond_below (bA (bR w')) j h)))⟩
      · have k21 := HA.out 21 (HD.out 21 (by decide +kernel))
        have k20 := HA.out 20 (HD.out 20 (by decide +kernel))
        have k19 := HA.out 19 (HD.out 19 (by decide +kernel))
        obtain ⟨⟨k206, k2019⟩, hv36⟩ := k20
        obtain rfl : v36 = .agg #[v22, .int .i64 xm, v35] := hv36
        obtain ⟨g, hv7, hgB, hg22⟩ := k21
        obtain rfl : v7 = _ := hv7
        have hgc := hg22.resolve_left (by rw [hni]; decide)
        obtain ⟨_, ho6⟩ := HA.out 6 k206
        obtain ⟨_, ho19⟩ := k19
        obtain ⟨A', c', rfl, _⟩ := own_slice ho6
        obtain ⟨D', d', rfl, _⟩ := own_slice ho19
        clear ho6 ho19 hg22
        have HGc := Lib.hid hgc
        obtain ⟨g0, g1, g2, z0, z1, z2⟩ := cells3 hgc
        clear hgc
        refine wpOp_step (atS (atS (atS (atS (atS (atS (atS (atS (atS (atS (atS (atS (atS (atS (atS (atS (atS (atS (atS (atS (atS (atS (at0))))))))))))))))))))))) (fun K hK => ?_)
        have HK := Lib.hid hK
        clear hK
        simp only [moreF]
        go_simp
        refine HK.out _ _ ⟨⟨_, _, _, _, _, _, _, _, _, _, _, _, _, _, _, _, _, _, _, _, _, _⟩, rfl, ((hB.setCell hgB _).setCell hgB _).setCell hgB _, more_step HA.out ⟨⟨gs_mono k206, gs_mono k2019, gs_mono (HD.out 21 (by decide +kernel))⟩, g, rfl, hgB, set3 HGc.out⟩ (fun j hj _ h => cond_st22 (by rw [hs]; decide) HGc.out j hj h)⟩
    · obtain ⟨⟨v7, v16, v17, v18, v19, v20, v21, v22, v23, v24, v25, v26, v27, v28, v29, v30, v31, v32, v33, v34, v35, v36⟩, rfl, hB, hall'⟩ := hI
      have HA := Lib.hid (fun j (h : j < 23) => hall' j (hall j h))
      clear hall' hall
      obtain ⟨_, g, hv7, hgB, hgc⟩ := HA.out 22 (by decide)
      obtain rfl : v7 = _ := hv7
      obtain ⟨_, ho6⟩ := HA.out 6 (by decide)
      obtain ⟨_, ho19⟩ := HA.out 19 (by decide)
      have HR := Lib.hid (more_rel (c := ⟨W0, b, F1, p, f1, xm, F2, q, f2, x, wv, qv⟩) HY.out HM.out HLp.out HLq.out hB hgc ho6 ho19)
      clear hB hgc ho6 ho19 HA hgB
      simp only [moreF]
      go_wp2_with fail
      go_meet
      exact HR.out
  case rest =>
    obtain ⟨g, A, cA, D, d, rfl, hbx, hiy, hcA, hbw⟩ := hcut
    obtain ⟨w3, rfl⟩ : ∃ x, x = wc := ⟨wc, rfl⟩
    dsimp only at hbx hiy hcA hbw
    obtain ⟨p1, hp1⟩ : ∃ p1, p1 = p + 1 := ⟨_, rfl⟩
    obtain ⟨q1, hq1⟩ : ∃ q1, q1 = q + 1 := ⟨_, rfl⟩
    rw [← hp1, ← hq1] at hbx hiy
    rw [← hp1] at hcA
    have HP1 := Lib.hid hp1
    have hp41 : p1 ≤ 41 := by omega
    clear hp1 hq1
    have HB3 := Lib.hid (HB2.out.trans (hbw.mono (by have := HB2.out.size; omega)))
    have HI3 := Lib.hid (HI2.out.below hbw)
    have HG3 := Lib.hid (HG2.out.below hbw)
    have HX3 := Lib.hid (box_below HX2.out hbw)
    have HY3 := Lib.hid hbx
    have HJ3 := Lib.hid hiy
    obtain ⟨y, hy⟩ : ∃ y, y = x.more qv := ⟨_, rfl⟩
    have HNe := Lib.hid (show x.same y = false from hy ▸ more_other x qv)
    have HLn := Lib.hid (show y.print.length = x.print.length + 22 from hy ▸ more_len x qv)
    rw [← hy] at HJ3 HY HYf HYl
    have HYm := Lib.hid (show xm = y.mem by rw [hy, HM.out]; rfl)
    have HMx := Lib.hid (show x.mem = xm from HM.out.symm)
    clear hbx hiy hbw hy
    have HPx := Lib.hid (show ∀ w', IsImg w' F1 p F2 q x → Glob w' → Calls Tryz.prog 12 #[.agg #[.slice F1 p f1, .int .i64 xm, .slice F2 q f2]] w' (fun e w'' => e = .returned (.tuple #[.string (str x.print), .int .i64 0]) ∧ Below w'.heap.size w' w'') from fun w' hi hg => by rw [← HMx.out]; exact print_yes F1 p f1 F2 q f2 x w' hi HX.out hg hf1)
    have HPy := Lib.hid (show ∀ w', IsImg w' A p1 D q1 y → Glob w' → Calls Tryz.prog 12 #[.agg #[.slice A p1 cA, .int .i64 xm, .slice D q1 d]] w' (fun e w'' => e = .returned (.tuple #[.string (str y.print), .int .i64 0]) ∧ Below w'.heap.size w' w'') from fun w' hi hg => by rw [HYm.out]; exact print_yes A p1 cA D q1 d y w' hi HY.out hg hcA)
    have HFy := Lib.hid (show ∀ (t : List UInt8) w', IsImg w' A p1 D q1 y → Calls Tryz.prog 18 #[.agg #[.slice A p1 cA, .int .i64 xm, .slice D q1 d], .string (str t)] w' (fun e w'' => e = .returned (.int .i64 (y.find t)) ∧ Below w'.heap.size w' w'') from fun t w' hi => by rw [HYm.out]; exact find_any A p1 cA D q1 d y t w' hi)
    have HRy := Lib.hid (show ∀ w', IsImg w' A p1 D q1 y → Calls Tryz.prog 14 #[.agg #[.slice A p1 cA, .int .i64 xm, .slice D q1 d]] w' (fun e w'' => e = .returned (.bool true) ∧ Below w'.heap.size w' w'') from fun w' hi => by rw [HYm.out, ← HY.out]; exact right_any A p1 cA D q1 d y w' hi)
    have HSy := Lib.hid (show ∀ w', IsImg w' F1 p F2 q x → IsImg w' A p1 D q1 y → Calls Tryz.prog 20 #[.agg #[.slice F1 p f1, .int .i64 xm, .slice F2 q f2], .agg #[.slice A p1 cA, .int .i64 xm, .slice D q1 d]] w' (fun e w'' => e = .returned (.bool false) ∧ Below w'.heap.size w' w'') from fun w' hi hj => by
      rw [← HNe.out]
      have := same_any F1 p f1 F2 q f2 x A p1 cA D q1 d y w' hi hj
      rw [HMx.out, ← HYm.out] at this
      exact this)
    have HFl := Lib.hid (show y.find [126, 126, 126] = 4 * (p1 : Int) by rw [HYl.out, HLp.out, HP1.out]; omega)
    go_wp2_with fail
    go_loopw [8] (fun i wr => ∃ k : Nat, k ≤ q ∧ i = .int .i64 k ∧ Below w3.heap.size w3 wr) (fun i _ => q - (intOf i).toNat)
    case atStart => exact ⟨0, Nat.zero_le _, rfl, bR w3⟩
    case round =>
      obtain ⟨k, hk, rfl, hB4⟩ := hrel
      obtain ⟨w4, rfl⟩ : ∃ x, x = wr := ⟨wr, rfl⟩
      have HB4 := Lib.hid hB4
      have HI4 := Lib.hid (HI3.out.below hB4)
      have HJ4 := Lib.hid (HJ3.out.below hB4)
      have HG4 := Lib.hid (HG3.out.below hB4)
      have HX4 := Lib.hid (box_below HX3.out hB4)
      have HY4 := Lib.hid (box_below HY3.out hB4)
      clear hB4
      obtain ⟨r0, r1, r2, _⟩ := cells3 HX4.out
      obtain ⟨t0, t1, t2, _⟩ := cells3 HY4.out
      by_cases hlt : k < q
      · obtain ⟨b', off, nm, pl, rfl, hx, hc, hd⟩ := HI4.out.r2.sym hlt
        have hv : y.find nm = pl := HYf.out k _ hx
        have HFk := Lib.hid (fun w' hi => hv ▸ HFy.out nm w' hi)
        clear hv hx
        have HK := Lib.hid (fun (w' : World) (hb : Below w4.heap.size w4 w') => show (w'.cell? ⟨b, 2, none⟩ = some (.slice (some ⟨b', off, none⟩) q f2) ∧ w'.cell? ⟨g, 0, none⟩ = some (.slice A p1 cA) ∧ w'.cell? ⟨g, 1, none⟩ = some (.int .i64 xm) ∧ w'.cell? ⟨g, 2, none⟩ = some (.slice D q1 d) ∧ w'.cell? ⟨b', off + k * 2, none⟩ = some (.string (str nm)) ∧ w'.cell? ⟨b', off + k * 2 + 1, none⟩ = some (.int .i64 pl)) from
          ⟨(hb.cell (p := ⟨b, 2, none⟩) (cell_lt r2)).trans r2, (hb.cell (p := ⟨g, 0, none⟩) (cell_lt t0)).trans t0, (hb.cell (p := ⟨g, 1, none⟩) (cell_lt t1)).trans t1, (hb.cell (p := ⟨g, 2, none⟩) (cell_lt t2)).trans t2, (hb.cell (p := ⟨b', off + k * 2, none⟩) (cell_lt hc)).trans hc, (hb.cell (p := ⟨b', off + k * 2 + 1, none⟩) (cell_lt hd)).trans hd⟩)
        go_wp2_with fail
        go_region_held3 (fun w' => w'.cell? ⟨b, 2, none⟩ = some (.slice (some ⟨b', off, none⟩) q f2) ∧ w'.cell? ⟨g, 0, none⟩ = some (.slice A p1 cA) ∧ w'.cell? ⟨g, 1, none⟩ = some (.int .i64 xm) ∧ w'.cell? ⟨g, 2, none⟩ = some (.slice D q1 d) ∧ w'.cell? ⟨b', off + k * 2, none⟩ = some (.string (str nm)) ∧ w'.cell? ⟨b', off + k * 2 + 1, none⟩ = some (.int .i64 pl)) (first | exact HK.out _ (bT (bD (bR w4)) hb5) | exact HK.out _ (bR w4) | exact HK.out _ (bD (bR w4)))
          (first | (go_at_call 18; refine (HFk.out _ (HJ4.out.below (bD (bR w4)))).mono ?_; rintro e w5 ⟨rfl, hb5⟩))
        go_wp2_with fail
        have hB5 := (HB4.out.drew).trans (hb5.mono HB4.out.size)
        go_roundw
        case rel => exact ⟨k + 1, by omega, by go_num, hB5⟩
        case measure => simp [intOf]; omega
      · clear HYf
        go_wp2_with fail
        refine (HPx.out _ HI4.out HG4.out).mono ?_
        rintro e w5 ⟨rfl, hb5⟩
        have HB5 := Lib.hid (bT HB4.out hb5)
        have HI5 := Lib.hid (HI4.out.below hb5)
        have HJ5 := Lib.hid (HJ4.out.below hb5)
        have HG5 := Lib.hid (HG4.out.below hb5)
        have HX5 := Lib.hid (box_below HX4.out hb5)
        have HY5 := Lib.hid (box_below HY4.out hb5)
        clear hb5 r0 r1 r2 t0 t1 t2
        obtain ⟨t0, t1, t2, _⟩ := cells3 HY5.out
        go_wp2_with fail
        refine (HPy.out _ HJ5.out HG5.out).mono ?_
        rintro e w6 ⟨rfl, hb6⟩
        have HB6 := Lib.hid (bT HB5.out hb6)
        have HI6 := Lib.hid (HI5.out.below hb6)
        have HJ6 := Lib.hid (HJ5.out.below hb6)
        have HX6 := Lib.hid (box_below HX5.out hb6)
        have HY6 := Lib.hid (box_below HY5.out hb6)
        clear hb6 t0 t1 t2
        obtain ⟨px, hpx⟩ : ∃ px, px = x.print := ⟨_, rfl⟩
        obtain ⟨py, hpy⟩ : ∃ py, py = y.print := ⟨_, rfl⟩
        have hln := HLn.out
        rw [← hpx, ← hpy] at hln ⊢
        have hpl : px.length ≤ 1013 := by rw [hpx]; exact HSh.out
        have hA1 : IntKind.i64.wrap ((px.length : Int) + 9) = (px.length : Int) + 9 := IntWalk.i64_in _ (by omega)
        have hA2 : IntKind.i64.wrap ((px.length : Int) + 9 + 13) = (py.length : Int) := by rw [IntWalk.i64_in _ (by omega)]; omega
        have hA3 : IntKind.i64.wrap (4 * (p1 : Int)) = 4 * (p1 : Int) := IntWalk.i64_in _ (by omega)
        clear hpx hpy hln hpl
        obtain ⟨r0, r1, r2, _⟩ := cells3 HX6.out
        obtain ⟨t0, t1, t2, _⟩ := cells3 HY6.out
        have HK := Lib.hid (fun (w' : World) (hb : Below w6.heap.size w6 w') => show (w'.cell? ⟨b, 0, none⟩ = some (.slice F1 p f1) ∧ w'.cell? ⟨b, 1, none⟩ = some (.int .i64 xm) ∧ w'.cell? ⟨b, 2, none⟩ = some (.slice F2 q f2) ∧ w'.cell? ⟨g, 0, none⟩ = some (.slice A p1 cA) ∧ w'.cell? ⟨g, 1, none⟩ = some (.int .i64 xm) ∧ w'.cell? ⟨g, 2, none⟩ = some (.slice D q1 d)) from
          ⟨(hb.cell (p := ⟨b, 0, none⟩) (cell_lt r0)).trans r0, (hb.cell (p := ⟨b, 1, none⟩) (cell_lt r1)).trans r1, (hb.cell (p := ⟨b, 2, none⟩) (cell_lt r2)).trans r2, (hb.cell (p := ⟨g, 0, none⟩) (cell_lt t0)).trans t0, (hb.cell (p := ⟨g, 1, none⟩) (cell_lt t1)).trans t1, (hb.cell (p := ⟨g, 2, none⟩) (cell_lt t2)).trans t2⟩)
        have HFv := Lib.hid (fun w' hi => HFl.out ▸ HFy.out [126, 126, 126] w' hi)
        go_wp2_with fail
        go_region_held3 (fun w' => w'.cell? ⟨b, 0, none⟩ = some (.slice F1 p f1) ∧ w'.cell? ⟨b, 1, none⟩ = some (.int .i64 xm) ∧ w'.cell? ⟨b, 2, none⟩ = some (.slice F2 q f2) ∧ w'.cell? ⟨g, 0, none⟩ = some (.slice A p1 cA) ∧ w'.cell? ⟨g, 1, none⟩ = some (.int .i64 xm) ∧ w'.cell? ⟨g, 2, none⟩ = some (.slice D q1 d)) (first | exact HK.out _ hb9' | exact HK.out _ hb8' | exact HK.out _ hb7' | exact HK.out _ (bD (bR w6)) | exact HK.out _ (bR w6))
          (first
            | (go_at_call 14; refine (HRy.out _ (HJ6.out.below (bD (bR w6)))).mono ?_; rintro e w7 ⟨rfl, hb7⟩; have hb7' := bT (bD (bR w6)) hb7)
            | (go_at_call 18; refine (HFv.out _ (HJ6.out.below hb7')).mono ?_; rintro e w8 ⟨rfl, hb8⟩; have hb8' := bT hb7' hb8)
            | (go_at_call 20; refine (HSy.out _ (HI6.out.below hb8') (HJ6.out.below hb8')).mono ?_; rintro e w9 ⟨rfl, hb9⟩; have hb9' := bT hb8' hb9))
        go_wp2_with fail
        go_ret
        exact ⟨rfl, bT HB3.out (bT HB6.out hb9')⟩
end Go.Proofs.YtgajlhejefjhhaaGreatDoor
