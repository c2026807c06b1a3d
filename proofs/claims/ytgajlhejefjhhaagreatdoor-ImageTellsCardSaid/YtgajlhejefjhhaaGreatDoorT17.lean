/- A contract: a text but its last line is read. No condition of ours. -/
import Derived.Test.YtgajlhejefjhhaaGreatDoorT16
import Derived.Deep.RegionHeld3
namespace Go.Proofs.YtgajlhejefjhhaaGreatDoor
open Go.RowKit

theorem at0 {o : Oper} {l : List Oper} : (List.toArray (o :: l))[0]? = some o := rfl
theorem atS {o x : Oper} {l : List Oper} {i : Nat} (h : (List.toArray l)[i]? = some o) : (List.toArray (x :: l))[i + 1]? = some o := by simpa using h

set_option maxHeartbeats 2000000 in
set_option maxRecDepth 100000 in
theorem parse_any (s : List UInt8) (w : World) (hG : Glob w) (hs : s.length ≤ 1000000) :
    Calls Tryz.prog 42 #[.string (str s)] w fun e w' => ParseIs w.heap.size s e w' ∧ Below w.heap.size w w' := by
  have HG := Lib.hid hG
  clear hG
  obtain ⟨mx, hmx⟩ := HG.out.mx
  have hw6 : 6 ≤ w.heap.size := cell_lt HG.out.deb
  obtain ⟨fs, rs, ok0, hcut⟩ : ∃ fs rs ok0, Lib.cut s [10] = (fs, rs, ok0) := ⟨_, _, _, rfl⟩
  have hcl := cut_len s [10]
  rw [hcut] at hcl
  obtain ⟨hcl1, hcl2⟩ := hcl
  dsimp only at hcl1 hcl2
  have HCt := Lib.hid (Tryz.strings_Cut (str s) (str [10]) mx (w.alloc (.cells #[.slice none 0 0, .int .i64 0, .slice none 0 0] 25)) (by show s.length < _; omega) ((World.cell?_alloc_lt _ _ _ (cell_lt hmx)).trans hmx))
  have HK := Lib.hid hcut
  obtain ⟨tp, htp⟩ : ∃ tp, tp = Lib.trimPrefix fs [105, 109, 97, 103, 101, 32] := ⟨_, rfl⟩
  obtain ⟨hp, hhp⟩ : ∃ hp, hp = Lib.hasPrefix fs [105, 109, 97, 103, 101, 32] := ⟨_, rfl⟩
  have htl : tp.length ≤ 1000000 := by have := (trim_len fs [105, 109, 97, 103, 101, 32]).2; rw [htp]; omega
  have HTp := Lib.hid htp
  have HHp := Lib.hid hhp
  have HX := Lib.hid (bA (o := .cells #[.slice none 0 0, .int .i64 0, .slice none 0 0] 25) (bR w))
  have HX0 := Lib.hid (heap_alloc_new w (.cells #[.slice none 0 0, .int .i64 0, .slice none 0 0] 25))
  clear htp hhp hcut hmx
  go_enter Tryz.func42, Tryz.ntmps42
  go_wp2_with fail
  refine HCt.out.mono ?_
  rintro e w1 ⟨rfl, n, rfl⟩
  have hk : Lib.cut (str s).data.toList (str [10]).data.toList = (fs, rs, ok0) := HK.out
  rw [hk]
  clear hk
  go_wp2_with fail
  refine (Tryz.strings_CutPrefix (str fs) (str [105, 109, 97, 103, 101, 32]) _).mono ?_
  rintro e w1 ⟨rfl, rfl⟩
  have hk : Lib.trimPrefix (str fs).data.toList (str [105, 109, 97, 103, 101, 32]).data.toList = tp := HTp.out.symm
  have hk2 : Lib.hasPrefix (str fs).data.toList (str [105, 109, 97, 103, 101, 32]).data.toList = hp := HHp.out.symm
  rw [hk, hk2]
  clear hk hk2
  go_wp2_with fail
  refine (atoi_any tp _ htl (HG.out.below (bN HX.out))).mono ?_
  rintro e w2 ⟨he, hb2⟩
  have HB2 := Lib.hid (bT (bN (n := n) HX.out) hb2)
  have HR2 := Lib.hid ((hb2.block w.heap.size (by show w.heap.size < (w.alloc _).heap.size; simp)).trans HX0.out)
  clear hb2
  rcases he with ⟨mem, hmem, rfl⟩ | ⟨k, N, hno, rfl⟩
  · obtain ⟨r0, r1, r2, f0, f1, f2⟩ := cells3 HR2.out
    cases hp with
    | false =>
      have HNo := Lib.hid (show parseO s = none from parseO_no (by rw [HK.out]; exact HHp.out.symm))
      clear hmem
      go_wp2
      refine ⟨rfl, _, ret25 rfl rfl (set3 HR2.out), ⟨_, _, _, _, _, _, _, _, rfl, .inr ⟨rfl, HNo.out⟩⟩, ?_⟩
      exact bS (bS (bS HB2.out (Nat.le_refl _)) (Nat.le_refl _)) (Nat.le_refl _)
    | true =>
      have hmb := Lib.atoiAll_bounds hmem
      obtain ⟨hmb1, hmb2⟩ := hmb
      obtain ⟨rt, hrt⟩ : ∃ rt, rt = Lib.trimSuffix rs [10] := ⟨_, rfl⟩
      have hrtl : rt.length ≤ 1000000 := by have := (trim_len rs [10]).1; rw [hrt]; omega
      obtain ⟨ls, hls⟩ : ∃ ls, ls = Lib.split rt [10] := ⟨_, rfl⟩
      have hlsl : ls.length ≤ 1000001 := by have := split_count rt 10; rw [hls]; omega
      have HLl := Lib.hid (fun l (hl : l ∈ ls) => Nat.le_trans (split_len (hls ▸ hl)) hrtl)
      have HPa := Lib.hid (show parseO s = finO s (runO ⟨[], mem, []⟩ false ls) by
        rw [parseO_run (n := mem) (by rw [HK.out]; exact HHp.out.symm) (by rw [HK.out]; dsimp only; rw [← HTp.out]; exact hmem), HK.out, hls, hrt])
      have HRt := Lib.hid hrt
      have HLs := Lib.hid hls
      clear hmem hrt hls
      have hb6 : 6 ≤ w2.heap.size := by have := HB2.out.size; omega
      have hwb : w.heap.size < w2.heap.size := (Array.getElem?_eq_some_iff.1 HR2.out).1
      have HB3 := Lib.hid (bA (o := .cells #[.slice none 0 0, .int .i64 mem, .slice none 0 0, .bool false] 100) (bR w2))
      have HG3 := Lib.hid ((HG.out.below HB2.out).below HB3.out)
      have HSp := Lib.hid (split_any rt 10 _ (by omega) HG3.out)
      rw [← HLs.out] at HSp
      go_wp2_with fail
      refine (Tryz.strings_TrimSuffix (str rs) (str [10]) _ (by show rs.length ≤ _; omega)).mono ?_
      rintro e w3 ⟨rfl, rfl⟩
      have hk : Lib.trimSuffix (str rs).data.toList (str [10]).data.toList = rt := HRt.out.symm
      rw [hk]
      clear hk
      go_wp2_with fail
      refine HSp.out.mono ?_
      rintro e w3 ⟨rfl, rfl⟩
      have HL3 := Lib.hid (heap_alloc_new (w2.alloc (.cells #[.slice none 0 0, .int .i64 mem, .slice none 0 0, .bool false] 100)) (.cells (ls.map fun l => .string (str l)).toArray 9))
      have HP3 := Lib.hid (show Psr w2.heap.size ⟨[], mem, []⟩ false ((w2.alloc (.cells #[.slice none 0 0, .int .i64 mem, .slice none 0 0, .bool false] 100)).alloc (.cells (ls.map fun l => .string (str l)).toArray 9)) from
        ⟨_, _, (Below.heap_alloc _ _ _ (by simp)).trans (heap_alloc_new w2 _), World.ownsRow_nil _ _ _ _, World.ownsRow_nil _ _ _ _⟩)
      have HB4 := Lib.hid (show Below w2.heap.size w2 ((w2.alloc (.cells #[.slice none 0 0, .int .i64 mem, .slice none 0 0, .bool false] 100)).alloc (.cells (ls.map fun l => .string (str l)).toArray 9)) from bA HB3.out)
      simp only [World.size_alloc] at HL3 ⊢
      go_wp2
      go_loopw [45] (fun i wr => ∃ k : Nat, k ≤ ls.length ∧ i = .int .i64 k ∧ ∃ m c, runO ⟨[], mem, []⟩ false (ls.take k) = some (m, c) ∧ Psr w2.heap.size m c wr ∧ wr.heap[w2.heap.size + 1]? = some (.cells (ls.map fun l => .string (str l)).toArray 9) ∧ Below w2.heap.size w2 wr) (fun i _ => ls.length - (intOf i).toNat)
      case atStart => exact ⟨0, Nat.zero_le _, rfl, _, _, rfl, HP3.out, HL3.out, HB4.out⟩
      case round =>
        obtain ⟨k, hk, rfl, m, c, hrun, hP, hL, hB⟩ := hrel
        obtain ⟨hsn, hmm, hmw, hms⟩ := run_sane (fun l hl => HLl.out l (List.mem_of_mem_take hl)) (show Sane ⟨[], mem, []⟩ from ⟨fun z hz => by simp at hz, fun x hx => by simp at hx⟩) hrun
        rw [List.length_take] at hmw hms
        dsimp only [List.length_nil] at hmw hms hmm
        have HSn := Lib.hid hsn
        have HP := Lib.hid hP
        have HL := Lib.hid hL
        have HB := Lib.hid hB
        have HRun := Lib.hid hrun
        clear hsn hP hL hB hrun
        have HR5 := Lib.hid ((HB.out.block w.heap.size (by omega)).trans HR2.out)
        have hr2 := HB.out.size
        have HBw := Lib.hid (HB2.out.trans (HB.out.mono (by omega)))
        by_cases hlt : k < ls.length
        · obtain ⟨l, hl⟩ : ∃ l, ls[k]? = some l := ⟨_, List.getElem?_eq_getElem hlt⟩
          have hc : wr.cell? ⟨w2.heap.size + 1, k, none⟩ = some (.string (str l)) := by
            rw [cell_of_row wr _ k _ _ _ HL.out]
            simp [hl]
          have HTk := Lib.hid (show ls.take (k + 1) = ls.take k ++ [l] by rw [List.take_add_one, hl]; rfl)
          have HDr := Lib.hid (show ls = ls.take (k + 1) ++ ls.drop (k + 1) from (List.take_append_drop _ _).symm)
          have hll := HLl.out l (List.mem_of_getElem? hl)
          clear hl
          go_wp2_with fail
          refine (line_any w2.heap.size m c l _ HP.out (HG.out.belowB (by omega) HBw.out) hb6 hll (by omega) (by omega)).mono ?_
          rintro e w5 ⟨he, hb5, hk5⟩
          have HB5 := Lib.hid (HB.out.trans hb5)
          have HL5 := Lib.hid (hk5 _ _ HL.out)
          have HR6 := Lib.hid ((hb5.block w.heap.size (by omega)).trans HR5.out)
          have HBw5 := Lib.hid (HBw.out.trans (hb5.mono (by omega)))
          clear hb5 hk5
          rcases he with ⟨m', c', hst, rfl, hP5⟩ | ⟨hst, rfl⟩
          · have HP5 := Lib.hid hP5
            have HRun2 := Lib.hid (show runO ⟨[], mem, []⟩ false (ls.take (k + 1)) = some (m', c') by
              rw [HTk.out, runO_append, HRun.out]
              simp [runO, hst])
            clear hP5 hst
            go_wp2
            go_roundw
            case rel => exact ⟨k + 1, by omega, by go_num, m', c', HRun2.out, HP5.out, HL5.out, HB5.out⟩
            case measure => simp [intOf]; omega
          · have HNo := Lib.hid (show parseO s = none by
              rw [HPa.out, HDr.out, HTk.out, runO_append, runO_append, HRun.out]
              simp [runO, hst, finO])
            clear hst
            obtain ⟨q0, q1, q2, g0, g1, g2⟩ := cells3 HR6.out
            go_wp2
            refine ⟨rfl, _, ret25 rfl rfl (set3 HR6.out), ⟨_, _, _, _, _, _, _, _, rfl, .inr ⟨rfl, HNo.out⟩⟩, ?_⟩
            exact bS (bS (bS HBw5.out (Nat.le_refl _)) (Nat.le_refl _)) (Nat.le_refl _)
        · have hks : k = ls.length := by omega
          have hrun := HRun.out
          rw [hks, List.take_length] at hrun
          have HFin := Lib.hid (show parseO s = finO s (some (m, c)) by rw [HPa.out, hrun])
          clear hrun
          obtain ⟨v1, v2, h1, h2, h3⟩ := HP.out
          obtain ⟨A1, c1, rfl, hc1, hR1, hF1⟩ := Rd_of_own h2
          obtain ⟨A2, c2, rfl, hc2, hR2, hF2⟩ := Rd_of_own h3
          have HFr := Lib.hid (show Fresh w.heap.size A1 ∧ Fresh w.heap.size A2 from ⟨fun a h => by have := hF1 a h; omega, fun a h => by have := hF2 a h; omega⟩)
          clear hF1 hF2
          have HI := Lib.hid (show IsImg wr A1 m.words.length A2 m.syms.length m from ⟨hR1, hR2, by omega, by omega, HSn.out.wf, by rw [hmm]; exact ⟨hmb1, hmb2⟩, fun x hx => by have := HSn.out.sz x hx; omega⟩)
          have HO := Lib.hid (And.intro h2 h3)
          have HSS := Lib.hid (fun (w' : World) (hb : Below wr.heap.size wr w') => show (fun w' => w'.cell? ⟨w2.heap.size, 0, none⟩ = some (.slice A1 m.words.length c1) ∧ w'.cell? ⟨w2.heap.size, 1, none⟩ = some (.int .i64 m.mem) ∧ w'.cell? ⟨w2.heap.size, 2, none⟩ = some (.slice A2 m.syms.length c2) ∧ (w'.cell? ⟨w.heap.size, 0, none⟩ = some (.slice none 0 0) ∧ w'.cell? ⟨w.heap.size, 1, none⟩ = some (.int .i64 0) ∧ w'.cell? ⟨w.heap.size, 2, none⟩ = some (.slice none 0 0) ∧ w'.frozen? ⟨w.heap.size, 0, none⟩ = false ∧ w'.frozen? ⟨w.heap.size, 1, none⟩ = false ∧ w'.frozen? ⟨w.heap.size, 2, none⟩ = false)) w' from
            have e1 := (hb.block w2.heap.size (Array.getElem?_eq_some_iff.1 h1).1).trans h1
            have e2 := (hb.block w.heap.size (Array.getElem?_eq_some_iff.1 HR5.out).1).trans HR5.out
            ⟨by rw [cell_of_row w' _ 0 _ _ _ e1]; rfl, by rw [cell_of_row w' _ 1 _ _ _ e1]; rfl, by rw [cell_of_row w' _ 2 _ _ _ e1]; rfl, cells3 e2⟩)
          have HRg := Lib.hid (right_any A1 m.words.length c1 A2 m.syms.length c2 m wr.drew (HI.out.below (bD (bR wr))))
          have HGw := Lib.hid (HG.out.belowB (by omega) HBw.out)
          clear h1 h2 h3 hR1 hR2
          obtain ⟨s0, s1, s2, q0, q1, q2, g0, g1, g2⟩ := HSS.out wr (bR wr)
          cases hrt : m.right with
          | false =>
            have HNo := Lib.hid (HFin.out.trans (finO_no1 c hrt))
            rw [hrt] at HRg
            go_wp2_with fail
            clear HCt HK HTp HX HX0 HR2 HPa HRt HLs HSp HL3 HP3 HB4 HL HRun HSn HP HLl HG3 HB3 HG hcl1 hcl2 htl hs hmm hmw hms hmb1 hmb2 hrtl hlsl hk hlt hks r0 r1 r2 f0 f1 f2 hb6 hw6
            have hne1 : ¬ w.heap.size = w2.heap.size := by omega
            have hne2 : ¬ w2.heap.size = w.heap.size := by omega
            refine wp_region_held_drew (S := (fun w' => w'.cell? ⟨w2.heap.size, 0, none⟩ = some (.slice A1 m.words.length c1) ∧ w'.cell? ⟨w2.heap.size, 1, none⟩ = some (.int .i64 m.mem) ∧ w'.cell? ⟨w2.heap.size, 2, none⟩ = some (.slice A2 m.syms.length c2))) (by kernel_rfl) ⟨s0, s1, s2⟩ (fun hHeld => ?_)
            refine wpAnyH_take (i := 0) (v := ?_) (at0) (by kernel_rfl) (by kernel_rfl) (by kernel_rfl) (fun _ _ _ h => h) (Or.inl ⟨rfl, ?_⟩) (by assumption) ?_
            rotate_left
            · (intro w hSw; (try dsimp only at hSw); go_simp; first | done | (with_reducible rfl))
            simp only [Act.put, List.setIfInBounds_toArray, List.set_cons_zero, List.set_cons_succ]
            refine wpAnyH_take (i := 1) (v := ?_) (atS (at0)) (by kernel_rfl) (by kernel_rfl) (by kernel_rfl) (fun _ _ _ h => h) (Or.inl ⟨rfl, ?_⟩) (by assumption) ?_
            rotate_left
            · (intro w hSw; (try dsimp only at hSw); go_simp; first | done | (with_reducible rfl))
            simp only [Act.put, List.setIfInBounds_toArray, List.set_cons_zero, List.set_cons_succ]
            refine wpAnyH_take (i := 2) (v := ?_) (atS (atS (at0))) (by kernel_rfl) (by kernel_rfl) (by kernel_rfl) (fun _ _ _ h => h) (Or.inl ⟨rfl, ?_⟩) (by assumption) ?_
            rotate_left
            · (intro w hSw; (try dsimp only at hSw); go_simp; first | done | (with_reducible rfl))
            simp only [Act.put, List.setIfInBounds_toArray, List.set_cons_zero, List.set_cons_succ]
            refine wpAnyH_take (i := 3) (v := ?_) (atS (atS (atS (at0)))) (by kernel_rfl) (by kernel_rfl) (by kernel_rfl) (fun _ _ _ h => h) (Or.inl ⟨rfl, ?_⟩) (by assumption) ?_
            rotate_left
            · (intro w hSw; (try dsimp only at hSw); go_simp; first | done | (with_reducible rfl))
            simp only [Act.put, List.setIfInBounds_toArray, List.set_cons_zero, List.set_cons_succ]
            refine wpAnyH_take (i := 4) (v := ?_) (atS (atS (atS (atS (at0))))) (by kernel_rfl) (by kernel_rfl) (by kernel_rfl) (fun _ _ _ h => h) (Or.inl ⟨rfl, ?_⟩) (by assumption) ?_
            rotate_left
            · (intro w hSw; (try dsimp only at hSw); go_simp; first | done | (with_reducible rfl))
            simp only [Act.put, List.setIfInBounds_toArray, List.set_cons_zero, List.set_cons_succ]
            refine wpAnyH_take (i := 5) (v := ?_) (atS (atS (atS (atS (atS (at0)))))) (by kernel_rfl) (by kernel_rfl) (by kernel_rfl) (fun _ _ _ h => h) (Or.inl ⟨rfl, ?_⟩) (by assumption) ?_
            rotate_left
            · (intro w hSw; (try dsimp only at hSw); go_simp; first | done | (with_reducible rfl))
            simp only [Act.put, List.setIfInBounds_toArray, List.set_cons_zero, List.set_cons_succ]
            refine wpAnyH_take (i := 6) (v := ?_) (atS (atS (atS (atS (atS (atS (at0))))))) (by kernel_rfl) (by kernel_rfl) (by kernel_rfl) (fun _ _ _ h => h) (Or.inl ⟨rfl, ?_⟩) (by assumption) ?_
            rotate_left
            · (intro w hSw; (try dsimp only at hSw); go_simp; first | done | (with_reducible rfl))
            simp only [Act.put, List.setIfInBounds_toArray, List.set_cons_zero, List.set_cons_succ]
            refine wpAnyH_take (i := 7) (v := ?_) (atS (atS (atS (atS (atS (atS (atS (at0)))))))) (by kernel_rfl) (by kernel_rfl) (by kernel_rfl) (fun _ _ _ h => h) (Or.inl ⟨rfl, ?_⟩) (by assumption) ?_
            rotate_left
            · (intro w hSw; (try dsimp only at hSw); go_simp; first | done | (with_reducible rfl))
            simp only [Act.put, List.setIfInBounds_toArray, List.set_cons_zero, List.set_cons_succ]
            refine wpAnyH_ready (rs := [8]) (by kernel_rfl) (by simp) ?_
            refine AllReadyH.cons (atS (atS (atS (atS (atS (atS (atS (atS (at0))))))))) (fun K hK => ?_) AllReadyH.nil
            go_simp
            go_wp2_with (go_at_call 14; refine HRg.out.mono ?_; rintro e w7 ⟨rfl, hb7⟩; obtain ⟨k0, k1, k2, k3, k4, k5, k6, k7, k8⟩ := HSS.out w7 (bT (bD (bR wr)) hb7); have HB7 := Lib.hid (bT (bD (bR wr)) hb7); clear hb7)
            refine hK.out _ _ ⟨k0, k1, k2⟩ (fun hHeld => ?_)
            clear hK K
            refine wpAnyH_take (i := 9) (v := ?_) (atS (atS (atS (atS (atS (atS (atS (atS (atS (at0)))))))))) (by kernel_rfl) (by kernel_rfl) (by kernel_rfl) (fun _ _ _ h => h) (Or.inl ⟨rfl, ?_⟩) (by assumption) ?_
            rotate_left
            · (intro w hSw; (try dsimp only at hSw); go_simp; first | done | (with_reducible rfl))
            simp only [Act.put, List.setIfInBounds_toArray, List.set_cons_zero, List.set_cons_succ]
            refine wpAnyH_take (i := 10) (v := undef) (atS (atS (atS (atS (atS (atS (atS (atS (atS (atS (at0))))))))))) (by kernel_rfl) (by kernel_rfl) (by kernel_rfl) (fun _ _ _ h => h) (Or.inr ⟨rfl, rfl⟩) (by assumption) ?_
            simp only [Act.put, List.setIfInBounds_toArray, List.set_cons_zero, List.set_cons_succ]
            refine wpAnyH_take (i := 11) (v := undef) (atS (atS (atS (atS (atS (atS (atS (atS (atS (atS (atS (at0)))))))))))) (by kernel_rfl) (by kernel_rfl) (by kernel_rfl) (fun _ _ _ h => h) (Or.inr ⟨rfl, rfl⟩) (by assumption) ?_
            simp only [Act.put, List.setIfInBounds_toArray, List.set_cons_zero, List.set_cons_succ]
            refine wpAnyH_take (i := 12) (v := undef) (atS (atS (atS (atS (atS (atS (atS (atS (atS (atS (atS (atS (at0))))))))))))) (by kernel_rfl) (by kernel_rfl) (by kernel_rfl) (fun _ _ _ h => h) (Or.inr ⟨rfl, rfl⟩) (by assumption) ?_
            simp only [Act.put, List.setIfInBounds_toArray, List.set_cons_zero, List.set_cons_succ]
            refine wpAnyH_take (i := 13) (v := undef) (atS (atS (atS (atS (atS (atS (atS (atS (atS (atS (atS (atS (atS (at0)))))))))))))) (by kernel_rfl) (by kernel_rfl) (by kernel_rfl) (fun _ _ _ h => h) (Or.inr ⟨rfl, rfl⟩) (by assumption) ?_
            simp only [Act.put, List.setIfInBounds_toArray, List.set_cons_zero, List.set_cons_succ]
            refine wpAnyH_take (i := 14) (v := undef) (atS (atS (atS (atS (atS (atS (atS (atS (atS (atS (atS (atS (atS (atS (at0))))))))))))))) (by kernel_rfl) (by kernel_rfl) (by kernel_rfl) (fun _ _ _ h => h) (Or.inr ⟨rfl, rfl⟩) (by assumption) ?_
            simp only [Act.put, List.setIfInBounds_toArray, List.set_cons_zero, List.set_cons_succ]
            refine wpAnyH_take (i := 15) (v := undef) (atS (atS (atS (atS (atS (atS (atS (atS (atS (atS (atS (atS (atS (atS (atS (at0)))))))))))))))) (by kernel_rfl) (by kernel_rfl) (by kernel_rfl) (fun _ _ _ h => h) (Or.inr ⟨rfl, rfl⟩) (by assumption) ?_
            simp only [Act.put, List.setIfInBounds_toArray, List.set_cons_zero, List.set_cons_succ]
            refine wpAnyH_take (i := 16) (v := undef) (atS (atS (atS (atS (atS (atS (atS (atS (atS (atS (atS (atS (atS (atS (atS (atS (at0))))))))))))))))) (by kernel_rfl) (by kernel_rfl) (by kernel_rfl) (fun _ _ _ h => h) (Or.inr ⟨rfl, rfl⟩) (by assumption) ?_
            simp only [Act.put, List.setIfInBounds_toArray, List.set_cons_zero, List.set_cons_succ]
            refine wpAnyH_take (i := 17) (v := ?_) (atS (atS (atS (atS (atS (atS (atS (atS (atS (atS (atS (atS (atS (atS (atS (atS (atS (at0)))))))))))))))))) (by kernel_rfl) (by kernel_rfl) (by kernel_rfl) (fun _ _ _ h => h) (Or.inl ⟨rfl, ?_⟩) (by assumption) ?_
            rotate_left
            · (intro w hSw; (try dsimp only at hSw); go_simp; first | done | (with_reducible rfl))
            simp only [Act.put, List.setIfInBounds_toArray, List.set_cons_zero, List.set_cons_succ]
            refine wpAnyH_ready (rs := [18]) (by kernel_rfl) (by simp) ?_
            refine AllReadyH.cons (atS (atS (atS (atS (atS (atS (atS (atS (atS (atS (atS (atS (atS (atS (atS (atS (atS (atS (at0))))))))))))))))))) (fun K hK => ?_) AllReadyH.nil
            go_simp
            refine hK.out _ _ ⟨by simp [World.cell?_setCell_far, hne1, k0], by simp [World.cell?_setCell_far, hne1, k1], by simp [World.cell?_setCell_far, hne1, k2]⟩ (fun hHeld => ?_)
            clear hK K
            refine wpAnyH_take (i := 19) (v := ?_) (atS (atS (atS (atS (atS (atS (atS (atS (atS (atS (atS (atS (atS (atS (atS (atS (atS (atS (atS (at0)))))))))))))))))))) (by kernel_rfl) (by kernel_rfl) (by kernel_rfl) (fun _ _ _ h => h) (Or.inl ⟨rfl, ?_⟩) (by assumption) ?_
            rotate_left
            · (intro w hSw; (try dsimp only at hSw); go_simp; first | done | (with_reducible rfl))
            simp only [Act.put, List.setIfInBounds_toArray, List.set_cons_zero, List.set_cons_succ]
            refine wpAnyH_done (by kernel_rfl) ?_ _
            go_wp2
            have HR7 := Lib.hid ((HB7.out.block w.heap.size (by omega)).trans HR5.out)
            refine ⟨rfl, _, ret25 rfl rfl (set3 HR7.out), ⟨_, _, _, _, _, _, _, _, rfl, .inr ⟨rfl, HNo.out⟩⟩, ?_⟩
            exact bS (bS (bS (HBw.out.trans (HB7.out.mono (by omega))) (Nat.le_refl _)) (Nat.le_refl _)) (Nat.le_refl _)
          | true =>
            have HIh := Lib.hid (fun w7 hb => head_any A1 m.words.length c1 A2 m.syms.length c2 m w7 (HI.out.below hb) (Img.good hrt) ((HG.out.belowB (by omega) HBw.out).below hb) hc1)
            have hrtH := Lib.hid hrt
            rw [hrt] at HRg
            go_wp2_with fail
            clear hrt
            clear HCt HK HTp HX HX0 HR2 HPa HRt HLs HSp HL3 HP3 HB4 HL HRun HSn HP HLl HG3 HB3 HG hcl1 hcl2 htl hs hmm hmw hms hmb1 hmb2 hrtl hlsl hk hlt hks r0 r1 r2 f0 f1 f2 hb6 hw6
            have hne1 : ¬ w.heap.size = w2.heap.size := by omega
            refine wp_region_held_drew (S := (fun w' => w'.cell? ⟨w2.heap.size, 0, none⟩ = some (.slice A1 m.words.length c1) ∧ w'.cell? ⟨w2.heap.size, 1, none⟩ = some (.int .i64 m.mem) ∧ w'.cell? ⟨w2.heap.size, 2, none⟩ = some (.slice A2 m.syms.length c2))) (by kernel_rfl) ⟨s0, s1, s2⟩ (fun hHeld => ?_)
            refine wpAnyH_take (i := 0) (v := ?_) (at0) (by kernel_rfl) (by kernel_rfl) (by kernel_rfl) (fun _ _ _ h => h) (Or.inl ⟨rfl, ?_⟩) (by assumption) ?_
            rotate_left
            · (intro w hSw; (try dsimp only at hSw); go_simp; first | done | (with_reducible rfl))
            simp only [Act.put, List.setIfInBounds_toArray, List.set_cons_zero, List.set_cons_succ]
            refine wpAnyH_take (i := 1) (v := ?_) (atS (at0)) (by kernel_rfl) (by kernel_rfl) (by kernel_rfl) (fun _ _ _ h => h) (Or.inl ⟨rfl, ?_⟩) (by assumption) ?_
            rotate_left
            · (intro w hSw; (try dsimp only at hSw); go_simp; first | done | (with_reducible rfl))
            simp only [Act.put, List.setIfInBounds_toArray, List.set_cons_zero, List.set_cons_succ]
            refine wpAnyH_take (i := 2) (v := ?_) (atS (atS (at0))) (by kernel_rfl) (by kernel_rfl) (by kernel_rfl) (fun _ _ _ h => h) (Or.inl ⟨rfl, ?_⟩) (by assumption) ?_
            rotate_left
            · (intro w hSw; (try dsimp only at hSw); go_simp; first | done | (with_reducible rfl))
            simp only [Act.put, List.setIfInBounds_toArray, List.set_cons_zero, List.set_cons_succ]
            refine wpAnyH_take (i := 3) (v := ?_) (atS (atS (atS (at0)))) (by kernel_rfl) (by kernel_rfl) (by kernel_rfl) (fun _ _ _ h => h) (Or.inl ⟨rfl, ?_⟩) (by assumption) ?_
            rotate_left
            · (intro w hSw; (try dsimp only at hSw); go_simp; first | done | (with_reducible rfl))
            simp only [Act.put, List.setIfInBounds_toArray, List.set_cons_zero, List.set_cons_succ]
            refine wpAnyH_take (i := 4) (v := ?_) (atS (atS (atS (atS (at0))))) (by kernel_rfl) (by kernel_rfl) (by kernel_rfl) (fun _ _ _ h => h) (Or.inl ⟨rfl, ?_⟩) (by assumption) ?_
            rotate_left
            · (intro w hSw; (try dsimp only at hSw); go_simp; first | done | (with_reducible rfl))
            simp only [Act.put, List.setIfInBounds_toArray, List.set_cons_zero, List.set_cons_succ]
            refine wpAnyH_take (i := 5) (v := ?_) (atS (atS (atS (atS (atS (at0)))))) (by kernel_rfl) (by kernel_rfl) (by kernel_rfl) (fun _ _ _ h => h) (Or.inl ⟨rfl, ?_⟩) (by assumption) ?_
            rotate_left
            · (intro w hSw; (try dsimp only at hSw); go_simp; first | done | (with_reducible rfl))
            simp only [Act.put, List.setIfInBounds_toArray, List.set_cons_zero, List.set_cons_succ]
            refine wpAnyH_take (i := 6) (v := ?_) (atS (atS (atS (atS (atS (atS (at0))))))) (by kernel_rfl) (by kernel_rfl) (by kernel_rfl) (fun _ _ _ h => h) (Or.inl ⟨rfl, ?_⟩) (by assumption) ?_
            rotate_left
            · (intro w hSw; (try dsimp only at hSw); go_simp; first | done | (with_reducible rfl))
            simp only [Act.put, List.setIfInBounds_toArray, List.set_cons_zero, List.set_cons_succ]
            refine wpAnyH_take (i := 7) (v := ?_) (atS (atS (atS (atS (atS (atS (atS (at0)))))))) (by kernel_rfl) (by kernel_rfl) (by kernel_rfl) (fun _ _ _ h => h) (Or.inl ⟨rfl, ?_⟩) (by assumption) ?_
            rotate_left
            · (intro w hSw; (try dsimp only at hSw); go_simp; first | done | (with_reducible rfl))
            simp only [Act.put, List.setIfInBounds_toArray, List.set_cons_zero, List.set_cons_succ]
            refine wpAnyH_ready (rs := [8]) (by kernel_rfl) (by simp) ?_
            refine AllReadyH.cons (atS (atS (atS (atS (atS (atS (atS (atS (at0))))))))) (fun K hK => ?_) AllReadyH.nil
            go_simp
            go_wp2_with (go_at_call 14; refine HRg.out.mono ?_; rintro e w7 ⟨rfl, hb7⟩; obtain ⟨k0, k1, k2, k3, k4, k5, k6, k7, k8⟩ := HSS.out w7 (bT (bD (bR wr)) hb7); have HB7 := Lib.hid (bT (bD (bR wr)) hb7); clear hb7)
            refine hK.out _ _ ⟨k0, k1, k2⟩ (fun hHeld => ?_)
            clear hK K
            refine wpAnyH_take (i := 9) (v := ?_) (atS (atS (atS (atS (atS (atS (atS (atS (atS (at0)))))))))) (by kernel_rfl) (by kernel_rfl) (by kernel_rfl) (fun _ _ _ h => h) (Or.inl ⟨rfl, ?_⟩) (by assumption) ?_
            rotate_left
            · (intro w hSw; (try dsimp only at hSw); go_simp; first | done | (with_reducible rfl))
            simp only [Act.put, List.setIfInBounds_toArray, List.set_cons_zero, List.set_cons_succ]
            refine wpAnyH_take (i := 10) (v := ?_) (atS (atS (atS (atS (atS (atS (atS (atS (atS (atS (at0))))))))))) (by kernel_rfl) (by kernel_rfl) (by kernel_rfl) (fun _ _ _ h => h) (Or.inl ⟨rfl, ?_⟩) (by assumption) ?_
            rotate_left
            · (intro w hSw; (try dsimp only at hSw); go_simp; first | done | (with_reducible rfl))
            simp only [Act.put, List.setIfInBounds_toArray, List.set_cons_zero, List.set_cons_succ]
            refine wpAnyH_take (i := 11) (v := ?_) (atS (atS (atS (atS (atS (atS (atS (atS (atS (atS (atS (at0)))))))))))) (by kernel_rfl) (by kernel_rfl) (by kernel_rfl) (fun _ _ _ h => h) (Or.inl ⟨rfl, ?_⟩) (by assumption) ?_
            rotate_left
            · (intro w hSw; (try dsimp only at hSw); go_simp; first | done | (with_reducible rfl))
            simp only [Act.put, List.setIfInBounds_toArray, List.set_cons_zero, List.set_cons_succ]
            refine wpAnyH_take (i := 12) (v := ?_) (atS (atS (atS (atS (atS (atS (atS (atS (atS (atS (atS (atS (at0))))))))))))) (by kernel_rfl) (by kernel_rfl) (by kernel_rfl) (fun _ _ _ h => h) (Or.inl ⟨rfl, ?_⟩) (by assumption) ?_
            rotate_left
            · (intro w hSw; (try dsimp only at hSw); go_simp; first | done | (with_reducible rfl))
            simp only [Act.put, List.setIfInBounds_toArray, List.set_cons_zero, List.set_cons_succ]
            refine wpAnyH_take (i := 13) (v := ?_) (atS (atS (atS (atS (atS (atS (atS (atS (atS (atS (atS (atS (atS (at0)))))))))))))) (by kernel_rfl) (by kernel_rfl) (by kernel_rfl) (fun _ _ _ h => h) (Or.inl ⟨rfl, ?_⟩) (by assumption) ?_
            rotate_left
            · (intro w hSw; (try dsimp only at hSw); go_simp; first | done | (with_reducible rfl))
            simp only [Act.put, List.setIfInBounds_toArray, List.set_cons_zero, List.set_cons_succ]
            refine wpAnyH_take (i := 15) (v := ?_) (atS (atS (atS (atS (atS (atS (atS (atS (atS (atS (atS (atS (atS (atS (atS (at0)))))))))))))))) (by kernel_rfl) (by kernel_rfl) (by kernel_rfl) (fun _ _ _ h => h) (Or.inl ⟨rfl, ?_⟩) (by assumption) ?_
            rotate_left
            · (intro w hSw; (try dsimp only at hSw); go_simp; first | done | (with_reducible rfl))
            simp only [Act.put, List.setIfInBounds_toArray, List.set_cons_zero, List.set_cons_succ]
            refine wpAnyH_ready (rs := [14]) (by kernel_rfl) (by simp) ?_
            refine AllReadyH.cons (atS (atS (atS (atS (atS (atS (atS (atS (atS (atS (atS (atS (atS (atS (at0))))))))))))))) (fun K hK => ?_) AllReadyH.nil
            go_simp
            go_wp2_with (go_at_call 25; refine (HIh.out _ HB7.out).mono ?_; rintro e w8 ⟨rfl, hb8⟩; obtain ⟨l0, l1, l2, l3, l4, l5, l6, l7, l8⟩ := HSS.out w8 (bT HB7.out hb8); have HB8 := Lib.hid (bT HB7.out hb8); clear hb8)
            refine hK.out _ _ ⟨l0, l1, l2⟩ (fun hHeld => ?_)
            clear hK K
            refine wpAnyH_take (i := 16) (v := ?_) (atS (atS (atS (atS (atS (atS (atS (atS (atS (atS (atS (atS (atS (atS (atS (atS (at0))))))))))))))))) (by kernel_rfl) (by kernel_rfl) (by kernel_rfl) (fun _ _ _ h => h) (Or.inl ⟨rfl, ?_⟩) (by assumption) ?_
            rotate_left
            · (intro w hSw; (try dsimp only at hSw); go_simp; first | done | (with_reducible rfl))
            simp only [Act.put, List.setIfInBounds_toArray, List.set_cons_zero, List.set_cons_succ]
            refine wpAnyH_take (i := 17) (v := ?_) (atS (atS (atS (atS (atS (atS (atS (atS (atS (atS (atS (atS (atS (atS (atS (atS (atS (at0)))))))))))))))))) (by kernel_rfl) (by kernel_rfl) (by kernel_rfl) (fun _ _ _ h => h) (Or.inl ⟨rfl, ?_⟩) (by assumption) ?_
            rotate_left
            · (intro w hSw; (try dsimp only at hSw); go_simp; first | done | (with_reducible rfl))
            simp only [Act.put, List.setIfInBounds_toArray, List.set_cons_zero, List.set_cons_succ]
            refine wpAnyH_ready (rs := [18]) (by kernel_rfl) (by simp) ?_
            refine AllReadyH.cons (atS (atS (atS (atS (atS (atS (atS (atS (atS (atS (atS (atS (atS (atS (atS (atS (atS (atS (at0))))))))))))))))))) (fun K hK => ?_) AllReadyH.nil
            go_simp
            refine hK.out _ _ ⟨by simp [World.cell?_setCell_far, hne1, l0], by simp [World.cell?_setCell_far, hne1, l1], by simp [World.cell?_setCell_far, hne1, l2]⟩ (fun hHeld => ?_)
            clear hK K
            refine wpAnyH_take (i := 19) (v := ?_) (atS (atS (atS (atS (atS (atS (atS (atS (atS (atS (atS (atS (atS (atS (atS (atS (atS (atS (atS (at0)))))))))))))))))))) (by kernel_rfl) (by kernel_rfl) (by kernel_rfl) (fun _ _ _ h => h) (Or.inl ⟨rfl, ?_⟩) (by assumption) ?_
            rotate_left
            · (intro w hSw; (try dsimp only at hSw); go_simp; first | done | (with_reducible rfl))
            simp only [Act.put, List.setIfInBounds_toArray, List.set_cons_zero, List.set_cons_succ]
            refine wpAnyH_done (by kernel_rfl) ?_ _
            go_wp2
            have HR8 := Lib.hid ((HB8.out.block w.heap.size (by omega)).trans HR5.out)
            have hfb : Below w.heap.size w (((w8.setCell ⟨w.heap.size, 0, none⟩ (.slice A1 m.words.length c1)).setCell ⟨w.heap.size, 1, none⟩ (.int .i64 m.mem)).setCell ⟨w.heap.size, 2, none⟩ (.slice A2 m.syms.length c2)) :=
              bS (bS (bS (HBw.out.trans (HB8.out.mono (by omega))) (Nat.le_refl _)) (Nat.le_refl _)) (Nat.le_refl _)
            refine ⟨rfl, _, ret25 rfl rfl (set3 HR8.out), ⟨_, _, _, _, _, _, _, _, rfl, ?_⟩, hfb⟩
            by_cases hh : m.head = s
            · refine .inl ⟨?_, m, HFin.out.trans (finO_yes c hrtH.out hh), rfl, ?_, hc1, HFr.out⟩
              · show (m.head == s) = true
                simpa using hh
              · have o1 := ownsRow_setCell_below (ownsRow_setCell_below (ownsRow_setCell_below (own_below HO.out.1 HB8.out) (a := ⟨w.heap.size, 0, none⟩) (by simp; omega) (.slice A1 m.words.length c1)) (a := ⟨w.heap.size, 1, none⟩) (by simp; omega) (.int .i64 m.mem)) (a := ⟨w.heap.size, 2, none⟩) (by simp; omega) (.slice A2 m.syms.length c2)
                have o2 := ownsRow_setCell_below (ownsRow_setCell_below (ownsRow_setCell_below (own_below HO.out.2 HB8.out) (a := ⟨w.heap.size, 0, none⟩) (by simp; omega) (.slice A1 m.words.length c1)) (a := ⟨w.heap.size, 1, none⟩) (by simp; omega) (.int .i64 m.mem)) (a := ⟨w.heap.size, 2, none⟩) (by simp; omega) (.slice A2 m.syms.length c2)
                obtain ⟨A, c', e1, _, hR1, _⟩ := Rd_of_own o1
                obtain ⟨A', c'', e2, _, hR2, _⟩ := Rd_of_own o2
                cases e1
                cases e2
                exact ⟨hR1, hR2, HI.out.b1, HI.out.b2, HI.out.wf, HI.out.mw, HI.out.sz⟩
            · refine .inr ⟨?_, HFin.out.trans (finO_no2 c hh)⟩
              show (m.head == s) = false
              simpa using hh
  · have HNo := Lib.hid (show parseO s = none from parseO_num (by rw [HK.out]; dsimp only; rw [← HTp.out]; exact hno))
    clear hno
    obtain ⟨r0, r1, r2, f0, f1, f2⟩ := cells3 HR2.out
    cases hp
    all_goals
      go_wp2
      refine ⟨rfl, _, ret25 rfl rfl (set3 HR2.out), ⟨_, _, _, _, _, _, _, _, rfl, .inr ⟨rfl, HNo.out⟩⟩, ?_⟩
      exact bS (bS (bS HB2.out (Nat.le_refl _)) (Nat.le_refl _)) (Nat.le_refl _)
end Go.Proofs.YtgajlhejefjhhaaGreatDoor
