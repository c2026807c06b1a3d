/- The statement LitmusPlays, for every input: no condition of ours. -/
import Derived.Test.YtnigadeohmlpiaaGreatDoorC41
import Derived.Test.YtnigadeohmlpiaaGreatDoorC35
import Derived.Test.YtnigadeohmlpiaaGreatDoorC30
import Derived.Test.YtnigadeohmlpiaaGreatDoorC42
import Derived.OpenShut
import Derived.SizedLaws
namespace Go.Proofs.YtnigadeohmlpiaaGreatDoor
open Go.RowKit
attribute [local go_sem] Oper.semAt_some
theorem toldL_len : ∀ {l : List Ev} {T : List Int}, T.length = l.length → (toldL l T).length = (loadsOf l).length
 | [], T, _ => by cases T <;> rfl
 | e :: l, [], h => by simp at h
 | e :: l, t :: T, h => by
  have ih := toldL_len (l := l) (T := T) (by simpa using h)
  unfold toldL loadsOf at *
  rw [List.zip_cons_cons, List.filterMap_cons, List.filterMap_cons]
  by_cases h1 : e.k = 1 <;> simp [h1, ih]
theorem toldL_mem {l : List Ev} {T : List Int} {y : Int} (h : y ∈ toldL l T) : y ∈ T := by
 unfold toldL at h
 rw [List.mem_filterMap] at h
 obtain ⟨⟨e, t⟩, hx, h⟩ := h
 have ht := (List.of_mem_zip hx).2
 by_cases h1 : e.k = 1
 ·
  simp [h1] at h
  rwa [← h]
 ·
  simp [h1] at h
theorem playP_parts {pl : List Ev} (hl : Prog pl) {xs : List Pk} {z : List Int} (h : playP pl xs = some z) : z.length = (loadsOf pl).length ∧ ∀ y ∈ z, I32 y := by
 obtain ⟨s, h1, h2⟩ := Option.bind_eq_some_iff.1 h
 have hs := run_lens hl (St.first_ok _) h1
 obtain ⟨_, rfl⟩ := outcome_parts h2
 exact ⟨toldL_len hs.t, fun y hy => hs.i y (toldL_mem hy)⟩
theorem loads_more {pl : List Ev} {k : Nat} {e : Ev} (h : pl[k]? = some e) (h1 : e.k = 1) : (loadsOf (pl.take k)).length < (loadsOf pl).length := by
 have h2 := List.take_append_drop k pl
 have h3 : pl.drop k = e :: pl.drop (k + 1) := by
  obtain ⟨hk, rfl⟩ := List.getElem?_eq_some_iff.1 h
  exact List.drop_eq_getElem_cons hk
 have h4 : loadsOf pl = loadsOf (pl.take k) ++ (e.n :: loadsOf (pl.drop (k + 1))) := by
  conv => lhs; rw [← h2, h3]
  unfold loadsOf
  rw [List.filterMap_append, List.filterMap_cons]
  simp [h1]
 rw [h4, List.length_append, List.length_cons]
 omega
set_option maxHeartbeats 16000000 in
set_option maxRecDepth 100000 in
theorem plays6_any (A : Option Addr) (n c : Nat) (L : List R4) (B : Option Addr) (m d : Nat) (zs : List Int) (w : World) (h : IsRaw w A n L) (hn : n ≤ 9223372036854775807) (hz : IsTri w B m zs) (hG : Glob w) :
  Calls Tryz.prog 6 #[.slice A n c, .slice B m d] w fun o w' => o = .returned (.bool true) ∧ Below w.heap.size w w' := by
 have HR := Lib.hid h
 have HG := Lib.hid hG
 have HAw := Lib.hid (awake_any w hG)
 have HNn := Lib.hid hn
 have HZ := Lib.hid hz
 clear h hG hz hn
 go_enter Tryz.func6, Tryz.ntmps6
 go_wp2_with fail
 refine HAw.out.mono ?_
 rintro o w1 ⟨rfl, hb1⟩
 have HB1 := Lib.hid hb1
 have HF := Lib.hid (fit11_any A n c L w1 (HR.out.below hb1) HNn.out)
 clear hb1
 go_wp2_with fail
 refine HF.out.mono ?_
 rintro o w2 ⟨⟨A2, c2, rfl, hown2, hc2⟩, hb2⟩
 obtain ⟨q, hq⟩ : ∃ q, q = (fitL L).length := ⟨_, rfl⟩
 have hq5 : q ≤ 5 := hq ▸ fitL_len L
 obtain ⟨pl, hl⟩ : ∃ l, l = fitL L := ⟨_, rfl⟩
 have HP := Lib.hid (show Prog pl from hl ▸ fitL_prog L)
 have HQ := Lib.hid (show pl.length = q from by rw [hl, hq])
 rw [← hq, ← hl] at hown2
 rw [← hq] at hc2 ⊢
 have HO2 := Lib.hid hown2
 have HE := Lib.hid (show IsEvs w2 A2 q c2 pl from ⟨HQ.out, hc2, Row.of_own hown2⟩)
 have HW2 := Lib.hid (bT HB1.out hb2)
 have HPl := Lib.hid (play13_any A2 q c2 pl B m d zs w2 HP.out HE.out (HZ.out.below HW2.out))
 have HLe := Lib.hid (HB1.out.size)
 clear hq hl hown2 hb2
 go_wp2_with fail
 refine HPl.out.mono ?_
 rintro o w3 ⟨⟨A3, k3, c3, xs, z, rfl, hpk, hk3, _, hpz⟩, hb3⟩
 have HW3 := Lib.hid (bT HW2.out hb3)
 have HE3 := Lib.hid (HE.out.sees (Below.sees hb3))
 have HO3 := Lib.hid (own_tk (T := []) HO2.out (Tk.below hb3) (by decide))
 have HPy := Lib.hid (play_any A2 q c2 pl A3 k3 c3 xs w3 HE3.out HP.out hpk (by omega))
 rw [hpz] at HPy
 have HPz := Lib.hid hpz
 have HPp := Lib.hid (playP_parts HP.out hpz)
 clear hpk hpz hb3
 go_wp2_with fail
 refine HPy.out.mono ?_
 rintro o w4 ⟨⟨Ao, co, rfl, hown4, hco⟩, hb4⟩
 obtain ⟨zl, hzl⟩ : ∃ q, q = z.length := ⟨_, rfl⟩
 have HZL := Lib.hid hzl
 have HZR := Lib.hid (show Row w4 3 1 Ao zl (ints z) from by rw [hzl]; exact Row.of_own hown4)
 rw [← hzl]
 have hzl5 : zl ≤ 5 := by
  have h1 := HPp.out.1
  have h2 := loads_len pl pl.length
  rw [List.take_length] at h2
  have := HQ.out
  omega
 have HW4 := Lib.hid (bT HW3.out hb4)
 have HO4 := Lib.hid (own_tk (T := []) HO3.out (Tk.below hb4) (by decide))
 clear hown4 hco hb4 hzl
 go_wp2_with fail
 go_loopw [10, 11] (fun vn vi wr => ∃ (k cnt : Nat) (M : List Ev), k ≤ q ∧ vi = .int .i64 k ∧ vn = .int .i64 cnt ∧ cnt = (loadsOf (pl.take k)).length ∧ Told' pl M ∧ (∀ j, k ≤ j → M[j]? = pl[j]?) ∧ loadsOf (M.take k) = z.take cnt ∧ wr.ownsRow w1.heap.size 44 4 (.slice A2 q c2) q (evCells M) ∧ Row wr 3 1 Ao zl (ints z) ∧ Below w.heap.size w wr) (fun _ vi _ => q - (intOf vi).toNat)
 case atStart => exact ⟨0, 0, pl, by omega, rfl, rfl, rfl, Told'.refl pl, fun _ _ => rfl, rfl, HO4.out, HZR.out, HW4.out⟩
 case round =>
  obtain ⟨k, cnt, M, hk, rfl, rfl, hcnt, htold, hrest, hld, hom, hoz, hbx⟩ := hrel
  obtain ⟨wx, rfl⟩ : ∃ x, x = wr := ⟨wr, rfl⟩
  have HCnt := Lib.hid hcnt
  have HTold := Lib.hid htold
  have HRest := Lib.hid hrest
  have HLd := Lib.hid hld
  have HOM := Lib.hid hom
  have HOZ := Lib.hid hoz
  have HBX := Lib.hid hbx
  have hck : cnt ≤ 5 := by have := loads_len pl k; omega
  clear hcnt htold hrest hld hom hoz hbx
  by_cases hltq : k < q
  ·
   have hlbq : decide ((k : Int) < (q : Int)) = true := by simp; omega
   have hlbq2 : decide (k < q) = true := by simpa using hltq
   obtain ⟨e, hek⟩ : ∃ e, pl[k]? = some e := ⟨_, List.getElem?_eq_getElem (by have := HQ.out; omega)⟩
   have hMk : M[k]? = some e := (HRest.out k (Nat.le_refl _)).trans hek
   have HEk := Lib.hid hek
   have HMk := Lib.hid hMk
   obtain ⟨g, e1, hg0, hg, _⟩ := own_form HOM.out (by omega)
   injection hg0 with hA5 _ hc5e
   subst hA5
   subst hc5e
   have HGb := Lib.hid hg
   obtain ⟨_, h1c, _, h3c⟩ := ev_at M k e hMk
   have hlenM : M.length = q := by rw [HTold.out.len]; exact HQ.out
   have hcl : (evCells M).length = q * 4 := by rw [evCells_len, hlenM]
   have g0 := HOM.out.cellAt (k * 4 + 1) (by omega)
   rw [h1c] at g0
   have g3 := HOM.out.cellAt (k * 4 + 3) (by omega)
   rw [h3c] at g3
   have hfz := HOM.out.frozenAt (k * 4 + 3)
   have hkq : (k : Int) < (q : Int) := by omega
   have hk0 : decide ((k : Int) < 0) = false := by simp
   have HLM := Lib.hid hlenM
   obtain ⟨ek, hek2⟩ : ∃ z, z = e.k := ⟨_, rfl⟩
   obtain ⟨en, hen⟩ : ∃ z, z = e.n := ⟨_, rfl⟩
   rw [← hek2] at g0
   rw [← hen] at g3
   have HEE := Lib.hid (And.intro hek2 hen)
   clear hek hMk hg h1c h3c hcl hlenM hek2 hen
   by_cases hek1 : ek = 1
   ·
    have hb1 : (ek == 1) = true := by simpa using hek1
    have HE1 := Lib.hid (show e.k = 1 from HEE.out.1 ▸ hek1)
    subst hek1
    have hcz : cnt < zl := by
     have h1 := loads_more HEk.out HE1.out
     rw [← HCnt.out] at h1
     have := HPp.out.1
     have := HZL.out
     omega
    have hczb : decide ((zl : Int) ≤ (cnt : Int)) = false := by simp; omega
    have hczb2 : decide (zl ≤ cnt) = false := by simp; omega
    have hczI : (cnt : Int) < (zl : Int) := by omega
    have hc0 : decide ((cnt : Int) < 0) = false := by simp
    obtain ⟨b7, o7, zv, hAo, hzv, hcv⟩ := HOZ.out.rd.int hcz
    have HSt := Lib.hid (told_step (z := zv) HTold.out HEk.out HRest.out HE1.out (HPp.out.2 zv (List.mem_of_getElem? hzv)))
    have HOM1 := Lib.hid (show (wx.setCell ⟨g, k * 4 + 3, none⟩ (.int .i64 zv)).ownsRow w1.heap.size 44 4 (.slice (some ⟨g, 0, none⟩) q c2) q (evCells (setN M k zv)) from by
     rw [setN_cells _ _ _ (by rw [HLM.out]; exact hltq)]
     exact (HOM.out.stored (k * 4 + 3) (.int .i64 zv)).1)
    have HOZ1 := Lib.hid (HOZ.out.tk (tk_stored (j := k * 4 + 3) (u := .int .i64 zv) HOM.out) (by decide))
    have HB9 := Lib.hid (show Below w.heap.size w (wx.setCell ⟨g, k * 4 + 3, none⟩ (.int .i64 zv)) from bS HBX.out (show w.heap.size ≤ g from Nat.le_trans HLe.out HGb.out))
    have HC1 := Lib.hid (show cnt + 1 = (loadsOf (pl.take (k + 1))).length from by rw [loads_succ HEk.out, if_pos HE1.out, List.length_append, ← HCnt.out]; rfl)
    have HL1 := Lib.hid (show loadsOf ((setN M k zv).take (k + 1)) = z.take (cnt + 1) from by rw [HSt.out.2.2.1, HLd.out, List.take_add_one, hzv]; rfl)
    subst hAo
    clear hcz hzv
    go_wp2_with fail
    go_roundw
    case rel => exact ⟨k + 1, cnt + 1, setN M k zv, by omega, by go_num, by go_num, HC1.out, HSt.out.1, HSt.out.2.1, HL1.out, HOM1.out, HOZ1.out, HB9.out⟩
    case measure => simp [intOf]; omega
   ·
    have hb1 : (ek == 1) = false := by simpa using hek1
    have HNk := Lib.hid (show ¬e.k = 1 from fun h => hek1 (HEE.out.1.trans h))
    clear hek1
    go_wp2_with fail
    go_roundw
    case rel => exact ⟨k + 1, cnt, M, by omega, by go_num, rfl, by rw [loads_succ HEk.out, if_neg HNk.out, List.append_nil, ← HCnt.out], HTold.out, fun j hj => HRest.out j (by omega), by rw [loads_succ HMk.out, if_neg HNk.out, List.append_nil, HLd.out], HOM.out, HOZ.out, HBX.out⟩
    case measure => simp [intOf]; omega
  ·
   have hlbq : decide ((k : Int) < (q : Int)) = false := by simp; omega
   have hlbq2 : decide (k < q) = false := by simpa using hltq
   have hcz : cnt = zl := by
    rw [HCnt.out, List.take_of_length_le (by have := HQ.out; omega), ← HPp.out.1, ← HZL.out]
   have hzM : loadsOf M = z := by
    have h1 := HLd.out
    rwa [List.take_of_length_le (by have := HTold.out.len; have := HQ.out; omega), List.take_of_length_le (by have := HZL.out; omega)] at h1
   have hczb : ((cnt : Int) == (zl : Int)) = true := by simp; omega
   have hczb2 : (cnt == zl) = true := by simp; omega
   have HY := Lib.hid (show CanHold M [] from by
    refine ((canHold_iff (told_ok HTold.out HP.out.ok)).trans (canEnd_iff HP.out HTold.out)).2 ⟨xs, ?_⟩
    rw [hzM]
    exact HPz.out)
   have HAl := Lib.hid (allowed25_any (A2) q c2 M wx ⟨HTold.out.len.trans HQ.out, hc2, Row.of_own HOM.out⟩ (by omega) (told_ok HTold.out HP.out.ok))
   clear hcz hzM
   go_wp2_with fail
   refine HAl.out.mono ?_
   rintro o w9 ⟨⟨b, rfl, hb⟩, hb9⟩
   have HB9 := Lib.hid (bT HBX.out hb9)
   obtain rfl : b = true := hb.2 HY.out
   clear hb hb9
   go_wp2_with fail
   go_ret
   exact ⟨rfl, HB9.out⟩
end Go.Proofs.YtnigadeohmlpiaaGreatDoor

namespace Go.Proofs.YtnigadeohmlpiaaGreatDoor.litmusPlays
open Go.ChangeShapes Go.WideShapes Go.ChangeAt Go.RowKit
set_option maxRecDepth 100000 in
theorem contract (H : Type) (enc : TypeId × Value → H) (W : World) (base : Nat) (args : Array Value) (ds gs : List (DataW H)) (before : List MemPlace)
  (hval : ∀ (j : Nat) t v, Tryz.f6.params[j]? = some t → args[j]? = some v → Value.okWide Tryz.prog W .any base t v)
  (hW : DataW.Whole enc Tryz.prog Tryz.f6.params.toList Rows.litmusPlaysSpec.vars false W args.toList ds gs before) (hL : laidMetH Tryz.prog Rows.litmusTellsRow.laid W) (_hS : W.ShapedOpen Tryz.prog) :
  Calls Tryz.prog 6 args W fun e W' => ∃ v, e = .returned v ∧ Rows.litmusPlaysSpec.post enc Tryz.prog Tryz.f6 false true false false W args v W' := by
 have hW' := hW
 have hlt : ∀ p ∈ before, p.block < W.heap.size := fun p hp => hW.lt p hp
 obtain ⟨p, q, hA0, hV, rfl, hfz, hnd⟩ := hW
 have hA : DataW.TrodAll enc Tryz.prog W 0 (fun _ => true) true Tryz.f6.params.toList args.toList ds p := hA0
 rw [Tryz.params6] at hA hval
 obtain ⟨v0, vs0, d0, ds0, p0, q0, hargs, rfl, rfl, h0, r0⟩ := trodAll_cons hA
 obtain ⟨v1, vs1, d1, ds1, p1, q1, rfl, rfl, rfl, h1, r1⟩ := trodAll_cons r0
 obtain ⟨rfl, rfl, rfl⟩ := trodAll_nil r1
 obtain rfl : args = #[v0, v1] := by cases args; simp_all
 obtain ⟨rfl, rfl⟩ := trodVars_none hV
 obtain ⟨A0, n0, c0, L0, rfl, hi0, hn0⟩ := raw_in (hval 0 23 v0 rfl rfl) h0
 obtain ⟨A1, n1, c1, z1, rfl, hi1⟩ := tri_in (hval 1 24 v1 rfl rfl) h1
 clear hA0
 refine (plays6_any A0 n0 c0 L0 A1 n1 c1 z1 W hi0 hn0 hi1 (glob_laid hL)).mono fun e W' ⟨he, hb⟩ => ?_
 subst he
 exact ⟨_, rfl, post_of_below (pv := []) hW' (fun _ _ _ => trodAll_cons_mk (shut_bool Tryz.underlying4 _) trodAll_mk0) (fun sp hsp => trodAll_cons_mk (keeps_in (by kernel_rfl) (of_decide_eq_true (by kernel_rfl)) h0 hb (fun x hx => hlt x (by simp [hx])) sp (fun x hx => hsp x (by simp [hx]))) (trodAll_cons_mk (keeps_in (by kernel_rfl) (of_decide_eq_true (by kernel_rfl)) h1 hb (fun x hx => hlt x (by simp [hx])) sp (fun x hx => hsp x (by simp [hx]))) trodAll_mk0)) (fun _ _ => rfl) rfl hb (ok_one (by kernel_rfl) rfl (okWide_bool_mk Tryz.underlying4 _))⟩
theorem reads (os : Os) {H : Type} (enc : TypeId × Value → H) : ∃ places, DataW.whole enc Tryz.prog ((laidWorld os).forCall (fun _ _ => 0) ⟨#[], #[.slice none 0 0, .slice none 0 0], []⟩).memory Tryz.f6.params.toList Rows.litmusPlaysSpec.vars false (#[.slice none 0 0, .slice none 0 0] : Array Value).toList 8 = some ([.nil, .nil], [], places) :=
 ⟨[], by kernel_rfl⟩
set_option maxRecDepth 100000 in
theorem lifted (os : Os) (started : os.Started) (H : Type) (enc : TypeId × Value → H) (F : Stop.Interp) :
  ReturnsInHanded {} Tryz.checked os 6 .any ((OpenSpec.ofChange Rows.litmusPlaysSpec).preRow enc Tryz.prog Tryz.f6 Rows.litmusPlaysRow.domain false Rows.litmusPlaysRow.laid) (((OpenSpec.ofChange Rows.litmusPlaysSpec).at F).post enc Tryz.prog Tryz.f6 false true false false) := by
 obtain ⟨places, hx⟩ := reads os enc
 refine returnsInHanded_of_row (C := Tryz.checked) (s := OpenSpec.ofChange Rows.litmusPlaysSpec) own started (by kernel_rfl) Tryz.func6
  (witness_row_atRef (enc := enc) (C := Tryz.checked) false (laidWorld os) #[.slice none 0 0, .slice none 0 0] rfl (by kernel_rfl) (by kernel_rfl) (by kernel_rfl)
   (OpenSpec.preRow_of_cond 8 hx (by kernel_rfl) (fun k hk => by cases hk) (by kernel_rfl) (laid_met os _))) ?_
 intro W base args ds gs before hval hW _ _ _ hL hS _
 exact contract H enc W base args ds gs before hval hW hL hS
theorem said : Rows.LitmusPlaysSaid :=
 OpenClaim.holds_of_cond 6 Tryz.f6 rfl rfl rfl rfl rfl rfl rfl ⟨rfl, rfl, rfl, rfl, rfl⟩ rfl rfl rfl rfl rfl (by kernel_rfl) Tryz.func6 (by kernel_rfl)
  (of_decide_eq_true (by kernel_rfl)) (by unfold Func.isWrapper; first | (rw [if_pos (by decide +kernel)]; kernel_rfl) | (rw [if_neg (by decide +kernel)]; exact ⟨rfl, rfl⟩))
  (fun os started H enc _ F => by rw [OpenClaim.pre_eq_preRow]; exact lifted os started H enc F)
theorem plain (f : FuncId) (fn : Func) (hf : Tryz.pinned.checked.prog.funcNamed "headstock/headstocklaw13.LitmusPlays" = some f) (hfn : Tryz.pinned.checked.prog.funcs[f]? = some fn) :
  false = Tryz.pinned.checked.prog.looks [] ∧ ∀ (j : Nat) t, fn.params[j]? = some t → Tryz.pinned.checked.prog.wantsStandIn t = false := by
 obtain rfl : f = 6 := Option.some.inj ((show Tryz.prog.funcNamed "headstock/headstocklaw13.LitmusPlays" = some 6 by kernel_rfl).symm.trans hf) |>.symm
 obtain rfl : fn = Tryz.f6 := (Option.some.inj (Tryz.func6.symm.trans hfn)).symm
 refine ⟨by kernel_rfl, fun j t ht => ?_⟩
 have : ∀ t ∈ Tryz.f6.params, Tryz.prog.wantsStandIn t = false := by
  rw [Tryz.params6]
  intro t ht
  simp only [List.mem_toArray, List.mem_cons, List.not_mem_nil, or_false] at ht
  rcases ht with rfl | rfl
  all_goals kernel_rfl
 exact this t (Array.mem_of_getElem? ht)
theorem card : Rows.LitmusPlaysCardSaid :=
 Claim7.holds_tied_plain_at .later [] _ _ _ _ said (fun _ h => by cases h) (by kernel_rfl) (fun _ h => by cases h) litmusPlays_row_tie rfl ⟨rfl, rfl⟩ (by kernel_rfl) rfl plain (by kernel_rfl)
end Go.Proofs.YtnigadeohmlpiaaGreatDoor.litmusPlays
