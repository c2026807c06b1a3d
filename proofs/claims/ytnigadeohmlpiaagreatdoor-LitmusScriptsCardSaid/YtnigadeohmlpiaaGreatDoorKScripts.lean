/- The statement LitmusScripts, for every input: no condition of ours. -/
import Derived.Test.YtnigadeohmlpiaaGreatDoorC35
import Derived.Test.YtnigadeohmlpiaaGreatDoorC31
import Derived.Test.YtnigadeohmlpiaaGreatDoorC30
import Derived.OpenShut
import Derived.SizedLaws
namespace Go.Proofs.YtnigadeohmlpiaaGreatDoor
open Go.RowKit
attribute [local go_sem] Oper.semAt_some

theorem tk_stored {w : World} {base g n cap j : Nat} {e : TypeId} {size : Nat} {xs : List Value} {u : Value} (h : w.ownsRow base e size (.slice (some ⟨g, 0, none⟩) n cap) n xs) : Tk [e] w (w.setCell ⟨g, j, none⟩ u) := by
  rcases h.2 with ⟨h', _⟩ | ⟨g', cap', cur, h', _, hg, _⟩
  · simp at h'
  · simp only [Value.slice.injEq, Option.some.injEq, Addr.mk.injEq, and_true, true_and] at h'
    obtain ⟨rfl, rfl⟩ := h'
    refine ⟨by simp [World.setCell], fun k cur' e' fz he hk => ?_⟩
    have hne : k ≠ g := fun e1 => by
      rw [e1, hg] at hk
      injection hk with hk
      injection hk with _ h2
      exact he (by simp [h2])
    rw [set_other _ hne]
    exact hk

theorem own_two {w w' : World} {base base' n n' size size' : Nat} {e e' : TypeId} {v v' : Value} {xs ys : List Value} (hM : w.ownsRow base e size v n xs) (hX : w.ownsRow base' e' size' v' n' ys) (hg : w.grownBy w' v'.ownBlock) (hne : e ≠ e') : w'.ownsRow base e size v n xs := by
  refine own_tk (T := [e']) hM ⟨hg.size, fun k cur f fz he hk => ?_⟩ (by simpa using hne)
  refine (hg.block k (blk_lt hk) (fun e1 => ?_)).trans hk
  rcases hX.2 with ⟨h', _⟩ | ⟨g', cap', cur', h', _, h2, _⟩
  · rw [h'] at e1
    cases e1
  · rw [h'] at e1
    injection e1 with e1
    subst e1
    rw [h2] at hk
    injection hk with hk
    injection hk with _ h3
    exact he (by simp [h3])
theorem loads_succ {M : List Ev} {k : Nat} {e : Ev} (h : M[k]? = some e) : loadsOf (M.take (k + 1)) = loadsOf (M.take k) ++ if e.k = 1 then [e.n] else [] := by
  unfold loadsOf
  rw [List.take_add_one, h, List.filterMap_append]
  by_cases h1 : e.k = 1 <;> simp [h1]
theorem loads_len (M : List Ev) (k : Nat) : (loadsOf (M.take k)).length ≤ k := by
  unfold loadsOf
  have h1 := List.length_filterMap_le (fun e : Ev => if e.k = 1 then some e.n else none) (M.take k)
  rw [List.length_take] at h1
  omega
/-- a load that comes to tell something else -/
theorem told_step {pl M : List Ev} {k : Nat} {e : Ev} {z : Int} (ht : Told' pl M) (hk : pl[k]? = some e) (hM : ∀ j, k ≤ j → M[j]? = pl[j]?) (h1 : e.k = 1) (hz : I32 z) :
    Told' pl (setN M k z) ∧ (∀ j, k + 1 ≤ j → (setN M k z)[j]? = pl[j]?) ∧ loadsOf ((setN M k z).take (k + 1)) = loadsOf (M.take k) ++ [z] ∧ (setN M k z)[k]? = some (e.tell z) := by
  have hk2 : (setN M k z)[k]? = some (e.tell z) := by rw [setN_at, if_pos rfl, hM k (Nat.le_refl _), hk]; rfl
  refine ⟨⟨by rw [setN_len]; exact ht.len, fun i x hx => ?_⟩, fun j hj => ?_, ?_, hk2⟩
  · by_cases hik : k = i
    · subst hik
      rw [hk] at hx
      cases hx
      exact ⟨z, hk2, fun h => absurd h1 h, fun _ => hz⟩
    · rw [setN_at, if_neg hik]
      exact ht.at_ i x hx
  · rw [setN_at, if_neg (by omega)]
    exact hM j (by omega)
  · rw [loads_succ hk2]
    have h2 : (setN M k z).take k = M.take k := by
      apply List.ext_getElem?
      intro i
      rw [List.getElem?_take, List.getElem?_take]
      split
      · rw [setN_at, if_neg (by omega)]
      · rfl
    rw [h2, if_pos (show (e.tell z).k = 1 from h1)]
    rfl

/-- two outcomes, each boxed alone -/
theorem rr_two {w : World} {A B : Option Addr} {c d j k : Nat} {xs ys : List Int} (hj : j = xs.length) (hk : k = ys.length) (hA : Row w 3 1 A xs.length (ints xs)) (hB : Row w 3 1 B ys.length (ints ys)) (hc : xs.length ≤ c) (hd : ys.length ≤ d) (hx : xs.length ≤ 1000000) (hy : ys.length ≤ 1000000) :
    RR ((w.alloc (.cells #[.slice A j c] 32)).alloc (.cells #[.slice B k d] 32)) (some ⟨w.heap.size, 0, none⟩) 1 [xs] ∧ RR ((w.alloc (.cells #[.slice A j c] 32)).alloc (.cells #[.slice B k d] 32)) (some ⟨w.heap.size + 1, 0, none⟩) 1 [ys] := by
  subst hj hk
  have k1 : Below (w.alloc (.cells #[.slice A xs.length c] 32)).heap.size (w.alloc (.cells #[.slice A xs.length c] 32)) ((w.alloc (.cells #[.slice A xs.length c] 32)).alloc (.cells #[.slice B ys.length d] 32)) := bA (bR _)
  have k2 : Below w.heap.size w ((w.alloc (.cells #[.slice A xs.length c] 32)).alloc (.cells #[.slice B ys.length d] 32)) := bA (bA (bR w))
  have h2 := heap_alloc_new (w.alloc (.cells #[.slice A xs.length c] 32)) (.cells #[.slice B ys.length d] 32)
  rw [World.size_alloc] at h2
  exact ⟨rr_one (blk_below k1 (heap_alloc_new w _)) hc (hA.below k2) hx, rr_one h2 hd (hB.below k2) hy⟩

set_option maxHeartbeats 16000000 in
set_option maxRecDepth 100000 in
theorem scripts5_any (A : Option Addr) (n c : Nat) (L : List R4) (B : Option Addr) (m d : Nat) (zs : List Int) (w : World) (h : IsRaw w A n L) (hn : n ≤ 9223372036854775807) (hzl : zs.length = m) (hz : Rd w 1 B m (ints zs)) (hm : m ≤ 9223372036854775807) (hzr : ∀ z ∈ zs, I64ok z) (hG : Glob w) :
    Calls Tryz.prog 5 #[.slice A n c, .slice B m d] w fun o w' => o = .returned (.bool true) ∧ Below w.heap.size w w' := by
  obtain ⟨i0, hi, hz0, hz1, hz2⟩ := info_parts int_info
  obtain ⟨i1, hj, hy0, hy1, hy2⟩ := info_parts ev_info
  have HR := Lib.hid h
  have HG := Lib.hid hG
  have HAw := Lib.hid (awake_any w hG)
  have HNn := Lib.hid hn
  have HZ := Lib.hid hz
  have HZr := Lib.hid hzr
  have HZl := Lib.hid hzl
  have HMm := Lib.hid hm
  clear h hG hz hzr hzl hn
  go_enter Tryz.func5, Tryz.ntmps5
  go_wp2_with fail
  refine HAw.out.mono ?_
  rintro o w1 ⟨rfl, hb1⟩
  have HB1 := Lib.hid hb1
  have HF := Lib.hid (fit11_any A n c L w1 (HR.out.below hb1) HNn.out)
  have HG1 := Lib.hid (HG.out.below hb1)
  clear hb1
  go_wp2_with fail
  refine HF.out.mono ?_
  rintro o w2 ⟨⟨A2, c2, rfl, hown2, hc2⟩, hb2⟩
  obtain ⟨q, hq⟩ : ∃ q, q = (fitL L).length := ⟨_, rfl⟩
  have hq5 : q ≤ 5 := hq ▸ fitL_len L
  obtain ⟨pl, hl⟩ : ∃ l, l = fitL L := ⟨_, rfl⟩
  have HP := Lib.hid (show Prog pl from hl ▸ fitL_prog L)
  have HQ := Lib.hid (show pl.length = q from by rw [hl, hq])
  rw [← hq, ← hl] at hown2
  rw [← hq] at hc2 ⊢
  have HE := Lib.hid (show IsEvs w2 A2 q c2 pl from ⟨HQ.out, hc2, Row.of_own hown2⟩)
  have HW2 := Lib.hid (bT HB1.out hb2)
  have HG2 := Lib.hid (HG1.out.below hb2)
  have HAx := Lib.hid (axioms_any A2 q c2 pl w2 HE.out HP.out)
  clear hq hl hown2 hc2 hb2
  go_wp2_with fail
  refine HAx.out.mono ?_
  rintro o w3 ⟨⟨va, R, rfl, hsa, _, hmem⟩, hb3⟩
  have HMem := Lib.hid (show ∀ z, z ∈ R ↔ ∃ xs, playP pl xs = some z from fun z => by
    rw [same_outs HP.out z, HQ.out]
    exact hmem z)
  obtain ⟨Aa, ca, rfl⟩ : ∃ A c, va = .slice A R.length c := SS.slice hsa
  have hbd : R.length ≤ 9223372036854775807 := by
    obtain ⟨cs, h1, _⟩ := hsa
    obtain ⟨_, _, _, h5, h6⟩ := own_slice h1
    unfold maxLen at h6
    omega
  obtain ⟨N, hN⟩ : ∃ q, q = R.length := ⟨_, rfl⟩
  have HRa := Lib.hid (RR.of_ss hsa (fun z hz => by
    obtain ⟨xs, hp⟩ := (HMem.out z).1 hz
    have h5 := playP_len hp
    have h6 := HP.out.few
    omega))
  rw [← hN] at HRa hbd ⊢
  have HW3 := Lib.hid (bT HW2.out hb3)
  have HG3 := Lib.hid (HG2.out.below hb3)
  have HE3 := Lib.hid (HE.out.sees (Below.sees hb3))
  clear hsa hmem hb3 hN
  go_wp2_with fail
  go_loopw [8] (fun vi wr => ∃ k : Nat, k ≤ N ∧ vi = .int .i64 k ∧ Below w3.heap.size w3 wr) (fun vi _ => N - (intOf vi).toNat)
  case atStart => exact ⟨0, Nat.zero_le _, rfl, bR w3⟩
  case round =>
    obtain ⟨k, hk, rfl, hbw⟩ := hrel
    obtain ⟨wo, rfl⟩ : ∃ x, x = wr := ⟨wr, rfl⟩
    have HBW := Lib.hid hbw
    clear hbw
    by_cases hlt : k < N
    · have hlb : decide ((k : Int) < (N : Int)) = true := by simp; omega
      have hkN : (k : Int) < (N : Int) := by omega
      have hk0 : decide ((k : Int) < 0) = false := by simp
      obtain ⟨g1, o1, zi, B1, d1, rfl, hz1', hc1, hr1, hl1⟩ := (HRa.out.below HBW.out).at2 hlt
      have HIn := Lib.hid ((HMem.out zi).1 (List.mem_of_getElem? hz1'))
      have HScr := Lib.hid (script_any A2 q c2 pl B1 zi.length d1 zi wo (HE3.out.sees (Below.sees HBW.out)) HP.out (HG3.out.below HBW.out) hr1)
      have HR1 := Lib.hid hr1
      have HL1 := Lib.hid hl1
      have HC1 := Lib.hid hc1
      obtain ⟨m1, hm1⟩ : ∃ q, q = zi.length := ⟨_, rfl⟩
      rw [← hm1] at hc1 HScr HC1
      have HM1 := Lib.hid hm1
      clear hz1' hr1 hl1 hm1
      go_wp2_with fail
      refine HScr.out.mono ?_
      rintro o w4 ⟨hres, hb4⟩
      rcases hres with ⟨As, cs, xs, rfl, hpk, hpl⟩ | ⟨_, hno⟩
      · have HB4 := Lib.hid (bT HBW.out hb4)
        have hxl : xs.length ≤ 1000000 := by
          obtain ⟨s', h1, _⟩ := Option.bind_eq_some_iff.1 hpl
          have h2 := run_length h1
          rw [first_meas] at h2
          have := HP.out.few
          omega
        have HPl := Lib.hid (play_any A2 q c2 pl As xs.length cs xs w4 (HE3.out.sees (Below.sees HB4.out)) HP.out hpk hxl)
        rw [hpl] at HPl
        have HC4 := Lib.hid ((hb4.cell (cell_lt HC1.out)).trans HC1.out)
        have HR4 := Lib.hid (HR1.out.below hb4)
        obtain ⟨sl, hsl⟩ : ∃ q, q = xs.length := ⟨_, rfl⟩
        rw [← hsl] at HPl ⊢
        clear hpk hpl hxl hb4 hc1 hsl
        go_wp2_with fail
        refine HPl.out.mono ?_
        rintro o w5 ⟨⟨Ao, co, rfl, hown5, hco⟩, hb5⟩
        have HB5 := Lib.hid (bT HB4.out hb5)
        have HR5 := Lib.hid (HR4.out.below hb5)
        have hc5 := (hb5.cell (cell_lt HC4.out)).trans HC4.out
        have HO5 := Lib.hid hown5
        have HCo := Lib.hid hco
        have HMl := HM1.out
        rw [← HMl] at hown5 HO5 HCo ⊢
        clear hb5 hown5 hco HMl
        have hc6 := ((bA (o := .cells #[.slice Ao m1 co] 32) (bR w5)).cell (cell_lt hc5)).trans hc5
        have HRR := Lib.hid (rr_two (d := d1) HM1.out HM1.out (by have := (Row.of_own HO5.out); rwa [HM1.out] at this) HR5.out (by rw [← HM1.out]; exact HCo.out) HL1.out.2 HL1.out.1 HL1.out.1)
        have HSm := Lib.hid (same16_yes (some ⟨w5.heap.size, 0, none⟩) (some ⟨w5.heap.size + 1, 0, none⟩) 1 1 1 1 [zi] _ HRR.out.1 HRR.out.2 (by omega))
        go_wp2_with fail
        refine HSm.out.mono ?_
        rintro o w8 ⟨rfl, hb8⟩
        have HB8 := Lib.hid (bT HB5.out (bT (bA (bA (bR w5))) hb8))
        clear hb8 hc5 hc6
        go_wp2_with fail
        go_roundw
        case rel => exact ⟨k + 1, by omega, by go_num, HB8.out⟩
        case measure => simp [intOf]; omega
      · exact absurd HIn.out fun ⟨xs, hp⟩ => hno xs hp
    · have hlb : decide ((k : Int) < (N : Int)) = false := by simp; omega
      have HEo := Lib.hid (HE3.out.sees (Below.sees HBW.out))
      obtain ⟨bs, hbs⟩ : ∃ b, b = wo.heap.size := ⟨_, rfl⟩
      go_wp2_with (
        at_builtin
        refine wpList_append_rd _ rfl (.const (.slice none 0 0)) (.tmp 61) 22 rfl bs 44 i1 _ 4 32 Tryz.underlying22 hj hy0 hy1 hy2 rfl (by decide) (.slice none 0 0) 0 [] rfl (World.ownsRow_nil _ _ _ _) A2 q c2 (evCells pl) rfl HEo.out.row.rd (evCells_one _) (by unfold maxLen; omega) (by omega) (Nat.le_of_eq hbs) ?_
        intro v5 w5 hown5 hg5
        have HB5 := Lib.hid (show Below wo.heap.size wo w5 from (bR wo).grown hg5 (Nat.le_refl _) (fun r e => by cases e))
        have HO5 := Lib.hid (show w5.ownsRow bs 44 4 v5 q (evCells pl) from by rwa [Nat.zero_add, List.nil_append] at hown5)
        clear hown5 hg5)
      obtain ⟨A5, c5, rfl, hc5, _⟩ := own_slice HO5.out
      have HO5' := Lib.hid HO5.out
      have HBs := Lib.hid hbs
      have HB5' := Lib.hid HB5.out
      have HMx := Lib.hid hm
      clear hbs HO5 HB5 hm
      go_wp2_with fail
      go_loopw [13, 15] (fun vx vi wr => ∃ (k : Nat) (M : List Ev) (X : List Int), k ≤ q ∧ vi = .int .i64 k ∧ Told' pl M ∧ (∀ j, k ≤ j → M[j]? = pl[j]?) ∧ X = loadsOf (M.take k) ∧ wr.ownsRow bs 44 4 (.slice A5 q c5) q (evCells M) ∧ wr.ownsRow bs 3 1 vx X.length (ints X) ∧ Below wo.heap.size wo wr) (fun _ vi _ => q - (intOf vi).toNat)
      case atStart => exact ⟨0, pl, [], Nat.zero_le _, rfl, Told'.refl pl, fun _ _ => rfl, rfl, HO5'.out, World.ownsRow_nil _ _ _ _, HB5'.out⟩
      case round =>
        obtain ⟨k, M, X, hk, rfl, htold, hrest, hX, hom, hox, hbx⟩ := hrel
        obtain ⟨wx, rfl⟩ : ∃ x, x = wr := ⟨wr, rfl⟩
        have HTold := Lib.hid htold
        have HRest := Lib.hid hrest
        have HXe := Lib.hid hX
        have HOM := Lib.hid hom
        have HOX := Lib.hid hox
        have HBX := Lib.hid hbx
        have hxk : X.length ≤ k := hX ▸ loads_len M k
        obtain ⟨AX, cX, rfl, _, _⟩ := own_slice hox
        obtain ⟨xq, hxq⟩ : ∃ x, x = X.length := ⟨_, rfl⟩
        rw [← hxq] at hxk HOX ⊢
        have HXq := Lib.hid hxq
        clear htold hrest hX hom hox hbx hxq
        by_cases hltq : k < q
        · have hlbq : decide ((k : Int) < (q : Int)) = true := by simp; omega
          obtain ⟨e, hek⟩ : ∃ e, pl[k]? = some e := ⟨_, List.getElem?_eq_getElem (by have := HQ.out; omega)⟩
          have hMk : M[k]? = some e := (HRest.out k (Nat.le_refl _)).trans hek
          have HEk := Lib.hid hek
          have HMk := Lib.hid hMk
          obtain ⟨g, e1, hg0, hg, _⟩ := own_form HOM.out (by omega)
          injection hg0 with hA5 _ hc5e
          subst hA5
          subst hc5e
          have HGb := Lib.hid hg
          obtain ⟨_, h1c, _, h3c⟩ := ev_at M k e hMk
          have hlenM : M.length = q := by rw [HTold.out.len]; exact HQ.out
          have hcl : (evCells M).length = q * 4 := by rw [evCells_len, hlenM]
          have g0 := HOM.out.cellAt (k * 4 + 1) (by omega)
          rw [h1c] at g0
          have g3 := HOM.out.cellAt (k * 4 + 3) (by omega)
          rw [h3c] at g3
          have hfz := HOM.out.frozenAt (k * 4 + 3)
          have hkq : (k : Int) < (q : Int) := by omega
          have hk0 : decide ((k : Int) < 0) = false := by simp
          have HLM := Lib.hid hlenM
          obtain ⟨ek, hek2⟩ : ∃ z, z = e.k := ⟨_, rfl⟩
          obtain ⟨en, hen⟩ : ∃ z, z = e.n := ⟨_, rfl⟩
          rw [← hek2] at g0
          rw [← hen] at g3
          have HEE := Lib.hid (And.intro hek2 hen)
          clear hek hMk hg h1c h3c hcl hlenM hek2 hen
          by_cases hek1 : ek = 1
          · have hb1 : (ek == 1) = true := by simpa using hek1
            have HE1 := Lib.hid (show e.k = 1 from HEE.out.1 ▸ hek1)
            subst hek1
            by_cases hxm : xq < m
            · have hxb : decide ((xq : Int) < (m : Int)) = true := by simp; omega
              have hxb2 : decide (xq < m) = true := by simpa using hxm
              have hxmI : (xq : Int) < (m : Int) := by omega
              have hx0 : decide ((xq : Int) < 0) = false := by simp
              obtain ⟨b7, o7, zv, rfl, hzv, hcz⟩ := (HZ.out.below (bT HW3.out (bT HBW.out HBX.out))).int hxm
              have hok := HZr.out zv (List.mem_of_getElem? hzv)
              have HPk := Lib.hid (pick24_any zv 4 wx (by omega) hok.1 hok.2)
              obtain ⟨pz, hpz⟩ : ∃ p, p = pk zv 4 := ⟨_, rfl⟩
              have hp1 : 0 ≤ pz := hpz ▸ pk_lo zv 4 (by omega)
              have hp2 : pz < 4 := hpz ▸ pk_hi zv 4 (by omega)
              have HSt := Lib.hid (told_step (z := pz) HTold.out HEk.out HRest.out HE1.out ⟨by omega, by omega⟩)
              have HOM1 := Lib.hid (show (wx.setCell ⟨g, k * 4 + 3, none⟩ (.int .i64 pz)).ownsRow bs 44 4 (.slice (some ⟨g, 0, none⟩) q c5) q (evCells (setN M k pz)) from by
                rw [setN_cells _ _ _ (by rw [HLM.out]; exact hltq)]
                exact (HOM.out.stored (k * 4 + 3) (.int .i64 pz)).1)
              have HOX1 := Lib.hid (own_tk (T := [44]) HOX.out (tk_stored (j := k * 4 + 3) (u := .int .i64 pz) HOM.out) (by decide))
              have HB9 := Lib.hid (show Below wo.heap.size wo (wx.setCell ⟨g, k * 4 + 3, none⟩ (.int .i64 pz)) from bS HBX.out (by rw [← HBs.out]; exact HGb.out))
              rw [← hpz] at HPk
              clear hzv hpz hok hp1 hp2
              go_upto_region 19 with fail
              refine HPk.out.mono ?_
              rintro o w7 ⟨rfl, rfl⟩
              go_upto_region 19 with fail
              have c3 : (wx.setCell ⟨g, k * 4 + 3, none⟩ (.int .i64 pz)).cell? ⟨g, k * 4 + 3, none⟩ = some (.int .i64 pz) := by
                obtain ⟨_, _, _, h3c⟩ := ev_at _ k _ HSt.out.2.2.2
                have h9 := HOM1.out.cellAt (k * 4 + 3) (by omega)
                rw [h3c] at h9
                exact h9
              obtain ⟨W1, hW1⟩ : ∃ X, X = wx.setCell ⟨g, k * 4 + 3, none⟩ (.int .i64 pz) := ⟨_, rfl⟩
              rw [← hW1] at HOM1 HOX1 HB9 c3 ⊢
              clear hW1 g0 g3 hfz hcz
              have HNw := Lib.hid (heap_alloc_new W1 (.cells #[.int .i64 pz] 3))
              have HOl := Lib.hid (HOX1.out.alloc (.cells #[.int .i64 pz] 3))
              have HOm := Lib.hid (HOM1.out.alloc (.cells #[.int .i64 pz] 3))
              go_wp2_with (
                at_builtin
                refine wpList_append_rd _ rfl (.tmp 90) (.tmp 96) 32 rfl bs 3 i0 _ 1 8 Tryz.underlying32 hi hz0 hz1 hz2 rfl (by decide) (.slice AX xq cX) xq (ints X) rfl HOl.out (some ⟨W1.heap.size, 0, none⟩) 1 1 [.int .i64 pz] rfl ⟨rfl, fun _ => ⟨W1.heap.size, 0, rfl, blk_lt HNw.out, fun j u hu => one_cell HNw.out hu⟩⟩ (by simp [Value.oneCell']) (by unfold maxLen; omega) (by omega) (by have := HB9.out.size; have := HBs.out; simp; omega) ?_
                intro v7 w7 hown7 hg7)
              go_roundw
              case rel =>
                have hk7 : Below wo.heap.size wo w7 := (bA HB9.out).grown hg7 (bA HB9.out).size (fun r e => by rw [← HBs.out]; exact (HOl.out.lt r e).1)
                refine ⟨k + 1, (setN M k pz), X ++ [pz], by omega, by go_num, HSt.out.1, HSt.out.2.1, (by rw [HSt.out.2.2.1, ← HXe.out]), ?_, ?_, hk7⟩
                · exact own_two HOm.out HOl.out hg7 (by decide)
                · rw [List.length_append]
                  have h9 := hown7
                  rw [show ints X ++ [Value.int .i64 pz] = ints (X ++ [pz]) from by simp [ints]] at h9
                  rw [← HXq.out]
                  exact h9
              case measure => simp [intOf]; omega
            · skip
              have hxb : decide ((xq : Int) < (m : Int)) = false := by simp; omega
              have hxb2 : decide (xq < m) = false := by simpa using hxm
              have HR1 := Lib.hid (show ∀ j, k + 1 ≤ j → M[j]? = pl[j]? from fun j hj => HRest.out j (by omega))
              have HL1 := Lib.hid (show X ++ [en] = loadsOf (M.take (k + 1)) from by rw [loads_succ HMk.out, if_pos HE1.out, ← HXe.out, HEE.out.2])
              have HOM1 := HOM
              have HOX1 := HOX
              have HB9 := HBX
              clear hxm
              go_upto_region 19 with fail
              clear g0 hfz
              have HNw := Lib.hid (heap_alloc_new wx (.cells #[.int .i64 en] 3))
              have HOl := Lib.hid (HOX1.out.alloc (.cells #[.int .i64 en] 3))
              have HOm := Lib.hid (HOM1.out.alloc (.cells #[.int .i64 en] 3))
              go_wp2_with (
                at_builtin
                refine wpList_append_rd _ rfl (.tmp 90) (.tmp 96) 32 rfl bs 3 i0 _ 1 8 Tryz.underlying32 hi hz0 hz1 hz2 rfl (by decide) (.slice AX xq cX) xq (ints X) rfl HOl.out (some ⟨wx.heap.size, 0, none⟩) 1 1 [.int .i64 en] rfl ⟨rfl, fun _ => ⟨wx.heap.size, 0, rfl, blk_lt HNw.out, fun j u hu => one_cell HNw.out hu⟩⟩ (by simp [Value.oneCell']) (by unfold maxLen; omega) (by omega) (by have := HB9.out.size; have := HBs.out; simp; omega) ?_
                intro v7 w7 hown7 hg7)
              go_roundw
              case rel =>
                have hk7 : Below wo.heap.size wo w7 := (bA HB9.out).grown hg7 (bA HB9.out).size (fun r e => by rw [← HBs.out]; exact (HOl.out.lt r e).1)
                refine ⟨k + 1, M, X ++ [en], by omega, by go_num, HTold.out, HR1.out, HL1.out, ?_, ?_, hk7⟩
                · exact own_two HOm.out HOl.out hg7 (by decide)
                · rw [List.length_append]
                  have h9 := hown7
                  rw [show ints X ++ [Value.int .i64 en] = ints (X ++ [en]) from by simp [ints]] at h9
                  rw [← HXq.out]
                  exact h9
              case measure => simp [intOf]; omega
          · have hb1 : (ek == 1) = false := by simpa using hek1
            have HR1 := Lib.hid (show ∀ j, k + 1 ≤ j → M[j]? = pl[j]? from fun j hj => HRest.out j (by omega))
            have HL1 := Lib.hid (show X = loadsOf (M.take (k + 1)) from by rw [loads_succ HMk.out, if_neg (fun h => hek1 (HEE.out.1.trans h)), List.append_nil, ← HXe.out])
            clear hek1
            go_wp2_with fail
            go_roundw
            case rel => exact ⟨k + 1, M, X, by omega, by go_num, HTold.out, HR1.out, HL1.out, HOM.out, by rw [← HXq.out]; exact HOX.out, HBX.out⟩
            case measure => simp [intOf]; omega
        · have hlbq : decide ((k : Int) < (q : Int)) = false := by simp; omega
          have hXM : X = loadsOf M := by
            have h1 := HXe.out
            rwa [List.take_of_length_le (by have := HTold.out.len; have := HQ.out; omega)] at h1
          have HXM := Lib.hid hXM
          have HIff := Lib.hid (show CanHold M [] ↔ ∃ xs, playP pl xs = some X from by
            rw [hXM]
            exact (canHold_iff (told_ok HTold.out HP.out.ok)).trans (canEnd_iff HP.out HTold.out))
          have HEM := Lib.hid (show IsEvs wx A5 q c5 M from ⟨HTold.out.len.trans HQ.out, hc5, Row.of_own HOM.out⟩)
          have HOkM := Lib.hid (told_ok HTold.out HP.out.ok)
          have HScr := Lib.hid (script_any A2 q c2 pl AX xq cX X wx (HE3.out.sees (Below.sees (bT HBW.out HBX.out))) HP.out (HG3.out.below (bT HBW.out HBX.out)) (Row.of_own HOX.out))
          have HBxx := Lib.hid (bT HW3.out (bT HBW.out HBX.out))
          clear hXM
          go_wp2_with fail
          refine HScr.out.mono ?_
          rintro o w8 ⟨hres, hb8⟩
          have HB8 := Lib.hid (bT HBxx.out hb8)
          have HAl := Lib.hid (allowed25_any A5 q c5 M w8 (HEM.out.sees (Below.sees hb8)) (by omega) HOkM.out)
          clear hb8
          rcases hres with ⟨As, cs, xs, rfl, _, hpl⟩ | ⟨rfl, hno⟩
          · have HY := Lib.hid (HIff.out.2 ⟨xs, hpl⟩)
            obtain ⟨sl, hsl⟩ : ∃ q, q = xs.length := ⟨_, rfl⟩
            rw [← hsl]
            clear hpl hsl
            go_wp2_with fail
            refine HAl.out.mono ?_
            rintro o w9 ⟨⟨b, rfl, hb⟩, hb9⟩
            have HB9 := Lib.hid (bT HB8.out hb9)
            obtain rfl : b = true := hb.2 HY.out
            clear hb hb9
            go_wp2_with fail
            go_ret
            exact ⟨rfl, HB9.out⟩
          · have HNo := Lib.hid (show ¬CanHold M [] from fun h => by
              obtain ⟨xs, hp⟩ := HIff.out.1 h
              exact hno xs hp)
            clear hno
            go_wp2_with fail
            refine HAl.out.mono ?_
            rintro o w9 ⟨⟨b, rfl, hb⟩, hb9⟩
            have HB9 := Lib.hid (bT HB8.out hb9)
            have hbf : b = false := by
              cases b with
              | false => rfl
              | true => exact absurd (hb.1 rfl) HNo.out
            subst hbf
            clear hb hb9
            go_wp2_with fail
            go_ret
            exact ⟨rfl, HB9.out⟩
end Go.Proofs.YtnigadeohmlpiaaGreatDoor

namespace Go.Proofs.YtnigadeohmlpiaaGreatDoor.litmusScripts
open Go.ChangeShapes Go.WideShapes Go.ChangeAt Go.RowKit

set_option maxRecDepth 100000 in
theorem contract (H : Type) (enc : TypeId × Value → H) (W : World) (base : Nat) (args : Array Value) (ds gs : List (DataW H)) (before : List MemPlace)
    (hval : ∀ (j : Nat) t v, Tryz.f5.params[j]? = some t → args[j]? = some v → Value.okWide Tryz.prog W .any base t v)
    (hW : DataW.Whole enc Tryz.prog Tryz.f5.params.toList Rows.litmusScriptsSpec.vars false W args.toList ds gs before) (hL : laidMetH Tryz.prog Rows.litmusTellsRow.laid W) (_hS : W.ShapedOpen Tryz.prog) :
    Calls Tryz.prog 5 args W fun e W' => ∃ v, e = .returned v ∧ Rows.litmusScriptsSpec.post enc Tryz.prog Tryz.f5 false true false false W args v W' := by
  have hW' := hW
  have hlt : ∀ p ∈ before, p.block < W.heap.size := fun p hp => hW.lt p hp
  obtain ⟨p, q, hA0, hV, rfl, hfz, hnd⟩ := hW
  have hA : DataW.TrodAll enc Tryz.prog W 0 (fun _ => true) true Tryz.f5.params.toList args.toList ds p := hA0

  rw [Tryz.params5] at hA hval
  obtain ⟨v0, vs0, d0, ds0, p0, q0, hargs, rfl, rfl, h0, r0⟩ := trodAll_cons hA
  obtain ⟨v1, vs1, d1, ds1, p1, q1, rfl, rfl, rfl, h1, r1⟩ := trodAll_cons r0
  obtain ⟨rfl, rfl, rfl⟩ := trodAll_nil r1
  obtain rfl : args = #[v0, v1] := by cases args; simp_all
  obtain ⟨rfl, rfl⟩ := trodVars_none hV
  obtain ⟨A0, n0, c0, L0, rfl, hi0, hn0⟩ := raw_in (hval 0 23 v0 rfl rfl) h0
  obtain ⟨A1, n1, c1, z1, rfl, hl1, hi1, hn1, hr1⟩ := nums_in (hval 1 32 v1 rfl rfl) h1
  clear hA0
  refine (scripts5_any A0 n0 c0 L0 A1 n1 c1 z1 W hi0 hn0 hl1 hi1 hn1 hr1 (glob_laid hL)).mono fun e W' ⟨he, hb⟩ => ?_
  subst he
  exact ⟨_, rfl, post_of_below (pv := []) hW' (fun _ _ _ => trodAll_cons_mk (shut_bool Tryz.underlying4 _) trodAll_mk0) (fun sp hsp => trodAll_cons_mk (keeps_in (by kernel_rfl) (of_decide_eq_true (by kernel_rfl)) h0 hb (fun x hx => hlt x (by simp [hx])) sp (fun x hx => hsp x (by simp [hx]))) (trodAll_cons_mk (keeps_in (by kernel_rfl) (of_decide_eq_true (by kernel_rfl)) h1 hb (fun x hx => hlt x (by simp [hx])) sp (fun x hx => hsp x (by simp [hx]))) trodAll_mk0)) (fun _ _ => rfl) rfl hb (ok_one (by kernel_rfl) rfl (okWide_bool_mk Tryz.underlying4 _))⟩

theorem reads (os : Os) {H : Type} (enc : TypeId × Value → H) : ∃ places, DataW.whole enc Tryz.prog ((laidWorld os).forCall (fun _ _ => 0) ⟨#[], #[.slice none 0 0, .slice none 0 0], []⟩).memory Tryz.f5.params.toList Rows.litmusScriptsSpec.vars false (#[.slice none 0 0, .slice none 0 0] : Array Value).toList 8 = some ([.nil, .nil], [], places) :=
  ⟨[], by kernel_rfl⟩

set_option maxRecDepth 100000 in
theorem lifted (os : Os) (started : os.Started) (H : Type) (enc : TypeId × Value → H) (F : Stop.Interp) :
    ReturnsInHanded {} Tryz.checked os 5 .any ((OpenSpec.ofChange Rows.litmusScriptsSpec).preRow enc Tryz.prog Tryz.f5 Rows.litmusScriptsRow.domain false Rows.litmusScriptsRow.laid) (((OpenSpec.ofChange Rows.litmusScriptsSpec).at F).post enc Tryz.prog Tryz.f5 false true false false) := by
  obtain ⟨places, hx⟩ := reads os enc
  refine returnsInHanded_of_row (C := Tryz.checked) (s := OpenSpec.ofChange Rows.litmusScriptsSpec) own started (by kernel_rfl) Tryz.func5
    (witness_row_atRef (enc := enc) (C := Tryz.checked) false (laidWorld os) #[.slice none 0 0, .slice none 0 0] rfl (by kernel_rfl) (by kernel_rfl) (by kernel_rfl)
      (OpenSpec.preRow_of_cond 8 hx (by kernel_rfl) (fun k hk => by cases hk) (by kernel_rfl) (laid_met os _))) ?_
  intro W base args ds gs before hval hW _ _ _ hL hS _
  exact contract H enc W base args ds gs before hval hW hL hS

theorem said : Rows.LitmusScriptsSaid :=
  OpenClaim.holds_of_cond 5 Tryz.f5 rfl rfl rfl rfl rfl rfl rfl ⟨rfl, rfl, rfl, rfl, rfl⟩ rfl rfl rfl rfl rfl (by kernel_rfl) Tryz.func5 (by kernel_rfl)
    (of_decide_eq_true (by kernel_rfl)) (by unfold Func.isWrapper; first | (rw [if_pos (by decide +kernel)]; kernel_rfl) | (rw [if_neg (by decide +kernel)]; exact ⟨rfl, rfl⟩))
    (fun os started H enc _ F => by rw [OpenClaim.pre_eq_preRow]; exact lifted os started H enc F)

theorem plain (f : FuncId) (fn : Func) (hf : Tryz.pinned.checked.prog.funcNamed "headstock/headstocklaw13.LitmusScripts" = some f) (hfn : Tryz.pinned.checked.prog.funcs[f]? = some fn) :
    false = Tryz.pinned.checked.prog.looks [] ∧ ∀ (j : Nat) t, fn.params[j]? = some t → Tryz.pinned.checked.prog.wantsStandIn t = false := by
  obtain rfl : f = 5 := Option.some.inj ((show Tryz.prog.funcNamed "headstock/headstocklaw13.LitmusScripts" = some 5 by kernel_rfl).symm.trans hf) |>.symm
  obtain rfl : fn = Tryz.f5 := (Option.some.inj (Tryz.func5.symm.trans hfn)).symm
  refine ⟨by kernel_rfl, fun j t ht => ?_⟩
  have : ∀ t ∈ Tryz.f5.params, Tryz.prog.wantsStandIn t = false := by
    rw [Tryz.params5]
    intro t ht
    simp only [List.mem_toArray, List.mem_cons, List.not_mem_nil, or_false] at ht
    rcases ht with rfl | rfl
    all_goals kernel_rfl
  exact this t (Array.mem_of_getElem? ht)

/-- the card -/
theorem card : Rows.LitmusScriptsCardSaid :=
  Claim7.holds_tied_plain_at .later [] _ _ _ _ said (fun _ h => by cases h) (by kernel_rfl) (fun _ h => by cases h) litmusScripts_row_tie rfl ⟨rfl, rfl⟩ (by kernel_rfl) rfl plain (by kernel_rfl)
end Go.Proofs.YtnigadeohmlpiaaGreatDoor.litmusScripts
