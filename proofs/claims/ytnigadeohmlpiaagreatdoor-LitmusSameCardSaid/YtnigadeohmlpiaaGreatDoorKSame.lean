/- The statement LitmusSame, for every input: no condition of ours. -/
import Derived.Test.YtnigadeohmlpiaaGreatDoorC29
import Derived.Test.YtnigadeohmlpiaaGreatDoorC30
import Derived.OpenShut
import Derived.SizedLaws
namespace Go.Proofs.YtnigadeohmlpiaaGreatDoor
open Go.RowKit
attribute [local go_sem] Oper.semAt_some

/-- an outcome of a row of outcomes, in memory -/
theorem ss_at {w : World} {base g c i : Nat} {R : List (List Int)} (h : SS w base (.slice (some ⟨g, 0, none⟩) R.length c) R) (hi : i < R.length) : ∃ z B d, R[i]? = some z ∧ w.cell? ⟨g, i, none⟩ = some (.slice B z.length d) ∧ z.length ≤ d ∧ Row w 3 1 B z.length (ints z) := by
  obtain ⟨cs, h1, h2, h3⟩ := h
  have hz : R[i]? = some R[i] := List.getElem?_eq_getElem hi
  obtain ⟨B, d, h4, h5, h6⟩ := h3 i _ hz
  refine ⟨_, B, d, hz, ?_, h5, h6⟩
  rw [h1.cellAt i (by omega)]
  exact h4
theorem ints_at {z : List Int} {k : Nat} {x : Int} (h : z[k]? = some x) : (ints z)[k]? = some (.int .i64 x) := by
  unfold ints
  rw [List.getElem?_map, h]
  rfl
theorem row_int {w : World} {B : Option Addr} {z : List Int} {k : Nat} (h : Row w 3 1 B z.length (ints z)) (hk : k < z.length) : ∃ b o x, B = some ⟨b, o, none⟩ ∧ z[k]? = some x ∧ w.cell? ⟨b, o + k, none⟩ = some (.int .i64 x) := by
  obtain ⟨b, o, hB, _, hc⟩ := h.rd.2 (by omega)
  have hz : z[k]? = some z[k] := List.getElem?_eq_getElem hk
  exact ⟨b, o, _, hB, hz, hc k _ (ints_at hz)⟩

set_option maxHeartbeats 8000000 in
set_option maxRecDepth 100000 in
theorem same4_any (A : Option Addr) (n c : Nat) (L : List R4) (w : World) (h : IsRaw w A n L) (hn : n ≤ 9223372036854775807) (hG : Glob w) :
    Calls Tryz.prog 4 #[.slice A n c] w fun o w' => o = .returned (.bool true) ∧ Below w.heap.size w w' := by
  have HR := Lib.hid h
  have HG := Lib.hid hG
  have HAw := Lib.hid (awake_any w hG)
  have HNn := Lib.hid hn
  clear h hG
  go_enter Tryz.func4, Tryz.ntmps4
  go_wp2_with fail
  refine HAw.out.mono ?_
  rintro o w1 ⟨rfl, hb1⟩
  have HB1 := Lib.hid hb1
  have HF := Lib.hid (fit11_any A n c L w1 (HR.out.below hb1) HNn.out)
  have HG1 := Lib.hid (HG.out.below hb1)
  clear hb1
  go_wp2_with fail
  refine HF.out.mono ?_
  rintro o w2 ⟨⟨A2, c2, rfl, hown2, hc2⟩, hb2⟩
  obtain ⟨l, hl⟩ : ∃ l, l = fitL L := ⟨_, rfl⟩
  rw [← hl] at hown2 hc2 ⊢
  have HP := Lib.hid (show Prog l from hl ▸ fitL_prog L)
  have HE := Lib.hid (show IsEvs w2 A2 l.length c2 l from ⟨rfl, hc2, Row.of_own hown2⟩)
  have HB2 := Lib.hid hb2
  have HG2 := Lib.hid (HG1.out.below hb2)
  have HPl := Lib.hid (plays_any A2 l.length c2 l w2 HE.out HP.out HG2.out)
  clear hl hown2 hc2 hb2
  go_wp2_with fail
  refine HPl.out.mono ?_
  rintro o w3 ⟨⟨v3, R, rfl, hs3, hr3, hm3⟩, hb3⟩
  have HB3 := Lib.hid hb3
  have HAx := Lib.hid (axioms_any A2 l.length c2 l w3 (HE.out.sees (Below.sees hb3)) HP.out)
  have hne : 0 < R.length := by
    obtain ⟨xs, z, hp⟩ := some_outcome HP.out
    exact List.length_pos_of_mem ((hm3 z).2 ⟨xs, hp⟩)
  obtain ⟨A3, c3, rfl⟩ : ∃ A c, v3 = .slice A R.length c := by
    obtain ⟨cs, h1, _⟩ := hs3
    obtain ⟨A3, c3, h, _⟩ := own_slice h1
    exact ⟨A3, c3, h⟩
  have HS3 := Lib.hid hs3
  have HR3 := Lib.hid (And.intro hr3 hm3)
  have HNe := Lib.hid hne
  clear hs3 hr3 hm3 hb3 hne
  go_wp2_with fail
  refine HAx.out.mono ?_
  rintro o w4 ⟨⟨v4, R4', rfl, hs4, hr4, hm4⟩, hb4⟩
  obtain rfl : R4' = R := rising_ext hr4 HR3.out.1 fun z => (hm4 z).trans ((same_outs HP.out z).symm.trans (HR3.out.2 z).symm)
  obtain ⟨R, hR⟩ : ∃ X, X = R4' := ⟨_, rfl⟩
  subst hR
  obtain ⟨N, hN⟩ : ∃ N, N = R.length := ⟨_, rfl⟩
  have hNe := HNe.out
  rw [← hN] at hNe
  have h3 : ∃ g3, A3 = some ⟨g3, 0, none⟩ := by
    obtain ⟨cs, h1, _⟩ := HS3.out
    rcases own_forms h1 with ⟨_, h0⟩ | ⟨g, cg, hv, _⟩
    · omega
    · injection hv with hv _ _
      exact ⟨g, hv⟩
  obtain ⟨g3, rfl⟩ := h3
  have hN63 : N ≤ 9223372036854775807 := by
    obtain ⟨cs, h1, _⟩ := HS3.out
    obtain ⟨_, _, _, h5, h6⟩ := own_slice h1
    unfold maxLen at h6
    omega
  have HZs := Lib.hid (show ∀ z ∈ R, z.length ≤ 6 from fun z hz => by
    obtain ⟨xs, hp⟩ := (HR3.out.2 z).1 hz
    have h5 := playP_len hp
    have h6 := HP.out.few
    omega)
  have h4 : ∃ g4 c4, v4 = .slice (some ⟨g4, 0, none⟩) R.length c4 := by
    obtain ⟨cs, h1, _⟩ := hs4
    rcases own_forms h1 with ⟨_, h0⟩ | ⟨g, cg, hv, _⟩
    · omega
    · exact ⟨g, cg, hv⟩
  obtain ⟨g4, c4, rfl⟩ := h4
  have HA := Lib.hid (HS3.out.below hb4)
  have HBb := Lib.hid hs4
  have HW := Lib.hid (show Below w.heap.size w w4 from bT HB1.out (bT HB2.out (bT HB3.out hb4)))
  have hN0 : ((N : Int) == 0) = false := by simp; omega
  have hN0' : decide ((N : Int) = 0) = false := by simp; omega
  rw [← hN]
  have HNs := Lib.hid hN
  have hN1 : ((N : Int) != (N : Int)) = false := by simp
  clear hs4 hr4 hm4 hb4 HS3 HR3 HNe HAx HPl hNe hN
  go_wp2_with fail
  go_loopw [7, 8] (fun vi vk wr => ∃ i : Nat, i ≤ N ∧ vi = .int .i64 i ∧ Below w4.heap.size w4 wr) (fun vi _ _ => N - (intOf vi).toNat)
  case atStart => exact ⟨0, by omega, rfl, bR w4⟩
  case round =>
    obtain ⟨i, hi, rfl, hbw⟩ := hrel
    obtain ⟨wo, rfl⟩ : ∃ x, x = wr := ⟨wr, rfl⟩
    have HBW := Lib.hid hbw
    clear hbw
    by_cases hlt : i < N
    · have hlb : decide ((i : Int) < (N : Int)) = true := by simp; omega
      have hin : (i : Int) < (N : Int) := by omega
      have hi0 : decide ((i : Int) < 0) = false := by simp
      obtain ⟨z, B1, d1, hz, hc1, _, hr1⟩ := ss_at (HA.out.below HBW.out) (i := i) (by have := HNs.out; omega)
      obtain ⟨z', B2, d2, hz', hc2, _, hr2⟩ := ss_at (HBb.out.below HBW.out) (i := i) (by have := HNs.out; omega)
      obtain rfl : z = z' := Option.some.inj (hz.symm.trans hz')
      obtain ⟨m, hm⟩ : ∃ m, m = z.length := ⟨_, rfl⟩
      have HM := Lib.hid hm
      rw [← hm] at hc1 hc2
      have HZ1 := Lib.hid hr1
      have HZ2 := Lib.hid hr2
      have hmm : ((m : Int) != (m : Int)) = false := by simp
      have HC := Lib.hid (And.intro hc1 hc2)
      have hm6 : m ≤ 6 := by rw [hm]; exact HZs.out z (List.mem_of_getElem? hz)
      clear hz hz' hr1 hr2 hm
      go_upto_region 10 with fail
      go_quiet (fail)
      obtain ⟨WA, hWA⟩ : ∃ X, X = wo.drewN nq := ⟨_, rfl⟩
      rw [← hWA]
      have HBA := Lib.hid (show Below wo.heap.size wo WA from hWA ▸ bN (bR wo))
      clear hWA hc1 hc2
      go_wp2_with fail
      go_loopw [8] (fun vk wq => ∃ k : Nat, k ≤ m ∧ vk = .int .i64 k ∧ Below wo.heap.size wo wq) (fun vk _ => m - (intOf vk).toNat)
      case atStart => exact ⟨0, by omega, rfl, HBA.out⟩
      case round =>
        obtain ⟨k, hk, rfl, hbq⟩ := hrel
        obtain ⟨wi, rfl⟩ : ∃ x, x = wr := ⟨wr, rfl⟩
        have HBQ := Lib.hid hbq
        have hc1 := (hbq.cell (cell_lt HC.out.1)).trans HC.out.1
        have hc2 := (hbq.cell (cell_lt HC.out.2)).trans HC.out.2
        clear hbq
        by_cases hkt : k < m
        · have hkb : decide ((k : Int) < (m : Int)) = true := by simp; omega
          have hkn : (k : Int) < (m : Int) := by omega
          have hk0 : decide ((k : Int) < 0) = false := by simp
          obtain ⟨e1, o1, x1, hB1, hx1, hd1⟩ := row_int (HZ1.out.below HBQ.out) (k := k) (by have := HM.out; omega)
          obtain ⟨e2, o2, x2, hB2, hx2, hd2⟩ := row_int (HZ2.out.below HBQ.out) (k := k) (by have := HM.out; omega)
          obtain rfl : x1 = x2 := Option.some.inj (hx1.symm.trans hx2)
          subst hB1
          subst hB2
          have hxx : (x1 != x1) = false := by simp
          clear hx1 hx2
          go_upto_region 15 with fail
          go_quiet (fail)
          obtain ⟨WE, hWE⟩ : ∃ X, X = wi.drewN nq := ⟨_, rfl⟩
          rw [← hWE]
          have HBE := Lib.hid (show Below wi.heap.size wi WE from hWE ▸ bN (bR wi))
          clear hWE hc1 hc2 hd1 hd2
          go_wp2_with fail
          go_roundw
          case rel => exact ⟨k + 1, by omega, by go_num, bT HBQ.out HBE.out⟩
          case measure => simp [intOf]; omega
        · have hkb : decide ((k : Int) < (m : Int)) = false := by simp; omega
          go_wp2_with fail
          go_roundw
          case rel => exact ⟨i + 1, by omega, by go_num, bT HBW.out HBQ.out⟩
          case measure => simp [intOf]; omega
    · have hlb : decide ((i : Int) < (N : Int)) = false := by simp; omega
      go_wp2_with fail
      go_ret
      exact ⟨rfl, bT HW.out HBW.out⟩
end Go.Proofs.YtnigadeohmlpiaaGreatDoor

namespace Go.Proofs.YtnigadeohmlpiaaGreatDoor.litmusSame
open Go.ChangeShapes Go.WideShapes Go.ChangeAt Go.RowKit

set_option maxRecDepth 100000 in
theorem contract (H : Type) (enc : TypeId × Value → H) (W : World) (base : Nat) (args : Array Value) (ds gs : List (DataW H)) (before : List MemPlace)
    (hval : ∀ (j : Nat) t v, Tryz.f4.params[j]? = some t → args[j]? = some v → Value.okWide Tryz.prog W .any base t v)
    (hW : DataW.Whole enc Tryz.prog Tryz.f4.params.toList Rows.litmusSameSpec.vars false W args.toList ds gs before) (hL : laidMetH Tryz.prog Rows.litmusTellsRow.laid W) (_hS : W.ShapedOpen Tryz.prog) :
    Calls Tryz.prog 4 args W fun e W' => ∃ v, e = .returned v ∧ Rows.litmusSameSpec.post enc Tryz.prog Tryz.f4 false true false false W args v W' := by
  have hW' := hW
  have hlt : ∀ p ∈ before, p.block < W.heap.size := fun p hp => hW.lt p hp
  obtain ⟨p, q, hA0, hV, rfl, hfz, hnd⟩ := hW
  have hA : DataW.TrodAll enc Tryz.prog W 0 (fun _ => true) true Tryz.f4.params.toList args.toList ds p := hA0

  rw [Tryz.params4] at hA hval
  obtain ⟨v0, vs0, d0, ds0, p0, q0, hargs, rfl, rfl, h0, r0⟩ := trodAll_cons hA
  obtain ⟨rfl, rfl, rfl⟩ := trodAll_nil r0
  obtain rfl : args = #[v0] := by cases args; simp_all
  obtain ⟨rfl, rfl⟩ := trodVars_none hV
  obtain ⟨A0, n0, c0, L0, rfl, hi0, hn0⟩ := raw_in (hval 0 23 v0 rfl rfl) h0
  clear hA0
  refine (same4_any A0 n0 c0 L0 W hi0 hn0 (glob_laid hL)).mono fun e W' ⟨he, hb⟩ => ?_
  subst he
  exact ⟨_, rfl, post_of_below (pv := []) hW' (fun _ _ _ => trodAll_cons_mk (shut_bool Tryz.underlying4 _) trodAll_mk0) (fun sp hsp => trodAll_cons_mk (keeps_in (by kernel_rfl) (of_decide_eq_true (by kernel_rfl)) h0 hb (fun x hx => hlt x (by simp [hx])) sp (fun x hx => hsp x (by simp [hx]))) trodAll_mk0) (fun _ _ => rfl) rfl hb (ok_one (by kernel_rfl) rfl (okWide_bool_mk Tryz.underlying4 _))⟩

theorem reads (os : Os) {H : Type} (enc : TypeId × Value → H) : ∃ places, DataW.whole enc Tryz.prog ((laidWorld os).forCall (fun _ _ => 0) ⟨#[], #[.slice none 0 0], []⟩).memory Tryz.f4.params.toList Rows.litmusSameSpec.vars false (#[.slice none 0 0] : Array Value).toList 8 = some ([.nil], [], places) :=
  ⟨[], by kernel_rfl⟩

set_option maxRecDepth 100000 in
theorem lifted (os : Os) (started : os.Started) (H : Type) (enc : TypeId × Value → H) (F : Stop.Interp) :
    ReturnsInHanded {} Tryz.checked os 4 .any ((OpenSpec.ofChange Rows.litmusSameSpec).preRow enc Tryz.prog Tryz.f4 Rows.litmusSameRow.domain false Rows.litmusSameRow.laid) (((OpenSpec.ofChange Rows.litmusSameSpec).at F).post enc Tryz.prog Tryz.f4 false true false false) := by
  obtain ⟨places, hx⟩ := reads os enc
  refine returnsInHanded_of_row (C := Tryz.checked) (s := OpenSpec.ofChange Rows.litmusSameSpec) own started (by kernel_rfl) Tryz.func4
    (witness_row_atRef (enc := enc) (C := Tryz.checked) false (laidWorld os) #[.slice none 0 0] rfl (by kernel_rfl) (by kernel_rfl) (by kernel_rfl)
      (OpenSpec.preRow_of_cond 8 hx (by kernel_rfl) (fun k hk => by cases hk) (by kernel_rfl) (laid_met os _))) ?_
  intro W base args ds gs before hval hW _ _ _ hL hS _
  exact contract H enc W base args ds gs before hval hW hL hS

theorem said : Rows.LitmusSameSaid :=
  OpenClaim.holds_of_cond 4 Tryz.f4 rfl rfl rfl rfl rfl rfl rfl ⟨rfl, rfl, rfl, rfl, rfl⟩ rfl rfl rfl rfl rfl (by kernel_rfl) Tryz.func4 (by kernel_rfl)
    (of_decide_eq_true (by kernel_rfl)) (by unfold Func.isWrapper; first | (rw [if_pos (by decide +kernel)]; kernel_rfl) | (rw [if_neg (by decide +kernel)]; exact ⟨rfl, rfl⟩))
    (fun os started H enc _ F => by rw [OpenClaim.pre_eq_preRow]; exact lifted os started H enc F)

theorem plain (f : FuncId) (fn : Func) (hf : Tryz.pinned.checked.prog.funcNamed "headstock/headstocklaw13.LitmusSame" = some f) (hfn : Tryz.pinned.checked.prog.funcs[f]? = some fn) :
    false = Tryz.pinned.checked.prog.looks [] ∧ ∀ (j : Nat) t, fn.params[j]? = some t → Tryz.pinned.checked.prog.wantsStandIn t = false := by
  obtain rfl : f = 4 := Option.some.inj ((show Tryz.prog.funcNamed "headstock/headstocklaw13.LitmusSame" = some 4 by kernel_rfl).symm.trans hf) |>.symm
  obtain rfl : fn = Tryz.f4 := (Option.some.inj (Tryz.func4.symm.trans hfn)).symm
  refine ⟨by kernel_rfl, fun j t ht => ?_⟩
  have : ∀ t ∈ Tryz.f4.params, Tryz.prog.wantsStandIn t = false := by
    rw [Tryz.params4]
    intro t ht
    simp only [List.mem_toArray, List.mem_cons, List.not_mem_nil, or_false] at ht
    subst ht
    all_goals kernel_rfl
  exact this t (Array.mem_of_getElem? ht)

/-- the card -/
theorem card : Rows.LitmusSameCardSaid :=
  Claim7.holds_tied_plain_at .later [] _ _ _ _ said (fun _ h => by cases h) (by kernel_rfl) (fun _ h => by cases h) litmusSame_row_tie rfl ⟨rfl, rfl⟩ (by kernel_rfl) rfl plain (by kernel_rfl)
end Go.Proofs.YtnigadeohmlpiaaGreatDoor.litmusSame
