/- The statement ImageTells, for every input: no condition of ours. -/
import Derived.Test.YtgajlhejefjhhaaGreatDoorT63
import Derived.Test.YtgajlhejefjhhaaGreatDoorT42
import Derived.OpenShut
import Derived.SizedLaws
namespace Go.Proofs.YtgajlhejefjhhaaGreatDoor.imageTells
open Go.ChangeShapes Go.WideShapes Go.ChangeAt Go.RowKit

set_option maxRecDepth 100000 in
theorem img_cap {H : Type} {enc : TypeId × Value → H} {W : World} {base : Nat} {A1 : Option Addr} {n1 c1 : Nat} {mem : Int} {A2 : Option Addr} {n2 c2 : Nat} {d : DataW H} {p : List MemPlace} (hv : Value.okWide Tryz.prog W .any base 25 (.agg #[.slice A1 n1 c1, .int .i64 mem, .slice A2 n2 c2]))
    (h : DataW.Trod enc Tryz.prog W 0 (fun _ => true) true 25 (.agg #[.slice A1 n1 c1, .int .i64 mem, .slice A2 n2 c2]) d p) : n1 ≤ c1 := by
  obtain ⟨v0, v1, v2, y0, y1, y2, n, e, _, _, g0, _, _⟩ := Joins.open_agg3 Tryz.underlying25 (by kernel_rfl) cells25 hv h
  have e' : #[Value.slice A1 n1 c1, .int .i64 mem, .slice A2 n2 c2] = #[v0, v1, v2] := by injection e
  obtain rfl : v0 = .slice A1 n1 c1 := by
    have := congrArg (fun l : Array Value => l[0]?) e'
    simpa using this.symm
  rcases open_ints Tryz.underlying22 Tryz.underlying3 cells3' g0 with ⟨e, _⟩ | ⟨a, len, cap, zs, e, _, hl, _⟩
  · simp at e
    omega
  · simp at e
    omega

set_option maxRecDepth 100000 in
theorem contract (H : Type) (enc : TypeId × Value → H) (W : World) (base : Nat) (args : Array Value) (ds gs : List (DataW H)) (before : List MemPlace)
    (hval : ∀ (j : Nat) t v, Tryz.f3.params[j]? = some t → args[j]? = some v → Value.okWide Tryz.prog W .any base t v)
    (hW : DataW.Whole enc Tryz.prog Tryz.f3.params.toList Rows.imageTellsSpec.vars false W args.toList ds gs before) (hL : laidMetH Tryz.prog Rows.imageTellsRow.laid W) (hS : W.ShapedOpen Tryz.prog) (hz : (DataW.weightsEach Tryz.prog (Tryz.f3.params.toList ++ (OpenSpec.ofChange Rows.imageTellsSpec).bare.plain.varTypes Tryz.prog) (ds ++ gs)).all (· ≤ reachBytes) = true) :
    Calls Tryz.prog 3 args W fun e W' => ∃ v, e = .returned v ∧ Rows.imageTellsSpec.post enc Tryz.prog Tryz.f3 false true false false W args v W' := by
  have hW' := hW
  have hlt : ∀ p ∈ before, p.block < W.heap.size := fun p hp => hW.lt p hp
  obtain ⟨p, q, hA0, hV, rfl, hfz, hnd⟩ := hW
  have hA : DataW.TrodAll enc Tryz.prog W 0 (fun _ => true) true Tryz.f3.params.toList args.toList ds p := hA0

  rw [Tryz.params3] at hA hval
  obtain ⟨v0, vs0, d0, ds0, p0, q0, hargs, rfl, rfl, h0, r0⟩ := trodAll_cons hA
  obtain ⟨v1, vs1, d1, ds1, p1, q1, rfl, rfl, rfl, h1, r1⟩ := trodAll_cons r0
  obtain ⟨v2, vs2, d2, ds2, p2, q2, rfl, rfl, rfl, h2, r2⟩ := trodAll_cons r1
  obtain ⟨v3, vs3, d3, ds3, p3, q3, rfl, rfl, rfl, h3, r3⟩ := trodAll_cons r2
  obtain ⟨v4, vs4, d4, ds4, p4, q4, rfl, rfl, rfl, h4, r4⟩ := trodAll_cons r3
  obtain ⟨v5, vs5, d5, ds5, p5, q5, rfl, rfl, rfl, h5, r5⟩ := trodAll_cons r4
  obtain ⟨rfl, rfl, rfl⟩ := trodAll_nil r5
  obtain rfl : args = #[v0, v1, v2, v3, v4, v5] := by cases args; simp_all
  obtain ⟨rfl, rfl⟩ := trodVars_none hV
  obtain ⟨A0, n0, c0, B0, m0, e0, x0, rfl, hi0⟩ := img_in (hval 0 25 v0 rfl rfl) h0
  obtain ⟨A1, n1, c1, B1, m1, e1, x1, rfl, hi1⟩ := img_in (hval 1 25 v1 rfl rfl) h1
  obtain ⟨x2, rfl, rfl, rfl, wx2⟩ := ChangeMaps.open_string Tryz.underlying9 (hval 2 9 v2 rfl rfl) h2
  obtain ⟨x3, rfl, rfl, rfl, wx3⟩ := open_int Tryz.underlying3 (hval 3 3 v3 rfl rfl) h3
  have b3 := bounds_i64 wx3
  obtain ⟨x4, rfl, rfl, rfl, wx4⟩ := ChangeMaps.open_string Tryz.underlying9 (hval 4 9 v4 rfl rfl) h4
  obtain ⟨x5, rfl, rfl, rfl, wx5⟩ := ChangeMaps.open_string Tryz.underlying9 (hval 5 9 v5 rfl rfl) h5
  clear hA0
  refine (tells_any A0 n0 c0 B0 m0 e0 x0 A1 n1 c1 B1 m1 e1 x1 x2.data.toList x3 x4.data.toList x5.data.toList W hi0 (img_cap (hval 0 25 _ rfl rfl) h0) hi1 (by have := sized_string (j := 2) (t := 9) (bytes := x2.data.toList) hz (by rw [Tryz.params3]; rfl) rfl; have h47 := reachBytes_lt; omega) b3.1 b3.2 (by have := sized_string (j := 4) (t := 9) (bytes := x4.data.toList) hz (by rw [Tryz.params3]; rfl) rfl; have h47 := reachBytes_lt; omega) (glob_laid hL hS)).mono fun e W' ⟨he, hb⟩ => ?_
  subst he
  exact ⟨_, rfl, post_of_below (pv := []) hW' (fun _ _ _ => trodAll_cons_mk (shut_bool Tryz.underlying4 _) trodAll_mk0) (fun sp hsp => trodAll_cons_mk (keeps_in (by kernel_rfl) (of_decide_eq_true (by kernel_rfl)) h0 hb (fun x hx => hlt x (by simp [hx])) sp (fun x hx => hsp x (by simp [hx]))) (trodAll_cons_mk (keeps_in (by kernel_rfl) (of_decide_eq_true (by kernel_rfl)) h1 hb (fun x hx => hlt x (by simp [hx])) sp (fun x hx => hsp x (by simp [hx]))) (trodAll_cons_mk (ChangeMaps.shut_string Tryz.underlying9 wx2) (trodAll_cons_mk (shut_int Tryz.underlying3 wx3) (trodAll_cons_mk (ChangeMaps.shut_string Tryz.underlying9 wx4) (trodAll_cons_mk (ChangeMaps.shut_string Tryz.underlying9 wx5) trodAll_mk0)))))) (fun _ _ => rfl) rfl hb (ok_one (by kernel_rfl) rfl (okWide_bool_mk Tryz.underlying4 _))⟩

theorem reads (os : Os) {H : Type} (enc : TypeId × Value → H) : ∃ places, DataW.whole enc Tryz.prog ((laidWorld os).forCall (fun _ _ => 0) ⟨#[], #[imgZ, imgZ, .string ⟨#[]⟩, .int .i64 0, .string ⟨#[]⟩, .string ⟨#[]⟩], []⟩).memory Tryz.f3.params.toList Rows.imageTellsSpec.vars false (#[imgZ, imgZ, .string ⟨#[]⟩, .int .i64 0, .string ⟨#[]⟩, .string ⟨#[]⟩] : Array Value).toList 8 = some ([.agg [.nil, .lit (.int .i64 0), .nil], .agg [.nil, .lit (.int .i64 0), .nil], .lit (.string []), .lit (.int .i64 0), .lit (.string []), .lit (.string [])], [], places) :=
  ⟨[], by kernel_rfl⟩

set_option maxRecDepth 100000 in
theorem lifted (os : Os) (started : os.Started) (H : Type) (enc : TypeId × Value → H) (F : Stop.Interp) :
    ReturnsInHanded {} Tryz.checked os 3 .any ((OpenSpec.ofChange Rows.imageTellsSpec).preRow enc Tryz.prog Tryz.f3 Rows.imageTellsRow.domain false Rows.imageTellsRow.laid) (((OpenSpec.ofChange Rows.imageTellsSpec).at F).post enc Tryz.prog Tryz.f3 false true false false) := by
  obtain ⟨places, hx⟩ := reads os enc
  refine returnsInHanded_of_row (C := Tryz.checked) (s := OpenSpec.ofChange Rows.imageTellsSpec) own started (by kernel_rfl) Tryz.func3
    (witness_row_atRef (enc := enc) (C := Tryz.checked) false (laidWorld os) #[imgZ, imgZ, .string ⟨#[]⟩, .int .i64 0, .string ⟨#[]⟩, .string ⟨#[]⟩] rfl (by kernel_rfl) (by kernel_rfl) (by kernel_rfl)
      (OpenSpec.preRow_of_cond 8 hx (by kernel_rfl) (fun k hk => by cases hk) (by kernel_rfl) (laid_met os _))) ?_
  intro W base args ds gs before hval hW _ _ hz hL hS _
  exact contract H enc W base args ds gs before hval hW hL hS hz

theorem said : Rows.ImageTellsSaid :=
  OpenClaim.holds_of_cond 3 Tryz.f3 rfl rfl rfl rfl rfl rfl rfl ⟨rfl, rfl, rfl, rfl, rfl⟩ rfl rfl rfl rfl rfl (by kernel_rfl) Tryz.func3 (by kernel_rfl)
    (of_decide_eq_true (by kernel_rfl)) (by unfold Func.isWrapper; first | (rw [if_pos (by decide +kernel)]; kernel_rfl) | (rw [if_neg (by decide +kernel)]; exact ⟨rfl, rfl⟩))
    (fun os started H enc _ F => by rw [OpenClaim.pre_eq_preRow]; exact lifted os started H enc F)

theorem plain (f : FuncId) (fn : Func) (hf : Tryz.pinned.checked.prog.funcNamed "headstock/headstocklaw04.ImageTells" = some f) (hfn : Tryz.pinned.checked.prog.funcs[f]? = some fn) :
    true = Tryz.pinned.checked.prog.looks [] ∧ ∀ (j : Nat) t, fn.params[j]? = some t → Tryz.pinned.checked.prog.wantsStandIn t = false := by
  obtain rfl : f = 3 := Option.some.inj ((show Tryz.prog.funcNamed "headstock/headstocklaw04.ImageTells" = some 3 by kernel_rfl).symm.trans hf) |>.symm
  obtain rfl : fn = Tryz.f3 := (Option.some.inj (Tryz.func3.symm.trans hfn)).symm
  refine ⟨by kernel_rfl, fun j t ht => ?_⟩
  have : ∀ t ∈ Tryz.f3.params, Tryz.prog.wantsStandIn t = false := by
    rw [Tryz.params3]
    intro t ht
    simp only [List.mem_toArray, List.mem_cons, List.not_mem_nil, or_false] at ht
    rcases ht with rfl | rfl | rfl | rfl | rfl | rfl
    all_goals kernel_rfl
  exact this t (Array.mem_of_getElem? ht)

/-- the card -/
theorem card : Rows.ImageTellsCardSaid :=
  Claim7.holds_tied_plain_at .later [] _ _ _ _ said (fun _ h => by cases h) (by kernel_rfl) (fun _ h => by cases h) imageTells_row_tie rfl ⟨rfl, rfl⟩ (by kernel_rfl) rfl plain (by kernel_rfl)
end Go.Proofs.YtgajlhejefjhhaaGreatDoor.imageTells
