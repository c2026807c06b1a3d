/- Contracts and words: a region that draws its order, where what is told of it may speak of the frame; The walk of the statement LitmusSame; the document's comparison of outcomes, and whether rows of outcomes are the same. No condition of ours. -/
import Derived.Test.YtnigadeohmlpiaaGreatDoorC02
import Derived.Test.YtnigadeohmlpiaaGreatDoorC29
namespace Go.Proofs.YtnigadeohmlpiaaGreatDoor

section
variable {P : Program} {ops : Array Oper} {Q : Exit → Act → World → Prop}
/-- what an operation of the region does, from a frame in which the operations that it waits for have left what is told of them; l tells which are done -/
def StepOff (P : Program) (ops : Array Oper) (Q : Exit → Act → World → Prop) (frame : (Nat → Value) → Act) (V : Nat → (Nat → Bool) → (Nat → Value) → World → Prop) (S : (Nat → Bool) → (Nat → Value) → World → Prop) (R : Nat → World → World → Prop) (i : Nat) : Prop :=
  ∀ f w (l : Nat → Bool), l i = false → (∀ j, i ∈ depsOf .any ops j → l j = false) → (∀ d ∈ depsOf .any ops i, l d = true) → S l f w → (∀ d ∈ depsOf .any ops i, V d l f w) →
    wpOp P ops Q i (fun a' w' => ∃ v, a' = frame (fun k => if k = i then v else f k) ∧ V i (fun k => decide (k = i) || l k) (fun k => if k = i then v else f k) w' ∧ S (fun k => decide (k = i) || l k) (fun k => if k = i then v else f k) w' ∧ R i w w') (frame f) w

/-- the law -/
theorem wp_region_detf {id : Nat} {a : Act} {w : World} (hm : P.follows .mixedOrders = true) (frame : (Nat → Value) → Act) (V : Nat → (Nat → Bool) → (Nat → Value) → World → Prop) (S : (Nat → Bool) → (Nat → Value) → World → Prop) (R : Nat → World → World → Prop)
    (hlow : depsLow .any ops = true) (f0 : Nat → Value) (ha : a = frame f0) (hV : ∀ i j, i ≠ j → i ∉ depsOf .any ops j → ∀ (l : Nat → Bool) f f' w w', (∀ k, k ≠ i → f' k = f k) → R i w w' → V j l f w → V j (fun k => decide (k = i) || l k) f' w') (hS : S (fun _ => false) f0 w.drew)
    (hstep : ∀ i, i < ops.size → StepOff P ops Q frame V S R i)
    (hend : ∀ f w l, (∀ i, i < ops.size → l i = true) → (∀ i, i < ops.size → V i l f w) → S l f w → Q .normal (frame f) w) : (Code.region id ops true).wp P Q a w := by
  refine wp_region_inv hm (fun listed a w => ∃ f, a = frame f ∧ (∀ i, i < ops.size → listed.getD i false = true → V i (fun k => listed.getD k false) f w ∧ ∀ d ∈ depsOf .any ops i, listed.getD d false = true) ∧ S (fun k => listed.getD k false) f w) hlow ⟨f0, ha, fun i hi h => ?_, ?_⟩ ?_ ?_
  · rw [Array.getD_eq_getD_getElem?] at h
    simp [hi] at h
  · have : (fun k => (Array.replicate ops.size false).getD k false) = fun _ => false := by
      funext k
      simp only [Array.getD_eq_getD_getElem?, Array.getElem?_replicate]
      split <;> rfl
    rw [this]
    exact hS
  · rintro i hi listed a w hs ⟨f, rfl, hf, hSw⟩ hun hdeps
    refine wpOp_mono ?_ (hstep i hi f w _ hun (fun j hj => ?_) hdeps hSw fun d hd => (hf d ?_ (hdeps d hd)).1)
    · rintro a' w' ⟨v, rfl, hv, hS', hR⟩
      refine ⟨_, rfl, fun j hj hl => ?_, ?_⟩
      · by_cases e : j = i
        · subst e
          rw [set_fun (by omega)]
          exact ⟨hv, fun d hd => gs_mono (hdeps d hd)⟩
        · rw [gs_ne (fun h => e h.symm)] at hl
          obtain ⟨h1, h2⟩ := hf j hj hl
          rw [set_fun (by omega)]
          refine ⟨hV i j (fun h => e h.symm) (fun hd => ?_) _ f _ _ _ (fun k hk => by simp [hk]) hR h1, fun d hd => gs_mono (h2 d hd)⟩
          have := h2 i hd
          rw [hun] at this
          cases this
      · rw [set_fun (by omega)]
        exact hS'
    · show listed.getD j false = false
      by_cases hj' : j < ops.size
      · cases hl : listed.getD j false
        · rfl
        · have := (hf j hj' hl).2 i hj
          rw [hun] at this
          cases this
      · simp [Array.getD_eq_getD_getElem?, Array.getElem?_eq_none (show listed.size ≤ j by omega)]
    · have := List.all_eq_true.1 (List.all_eq_true.1 hlow i (List.mem_range.2 hi)) d hd
      have hdi : d < i := by simpa using this
      omega
  · rintro listed a w hs hall ⟨f, rfl, hf, hSw⟩
    exact hend f w _ hall (fun i hi => (hf i hi (hall i hi)).1) hSw

/-- all steps of a list -/
def StepsOff (P : Program) (ops : Array Oper) (Q : Exit → Act → World → Prop) (frame : (Nat → Value) → Act) (V : Nat → (Nat → Bool) → (Nat → Value) → World → Prop) (S : (Nat → Bool) → (Nat → Value) → World → Prop) (R : Nat → World → World → Prop) : Nat → Nat → Prop
  | _, 0 => True
  | k, n + 1 => StepOff P ops Q frame V S R k ∧ StepsOff P ops Q frame V S R (k + 1) n
theorem stepsOff_at {frame : (Nat → Value) → Act} {V : Nat → (Nat → Bool) → (Nat → Value) → World → Prop} {S : (Nat → Bool) → (Nat → Value) → World → Prop} {R : Nat → World → World → Prop} : ∀ {n k : Nat}, StepsOff P ops Q frame V S R k n → ∀ i, k ≤ i → i < k + n → StepOff P ops Q frame V S R i
  | 0, k, _, i, h1, h2 => by omega
  | n + 1, k, h, i, h1, h2 => by
    by_cases e : i = k
    · subst e
      exact h.1
    · exact stepsOff_at h.2 i (by omega) (by omega)

/-- all steps, one by one -/
theorem stepsOff_cons {frame : (Nat → Value) → Act} {V : Nat → (Nat → Bool) → (Nat → Value) → World → Prop} {S : (Nat → Bool) → (Nat → Value) → World → Prop} {R : Nat → World → World → Prop} {k n : Nat} (h1 : StepOff P ops Q frame V S R k) (h2 : StepsOff P ops Q frame V S R (k + 1) n) : StepsOff P ops Q frame V S R k (n + 1) := ⟨h1, h2⟩

/-- one step, for the walk -/
theorem stepOff_run {frame : (Nat → Value) → Act} {V : Nat → (Nat → Bool) → (Nat → Value) → World → Prop} {S : (Nat → Bool) → (Nat → Value) → World → Prop} {R : Nat → World → World → Prop} {i : Nat} {o : Oper} (ho : ops[i]? = some o) (ds : List Nat) (hds : (ds.all fun d => (depsOf .any ops i).contains d) = true)
    (hput : ∀ f v, (frame f).put o.dst v = frame (fun k => if k = i then v else f k))
    (h : ∀ f w (l : Nat → Bool), l i = false → (∀ j, i ∈ depsOf .any ops j → l j = false) → (∀ d ∈ depsOf .any ops i, l d = true) → S l f w → DepsOk V l f w ds → ∀ K' : Act → World → Prop, Shut (∀ v a' w', a' = (frame f).put o.dst v → V i (fun k => decide (k = i) || l k) (fun k => if k = i then v else f k) w' → S (fun k => decide (k = i) || l k) (fun k => if k = i then v else f k) w' → R i w w' → K' a' w') →
      if Region.wanted o (yielded ops (frame f).tmps) = true then Oper.wp P o (frame f) w K' Q else K' ((frame f).put o.dst undef) w) : StepOff P ops Q frame V S R i := by
  intro f w l hl hun hdn hS hd
  have hsub : ∀ d ∈ ds, V d l f w := fun d hdm => hd d (by simpa using List.all_eq_true.1 hds d hdm)
  refine wpOp_step ho (fun K' hK => h f w l hl hun hdn hS (depsOk_of hsub) K' (fun v a' w' ha hv hS' hR => hK _ _ ⟨v, ha.trans (hput f v), hv, hS', hR⟩))

end
end Go.Proofs.YtnigadeohmlpiaaGreatDoor

namespace Go.Proofs.YtnigadeohmlpiaaGreatDoor
open Go.RowKit
attribute [local go_sem] Oper.semAt_some

/-- an outcome of a row of outcomes, in memory -/
theorem ss_at {w : World} {base g c i : Nat} {R : List (List Int)} (h : SS w base (.slice (some ⟨g, 0, none⟩) R.length c) R) (hi : i < R.length) : ∃ z B d, R[i]? = some z ∧ w.cell? ⟨g, i, none⟩ = some (.slice B z.length d) ∧ z.length ≤ d ∧ Row w 3 1 B z.length (ints z) := by
  obtain ⟨cs, h1, h2, h3⟩ := h
  have hz : R[i]? = some R[i] := List.getElem?_eq_getElem hi
  obtain ⟨B, d, h4, h5, h6⟩ := h3 i _ hz
  refine ⟨_, B, d, hz, ?_, h5, h6⟩
  rw [h1.cellAt i (by omega)]
  exact h4
theorem ints_at {z : List Int} {k : Nat} {x : Int} (h : z[k]? = some x) : (ints z)[k]? = some (.int .i64 x) := by
  unfold ints
  rw [List.getElem?_map, h]
  rfl
theorem row_int {w : World} {B : Option Addr} {z : List Int} {k : Nat} (h : Row w 3 1 B z.length (ints z)) (hk : k < z.length) : ∃ b o x, B = some ⟨b, o, none⟩ ∧ z[k]? = some x ∧ w.cell? ⟨b, o + k, none⟩ = some (.int .i64 x) := by
  obtain ⟨b, o, hB, _, hc⟩ := h.rd.2 (by omega)
  have hz : z[k]? = some z[k] := List.getElem?_eq_getElem hk
  exact ⟨b, o, _, hB, hz, hc k _ (ints_at hz)⟩

set_option maxHeartbeats 8000000 in
set_option maxRecDepth 100000 in
theorem same4_any (A : Option Addr) (n c : Nat) (L : List R4) (w : World) (h : IsRaw w A n L) (hn : n ≤ 9223372036854775807) (hG : Glob w) :
    Calls Tryz.prog 4 #[.slice A n c] w fun o w' => o = .returned (.bool true) ∧ Below w.heap.size w w' := by
  have HR := Lib.hid h
  have HG := Lib.hid hG
  have HAw := Lib.hid (awake_any w hG)
  have HNn := Lib.hid hn
  clear h hG
  go_enter Tryz.func4, Tryz.ntmps4
  go_wp2_with fail
  refine HAw.out.mono ?_
  rintro o w1 ⟨rfl, hb1⟩
  have HB1 := Lib.hid hb1
  have HF := Lib.hid (fit11_any A n c L w1 (HR.out.below hb1) HNn.out)
  have HG1 := Lib.hid (HG.out.below hb1)
  clear hb1
  go_wp2_with fail
  refine HF.out.mono ?_
  rintro o w2 ⟨⟨A2, c2, rfl, hown2, hc2⟩, hb2⟩
  obtain ⟨l, hl⟩ : ∃ l, l = fitL L := ⟨_, rfl⟩
  rw [← hl] at hown2 hc2 ⊢
  have HP := Lib.hid (show Prog l from hl ▸ fitL_prog L)
  have HE := Lib.hid (show IsEvs w2 A2 l.length c2 l from ⟨rfl, hc2, Row.of_own hown2⟩)
  have HB2 := Lib.hid hb2
  have HG2 := Lib.hid (HG1.out.below hb2)
  have HPl := Lib.hid (plays_any A2 l.length c2 l w2 HE.out HP.out HG2.out)
  clear hl hown2 hc2 hb2
  go_wp2_with fail
  refine HPl.out.mono ?_
  rintro o w3 ⟨⟨v3, R, rfl, hs3, hr3, hm3⟩, hb3⟩
  have HB3 := Lib.hid hb3
  have HAx := Lib.hid (axioms_any A2 l.length c2 l w3 (HE.out.sees (Below.sees hb3)) HP.out)
  have hne : 0 < R.length := by
    obtain ⟨xs, z, hp⟩ := some_outcome HP.out
    exact List.length_pos_of_mem ((hm3 z).2 ⟨xs, hp⟩)
  obtain ⟨A3, c3, rfl⟩ : ∃ A c, v3 = .slice A R.length c := by
    obtain ⟨cs, h1, _⟩ := hs3
    obtain ⟨A3, c3, h, _⟩ := own_slice h1
    exact ⟨A3, c3, h⟩
  have HS3 := Lib.hid hs3
  have HR3 := Lib.hid (And.intro hr3 hm3)
  have HNe := Lib.hid hne
  clear hs3 hr3 hm3 hb3 hne
  go_wp2_with fail
  refine HAx.out.mono ?_
  rintro o w4 ⟨⟨v4, R4', rfl, hs4, hr4, hm4⟩, hb4⟩
  obtain rfl : R4' = R := rising_ext hr4 HR3.out.1 fun z => (hm4 z).trans ((same_outs HP.out z).symm.trans (HR3.out.2 z).symm)
  obtain ⟨R, hR⟩ : ∃ X, X = R4' := ⟨_, rfl⟩
  subst hR
  obtain ⟨N, hN⟩ : ∃ N, N = R.length := ⟨_, rfl⟩
  have hNe := HNe.out
  rw [← hN] at hNe
  have h3 : ∃ g3, A3 = some ⟨g3, 0, none⟩ := by
    obtain ⟨cs, h1, _⟩ := HS3.out
    rcases own_forms h1 with ⟨_, h0⟩ | ⟨g, cg, hv, _⟩
    · omega
    · injection hv with hv _ _
      exact ⟨g, hv⟩
  obtain ⟨g3, rfl⟩ := h3
  have hN63 : N ≤ 9223372036854775807 := by
    obtain ⟨cs, h1, _⟩ := HS3.out
    obtain ⟨_, _, _, h5, h6⟩ := own_slice h1
    unfold maxLen at h6
    omega
  have HZs := Lib.hid (show ∀ z ∈ R, z.length ≤ 6 from fun z hz => by
    obtain ⟨xs, hp⟩ := (HR3.out.2 z).1 hz
    have h5 := playP_len hp
    have h6 := HP.out.few
    omega)
  have h4 : ∃ g4 c4, v4 = .slice (some ⟨g4, 0, none⟩) R.length c4 := by
    obtain ⟨cs, h1, _⟩ := hs4
    rcases own_forms h1 with ⟨_, h0⟩ | ⟨g, cg, hv, _⟩
    · omega
    · exact ⟨g, cg, hv⟩
  obtain ⟨g4, c4, rfl⟩ := h4
  have HA := Lib.hid (HS3.out.below hb4)
  have HBb := Lib.hid hs4
  have HW := Lib.hid (show Below w.heap.size w w4 from bT HB1.out (bT HB2.out (bT HB3.out hb4)))
  have hN0 : ((N : Int) == 0) = false := by simp; omega
  have hN0' : decide ((N : Int) = 0) = false := by simp; omega
  rw [← hN]
  have HNs := Lib.hid hN
  have hN1 : ((N : Int) != (N : Int)) = false := by simp
  clear hs4 hr4 hm4 hb4 HS3 HR3 HNe HAx HPl hNe hN
  go_wp2_with fail
  go_loopw [7, 8] (fun vi vk wr => ∃ i : Nat, i ≤ N ∧ vi = .int .i64 i ∧ Below w4.heap.size w4 wr) (fun vi _ _ => N - (intOf vi).toNat)
  case atStart => exact ⟨0, by omega, rfl, bR w4⟩
  case round =>
    obtain ⟨i, hi, rfl, hbw⟩ := hrel
    obtain ⟨wo, rfl⟩ : ∃ x, x = wr := ⟨wr, rfl⟩
    have HBW := Lib.hid hbw
    clear hbw
    by_cases hlt : i < N
    · have hlb : decide ((i : Int) < (N : Int)) = true := by simp; omega
      have hin : (i : Int) < (N : Int) := by omega
      have hi0 : decide ((i : Int) < 0) = false := by simp
      obtain ⟨z, B1, d1, hz, hc1, _, hr1⟩ := ss_at (HA.out.below HBW.out) (i := i) (by have := HNs.out; omega)
      obtain ⟨z', B2, d2, hz', hc2, _, hr2⟩ := ss_at (HBb.out.below HBW.out) (i := i) (by have := HNs.out; omega)
      obtain rfl : z = z' := Option.some.inj (hz.symm.trans hz')
      obtain ⟨m, hm⟩ : ∃ m, m = z.length := ⟨_, rfl⟩
      have HM := Lib.hid hm
      rw [← hm] at hc1 hc2
      have HZ1 := Lib.hid hr1
      have HZ2 := Lib.hid hr2
      have hmm : ((m : Int) != (m : Int)) = false := by simp
      have HC := Lib.hid (And.intro hc1 hc2)
      have hm6 : m ≤ 6 := by rw [hm]; exact HZs.out z (List.mem_of_getElem? hz)
      clear hz hz' hr1 hr2 hm
      go_upto_region 10 with fail
      go_quiet (fail)
      obtain ⟨WA, hWA⟩ : ∃ X, X = wo.drewN nq := ⟨_, rfl⟩
      rw [← hWA]
      have HBA := Lib.hid (show Below wo.heap.size wo WA from hWA ▸ bN (bR wo))
      clear hWA hc1 hc2
      go_wp2_with fail
      go_loopw [8] (fun vk wq => ∃ k : Nat, k ≤ m ∧ vk = .int .i64 k ∧ Below wo.heap.size wo wq) (fun vk _ => m - (intOf vk).toNat)
      case atStart => exact ⟨0, by omega, rfl, HBA.out⟩
      case round =>
        obtain ⟨k, hk, rfl, hbq⟩ := hrel
        obtain ⟨wi, rfl⟩ : ∃ x, x = wr := ⟨wr, rfl⟩
        have HBQ := Lib.hid hbq
        have hc1 := (hbq.cell (cell_lt HC.out.1)).trans HC.out.1
        have hc2 := (hbq.cell (cell_lt HC.out.2)).trans HC.out.2
        clear hbq
        by_cases hkt : k < m
        · have hkb : decide ((k : Int) < (m : Int)) = true := by simp; omega
          have hkn : (k : Int) < (m : Int) := by omega
          have hk0 : decide ((k : Int) < 0) = false := by simp
          obtain ⟨e1, o1, x1, hB1, hx1, hd1⟩ := row_int (HZ1.out.below HBQ.out) (k := k) (by have := HM.out; omega)
          obtain ⟨e2, o2, x2, hB2, hx2, hd2⟩ := row_int (HZ2.out.below HBQ.out) (k := k) (by have := HM.out; omega)
          obtain rfl : x1 = x2 := Option.some.inj (hx1.symm.trans hx2)
          subst hB1
          subst hB2
          have hxx : (x1 != x1) = false := by simp
          clear hx1 hx2
          go_upto_region 15 with fail
          go_quiet (fail)
          obtain ⟨WE, hWE⟩ : ∃ X, X = wi.drewN nq := ⟨_, rfl⟩
          rw [← hWE]
          have HBE := Lib.hid (show Below wi.heap.size wi WE from hWE ▸ bN (bR wi))
          clear hWE hc1 hc2 hd1 hd2
          go_wp2_with fail
          go_roundw
          case rel => exact ⟨k + 1, by omega, by go_num, bT HBQ.out HBE.out⟩
          case measure => simp [intOf]; omega
        · have hkb : decide ((k : Int) < (m : Int)) = false := by simp; omega
          go_wp2_with fail
          go_roundw
          case rel => exact ⟨i + 1, by omega, by go_num, bT HBW.out HBQ.out⟩
          case measure => simp [intOf]; omega
    · have hlb : decide ((i : Int) < (N : Int)) = false := by simp; omega
      go_wp2_with fail
      go_ret
      exact ⟨rfl, bT HW.out HBW.out⟩
end Go.Proofs.YtnigadeohmlpiaaGreatDoor

namespace Go.Proofs.YtnigadeohmlpiaaGreatDoor
open Go.RowKit
attribute [local go_sem] Oper.semAt_some

/-- below 0, if the one is ahead -/
def cmpR : List Int → List Int → Int
  | x :: xs, y :: ys => if x = y then cmpR xs ys else if x < y then -1 else 1
  | xs, ys => (xs.length : Int) - ys.length
theorem cmpR_zero : ∀ {xs ys : List Int}, cmpR xs ys = 0 ↔ xs = ys
  | [], [] => by simp [cmpR]
  | [], y :: ys => by simp [cmpR] <;> omega
  | x :: xs, [] => by simp [cmpR] <;> omega
  | x :: xs, y :: ys => by
    rw [cmpR]
    by_cases h : x = y
    · rw [if_pos h, cmpR_zero, h]
      simp
    · rw [if_neg h]
      constructor
      · intro h1
        split at h1 <;> omega
      · intro h1
        injection h1 with h1
        exact absurd h1 h
theorem cmpR_bound : ∀ (xs ys : List Int), -(ys.length : Int) - 1 ≤ cmpR xs ys ∧ cmpR xs ys ≤ (xs.length : Int) + 1
  | [], ys => by simp [cmpR] <;> omega
  | x :: xs, [] => by simp [cmpR] <;> omega
  | x :: xs, y :: ys => by
    rw [cmpR]
    have := cmpR_bound xs ys
    simp only [List.length_cons]
    split
    · omega
    · split <;> omega
theorem cmpR_neg : ∀ {xs ys : List Int}, cmpR xs ys < 0 ↔ cmpL xs ys < 0
  | [], [] => by simp [cmpR, cmpL]
  | [], y :: ys => by simp [cmpR, cmpL] <;> omega
  | x :: xs, [] => by simp [cmpR, cmpL] <;> omega
  | x :: xs, y :: ys => by
    rw [cmpR, cmpL]
    have ih := @cmpR_neg xs ys
    by_cases h : x = y
    · subst h
      rw [if_pos rfl]
      rw [ih]
      simp
    · rw [if_neg h]
      unfold cmpZ
      by_cases h1 : x < y
      · simp [h, h1]
      · have h2 : y < x := by omega
        simp [h, h1, h2]

theorem cmpR_drop {xs ys : List Int} {k : Nat} {x y : Int} (hx : xs[k]? = some x) (hy : ys[k]? = some y) : cmpR (xs.drop k) (ys.drop k) = if x = y then cmpR (xs.drop (k + 1)) (ys.drop (k + 1)) else if x < y then -1 else 1 := by
  obtain ⟨h1, h2⟩ := List.getElem?_eq_some_iff.1 hx
  obtain ⟨h3, h4⟩ := List.getElem?_eq_some_iff.1 hy
  rw [List.drop_eq_getElem_cons h1, List.drop_eq_getElem_cons h3, h2, h4, cmpR]
theorem cmpR_end {xs ys : List Int} {k : Nat} (hk : k ≤ xs.length ∧ k ≤ ys.length) (h : xs.length = k ∨ ys.length = k) : cmpR (xs.drop k) (ys.drop k) = (xs.length : Int) - ys.length := by
  rcases h with h | h
  · rw [@List.drop_eq_nil_of_le _ xs k (by omega)]
    cases hd : ys.drop k with
    | nil =>
      have := congrArg List.length hd
      simp at this
      simp [cmpR]
      omega
    | cons y ys' =>
      have := congrArg List.length hd
      rw [List.length_drop] at this
      rw [cmpR]
      · simp
        simp at this
        omega
      · intro _ _ _ _ h; cases h
  · rw [@List.drop_eq_nil_of_le _ ys k (by omega)]
    cases hd : xs.drop k with
    | nil =>
      have := congrArg List.length hd
      simp at this
      simp [cmpR]
      omega
    | cons x xs' =>
      have := congrArg List.length hd
      rw [List.length_drop] at this
      rw [cmpR]
      · simp
        simp at this
        omega
      · intro _ _ _ _ _ h; cases h

set_option maxHeartbeats 4000000 in
set_option maxRecDepth 100000 in
theorem compare35_any (A B : Option Addr) (n m c d : Nat) (xs ys : List Int) (w : World) (hx : Rd w 1 A n (ints xs)) (hy : Rd w 1 B m (ints ys)) (hn : n ≤ 4611686018427387904) (hm : m ≤ 4611686018427387904) :
    Calls Tryz.prog 35 #[.slice A n c, .slice B m d] w fun o w' => o = .returned (.int .i64 (cmpR xs ys)) ∧ Below w.heap.size w w' := by
  have HX := Lib.hid hx
  have HY := Lib.hid hy
  have hxl : xs.length = n := by have := hx.1; simp [ints] at this; omega
  have hyl : ys.length = m := by have := hy.1; simp [ints] at this; omega
  have HXL := Lib.hid hxl
  have HYL := Lib.hid hyl
  clear hx hy hxl hyl
  go_enter Tryz.func35, Tryz.ntmps35
  go_wp2_with fail
  go_loopw [5] (fun vi wr => ∃ k : Nat, k ≤ n ∧ k ≤ m ∧ vi = .int .i64 k ∧ cmpR xs ys = cmpR (xs.drop k) (ys.drop k) ∧ Below w.heap.size w wr) (fun vi _ => n - (intOf vi).toNat)
  case atStart => exact ⟨0, Nat.zero_le _, Nat.zero_le _, rfl, rfl, bR w⟩
  case round =>
    obtain ⟨k, hk, hkm, rfl, hall, hbw⟩ := hrel
    obtain ⟨wo, rfl⟩ : ∃ x, x = wr := ⟨wr, rfl⟩
    have HA := Lib.hid hall
    have HBW := Lib.hid hbw
    clear hall hbw
    by_cases hlt : k < n
    · have hlb : decide ((k : Int) < (n : Int)) = true := by simp; omega
      by_cases hlm : k < m
      · have hlmb : decide ((k : Int) < (m : Int)) = true := by simp; omega
        obtain ⟨b1, o1, x, rfl, hxk, hc1⟩ := (HX.out.below HBW.out).int hlt
        obtain ⟨b2, o2, y, rfl, hyk, hc2⟩ := (HY.out.below HBW.out).int hlm
        have hkn : (k : Int) < (n : Int) := by omega
        have hkm' : (k : Int) < (m : Int) := by omega
        have hk0 : decide ((k : Int) < 0) = false := by simp
        have HD := Lib.hid (cmpR_drop hxk hyk)
        by_cases hxy : x = y
        · have HN := Lib.hid (HA.out.trans (HD.out.trans (if_pos hxy)))
          have hxn : (x != y) = false := by simp [hxy]
          clear hxk hyk hxy
          go_upto_region 4 with fail
          go_quiet (fail)
          obtain ⟨WA, hWA⟩ : ∃ X, X = wo.drewN nq := ⟨_, rfl⟩
          rw [← hWA]
          have kA : Below wo.heap.size wo WA := hWA ▸ bN (bR wo)
          have HKA := Lib.hid (bT HBW.out kA)
          replace hc1 := (kA.cell (cell_lt hc1)).trans hc1
          replace hc2 := (kA.cell (cell_lt hc2)).trans hc2
          clear hWA kA
          clear hc1 hc2
          go_wp2_with fail
          go_roundw
          case rel => exact ⟨k + 1, by omega, by omega, by go_num, HN.out, HKA.out⟩
          case measure => simp [intOf]; omega
        · have HN := Lib.hid (HA.out.trans (HD.out.trans (if_neg hxy)))
          have hxn : (x != y) = true := by simpa using hxy
          go_upto_region 4 with fail
          go_quiet (fail)
          obtain ⟨WA, hWA⟩ : ∃ X, X = wo.drewN nq := ⟨_, rfl⟩
          rw [← hWA]
          have kA : Below wo.heap.size wo WA := hWA ▸ bN (bR wo)
          have HKA := Lib.hid (bT HBW.out kA)
          replace hc1 := (kA.cell (cell_lt hc1)).trans hc1
          replace hc2 := (kA.cell (cell_lt hc2)).trans hc2
          clear hWA kA
          by_cases hl : x < y
          · have hlb2 : decide (x < y) = true := by simpa using hl
            rw [if_pos hl] at HN
            clear hxk hyk hxy hl
            go_upto_region 5 with fail
            go_quiet (fail)
            go_wp2_with fail
            go_ret
            exact ⟨ret_int HN.out.symm, bN HKA.out⟩
          · have hlb2 : decide (x < y) = false := by simpa using hl
            rw [if_neg hl] at HN
            clear hxk hyk hxy hl
            go_upto_region 5 with fail
            go_quiet (fail)
            go_wp2_with fail
            go_ret
            exact ⟨ret_int HN.out.symm, bN HKA.out⟩
      · have hlmb : decide ((k : Int) < (m : Int)) = false := by simp; omega
        have HN := Lib.hid (HA.out.trans (cmpR_end ⟨by have := HXL.out; omega, by have := HYL.out; omega⟩ (.inr (by have := HYL.out; omega))))
        rw [HXL.out, HYL.out] at HN
        have hsub : IntKind.i64.wrap ((n : Int) - (m : Int)) = (n : Int) - (m : Int) := IntWalk.i64_in _ (by omega)
        go_wp2_with fail
        go_ret
        exact ⟨ret_int HN.out.symm, HBW.out⟩
    · have hlb : decide ((k : Int) < (n : Int)) = false := by simp; omega
      have HN := Lib.hid (HA.out.trans (cmpR_end ⟨by have := HXL.out; omega, by have := HYL.out; omega⟩ (.inl (by have := HXL.out; omega))))
      rw [HXL.out, HYL.out] at HN
      have hsub : IntKind.i64.wrap ((n : Int) - (m : Int)) = (n : Int) - (m : Int) := IntWalk.i64_in _ (by omega)
      go_wp2_with fail
      go_ret
      exact ⟨ret_int HN.out.symm, HBW.out⟩

/-- outcomes in memory, to be read -/
def RR (w : World) (A : Option Addr) (n : Nat) (L : List (List Int)) : Prop := L.length = n ∧ (∃ cs, Rd w 1 A n cs ∧ Cts w cs L) ∧ ∀ z ∈ L, z.length ≤ 1000000
theorem Cts.below {w w' : World} {cs : List Value} {L : List (List Int)} (h : Cts w cs L) (hb : Below w.heap.size w w') : Cts w' cs L := h.tk (T := []) (Tk.below hb) (by simp)
theorem RR.below {w w' : World} {A : Option Addr} {n : Nat} {L : List (List Int)} (h : RR w A n L) (hb : Below w.heap.size w w') : RR w' A n L := by
  obtain ⟨h1, ⟨cs, h2, h3⟩, h4⟩ := h
  exact ⟨h1, ⟨cs, h2.below hb, h3.below hb⟩, h4⟩
theorem RR.of_ss {w : World} {base c : Nat} {A : Option Addr} {R : List (List Int)} (h : SS w base (.slice A R.length c) R) (hz : ∀ z ∈ R, z.length ≤ 1000000) : RR w A R.length R := by
  obtain ⟨cs, h1, h2⟩ := h
  exact ⟨rfl, ⟨cs, (Row.of_own h1).rd, h2⟩, hz⟩
theorem RR.at_ {w : World} {A : Option Addr} {n i : Nat} {L : List (List Int)} (h : RR w A n L) (hi : i < n) : ∃ g o z B d, A = some ⟨g, o, none⟩ ∧ L[i]? = some z ∧ w.cell? ⟨g, o + i, none⟩ = some (.slice B z.length d) ∧ Rd w 1 B z.length (ints z) ∧ z.length ≤ 1000000 := by
  obtain ⟨h1, ⟨cs, h2, h3, h4⟩, h5⟩ := h
  have hz : L[i]? = some L[i] := List.getElem?_eq_getElem (by omega)
  obtain ⟨B, d, h6, _, h8⟩ := h4 i _ hz
  obtain ⟨g, o, hA, _, hc⟩ := h2.2 (by omega)
  exact ⟨g, o, L[i], B, d, hA, hz, hc i _ h6, h8.rd, h5 _ (List.getElem_mem _)⟩

theorem RR.at2 {w : World} {A : Option Addr} {n i : Nat} {L : List (List Int)} (h : RR w A n L) (hi : i < n) : ∃ g o z B d, A = some ⟨g, o, none⟩ ∧ L[i]? = some z ∧ w.cell? ⟨g, o + i, none⟩ = some (.slice B z.length d) ∧ Row w 3 1 B z.length (ints z) ∧ z.length ≤ 1000000 ∧ z.length ≤ d := by
  obtain ⟨h1, ⟨cs, h2, h3, h4⟩, h5⟩ := h
  have hz : L[i]? = some L[i] := List.getElem?_eq_getElem (by omega)
  obtain ⟨B, d, h6, h7, h8⟩ := h4 i _ hz
  obtain ⟨g, o, hA, _, hc⟩ := h2.2 (by omega)
  exact ⟨g, o, L[i], B, d, hA, hz, hc i _ h6, h8, h5 _ (List.getElem_mem _), h7⟩

theorem rr_one {w : World} {b d : Nat} {B : Option Addr} {zs : List Int} (h : w.heap[b]? = some (.cells #[.slice B zs.length d] 32)) (hd : zs.length ≤ d) (hr : Row w 3 1 B zs.length (ints zs)) (hz : zs.length ≤ 1000000) : RR w (some ⟨b, 0, none⟩) 1 [zs] := by
  refine ⟨rfl, ⟨[.slice B zs.length d], ⟨rfl, fun _ => ⟨b, 0, rfl, blk_lt h, fun j u hu => ?_⟩⟩, rfl, fun k z hk => ?_⟩, fun z hz' => by rw [List.mem_singleton.1 hz']; exact hz⟩
  · rw [cell_of_row w b _ _ _ _ h, Nat.zero_add, ← hu]
    simp
  · cases k with
    | zero =>
      obtain rfl : zs = z := Option.some.inj hk
      exact ⟨B, d, rfl, hd, hr⟩
    | succ k => cases hk
set_option maxHeartbeats 4000000 in
set_option maxRecDepth 100000 in
theorem same16_any (A B : Option Addr) (n m c d : Nat) (L K : List (List Int)) (w : World) (hx : RR w A n L) (hy : RR w B m K) (hn : n ≤ 4611686018427387904) :
    Calls Tryz.prog 16 #[.slice A n c, .slice B m d] w fun o w' => o = .returned (.bool (decide (L = K))) ∧ Below w.heap.size w w' := by
  have HX := Lib.hid hx
  have HY := Lib.hid hy
  clear hx hy
  by_cases hnm : n = m
  · subst hnm
    have hne : ((n : Int) != (n : Int)) = false := by simp
    go_enter Tryz.func16, Tryz.ntmps16
    go_wp2_with fail
    go_loopw [5] (fun vi wr => ∃ k : Nat, k ≤ n ∧ vi = .int .i64 k ∧ (∀ j, j < k → L[j]? = K[j]?) ∧ Below w.heap.size w wr) (fun vi _ => n - (intOf vi).toNat)
    case atStart => exact ⟨0, Nat.zero_le _, rfl, fun j hj => absurd hj (Nat.not_lt_zero _), bR w⟩
    case round =>
      obtain ⟨k, hk, rfl, hall, hbw⟩ := hrel
      obtain ⟨wo, rfl⟩ : ∃ x, x = wr := ⟨wr, rfl⟩
      have HA := Lib.hid hall
      have HBW := Lib.hid hbw
      clear hall hbw
      by_cases hlt : k < n
      · have hlb : decide ((k : Int) < (n : Int)) = true := by simp; omega
        obtain ⟨g1, o1, z1, B1, d1, rfl, hz1, hc1, hr1, hl1⟩ := (HX.out.below HBW.out).at_ hlt
        obtain ⟨g2, o2, z2, B2, d2, rfl, hz2, hc2, hr2, hl2⟩ := (HY.out.below HBW.out).at_ hlt
        have hkn : (k : Int) < (n : Int) := by omega
        have hk0 : decide ((k : Int) < 0) = false := by simp
        obtain ⟨m1, hm1⟩ : ∃ q, q = z1.length := ⟨_, rfl⟩
        obtain ⟨m2, hm2⟩ : ∃ q, q = z2.length := ⟨_, rfl⟩
        rw [← hm1] at hc1 hr1 hl1
        rw [← hm2] at hc2 hr2 hl2
        have HCl := Lib.hid (fun (wx : World) (hb : Below wo.heap.size wo wx) => compare35_any B1 B2 m1 m2 d1 d2 z1 z2 wx (hr1.below hb) (hr2.below hb) (by omega) (by omega))
        have HZ := Lib.hid (And.intro hz1 hz2)
        have HC := Lib.hid (fun (wx : World) (hb : Below wo.heap.size wo wx) => And.intro ((hb.cell (cell_lt hc1)).trans hc1) ((hb.cell (cell_lt hc2)).trans hc2))
        clear hz1 hz2 hr1 hr2 hl1 hl2 hm1 hm2 hc1 hc2
        go_upto_region 6 with fail
        have rr : ∀ (wx : World), Below wx.heap.size wx wx := fun wx => bR wx
        refine wp_region_det (by kernel_rfl) (fun f => (⟨#[Value.slice (some ⟨g1, o1, none⟩) n c, Value.slice (some ⟨g2, o2, none⟩) n d, undef, undef, u4, .int .i64 (k : Int), Value.slice (some ⟨g1, o1, none⟩) n c, .int .i64 (n : Int), Value.slice (some ⟨g2, o2, none⟩) n d, .int .i64 (n : Int), Value.bool false, .int .i64 (k : Int), Value.slice (some ⟨g1, o1, none⟩) n c, .int .i64 (n : Int), Value.bool true, u15, u16, f 0, f 1, f 2, f 3, f 4, f 5, f 6, f 7, f 8, f 9], []⟩ : Act)) (fun (iv : Nat) (lv : Nat → Bool) (fv : Nat → Value) (wx : World) => match iv with | 0 => fv 0 = .slice (some ⟨g1, o1, none⟩) n c | 1 => fv 1 = .int .i64 k | 2 => fv 2 = .pointer (some ⟨g1, o1 + k, none⟩) | 3 => fv 3 = .slice B1 m1 d1 | 4 => fv 4 = .slice (some ⟨g2, o2, none⟩) n d | 5 => fv 5 = .int .i64 k | 6 => fv 6 = .pointer (some ⟨g2, o2 + k, none⟩) | 7 => fv 7 = .slice B2 m2 d2 | 8 => fv 8 = .int .i64 (cmpR z1 z2) | 9 => fv 9 = .bool (cmpR z1 z2 != 0) | _ => True) (fun _ wx => Below wo.heap.size wo wx) (fun _ w1 w2 => Below w1.heap.size w1 w2) (by kernel_rfl) (fun k => match k with | 0 => u17 | 1 => u18 | 2 => u19 | 3 => u20 | 4 => u21 | 5 => u22 | 6 => u23 | 7 => u24 | 8 => u25 | 9 => u26 | _ => undef) rfl ?keep (bD (bR wo)) ?steps ?fin
        case keep =>
          intro iv j hij hd l f f' w1 w2 hf hR
          match j with
          | 0 => exact fun h => (hf 0 (Ne.symm hij)).trans h
          | 1 => exact fun h => (hf 1 (Ne.symm hij)).trans h
          | 2 => exact fun h => (hf 2 (Ne.symm hij)).trans h
          | 3 => exact fun h => (hf 3 (Ne.symm hij)).trans h
          | 4 => exact fun h => (hf 4 (Ne.symm hij)).trans h
          | 5 => exact fun h => (hf 5 (Ne.symm hij)).trans h
          | 6 => exact fun h => (hf 6 (Ne.symm hij)).trans h
          | 7 => exact fun h => (hf 7 (Ne.symm hij)).trans h
          | 8 => exact fun h => (hf 8 (Ne.symm hij)).trans h
          | 9 => exact fun h => (hf 9 (Ne.symm hij)).trans h
          | _ + 10 => exact id
        case steps =>
          refine fun iv hiv => stepsOf_at (k := 0) (n := 10) ?_ iv (Nat.zero_le _) (by rw [Nat.zero_add]; exact hiv)
          refine stepsOf_cons (k := 0) (n := 9) ?_ ?_
          · refine stepOf_run (at0) [] (by kernel_rfl) (fun _ _ => rfl) (fun f wq l hl hun hdn hS hd K' hK => ?_)
            clear hd
            have HK := Lib.hid hK
            clear hK
            have HSS := Lib.hid hS
            clear hS
            go_simp
            exact HK.out _ _ _ rfl rfl HSS.out (rr _)
          refine stepsOf_cons (k := 1) (n := 8) ?_ ?_
          · refine stepOf_run (atS (at0)) [] (by kernel_rfl) (fun _ _ => rfl) (fun f wq l hl hun hdn hS hd K' hK => ?_)
            clear hd
            have HK := Lib.hid hK
            clear hK
            have HSS := Lib.hid hS
            clear hS
            go_simp
            exact HK.out _ _ _ rfl rfl HSS.out (rr _)
          refine stepsOf_cons (k := 2) (n := 7) ?_ ?_
          · refine stepOf_run (atS (atS (at0))) [0, 1] (by kernel_rfl) (fun _ _ => rfl) (fun f wq l hl hun hdn hS hd K' hK => ?_)
            obtain ⟨e0, e1, -⟩ := hd
            have e0 : f 0 = .slice (some ⟨g1, o1, none⟩) n c := e0
            have e1 : f 1 = .int .i64 k := e1
            have HK := Lib.hid hK
            clear hK
            have HSS := Lib.hid hS
            clear hS
            simp only [e0, e1]
            go_simp
            exact HK.out _ _ _ (by simp only [e0, e1]; rfl) rfl HSS.out (rr _)
          refine stepsOf_cons (k := 3) (n := 6) ?_ ?_
          · refine stepOf_run (atS (atS (atS (at0)))) [2] (by kernel_rfl) (fun _ _ => rfl) (fun f wq l hl hun hdn hS hd K' hK => ?_)
            obtain ⟨e2, -⟩ := hd
            have e2 : f 2 = .pointer (some ⟨g1, o1 + k, none⟩) := e2
            have HK := Lib.hid hK
            clear hK
            have hc := (HC.out wq hS).1
            have HSS := Lib.hid hS
            clear hS
            simp only [e2]
            go_simp
            exact HK.out _ _ _ (by simp only [e2]; rfl) rfl HSS.out (rr _)
          refine stepsOf_cons (k := 4) (n := 5) ?_ ?_
          · refine stepOf_run (atS (atS (atS (atS (at0))))) [] (by kernel_rfl) (fun _ _ => rfl) (fun f wq l hl hun hdn hS hd K' hK => ?_)
            clear hd
            have HK := Lib.hid hK
            clear hK
            have HSS := Lib.hid hS
            clear hS
            go_simp
            exact HK.out _ _ _ rfl rfl HSS.out (rr _)
          refine stepsOf_cons (k := 5) (n := 4) ?_ ?_
          · refine stepOf_run (atS (atS (atS (atS (atS (at0)))))) [] (by kernel_rfl) (fun _ _ => rfl) (fun f wq l hl hun hdn hS hd K' hK => ?_)
            clear hd
            have HK := Lib.hid hK
            clear hK
            have HSS := Lib.hid hS
            clear hS
            go_simp
            exact HK.out _ _ _ rfl rfl HSS.out (rr _)
          refine stepsOf_cons (k := 6) (n := 3) ?_ ?_
          · refine stepOf_run (atS (atS (atS (atS (atS (atS (at0))))))) [4, 5] (by kernel_rfl) (fun _ _ => rfl) (fun f wq l hl hun hdn hS hd K' hK => ?_)
            obtain ⟨e4, e5, -⟩ := hd
            have e4 : f 4 = .slice (some ⟨g2, o2, none⟩) n d := e4
            have e5 : f 5 = .int .i64 k := e5
            have HK := Lib.hid hK
            clear hK
            have HSS := Lib.hid hS
            clear hS
            simp only [e4, e5]
            go_simp
            exact HK.out _ _ _ (by simp only [e4, e5]; rfl) rfl HSS.out (rr _)
          refine stepsOf_cons (k := 7) (n := 2) ?_ ?_
          · refine stepOf_run (atS (atS (atS (atS (atS (atS (atS (at0)))))))) [6] (by kernel_rfl) (fun _ _ => rfl) (fun f wq l hl hun hdn hS hd K' hK => ?_)
            obtain ⟨e6, -⟩ := hd
            have e6 : f 6 = .pointer (some ⟨g2, o2 + k, none⟩) := e6
            have HK := Lib.hid hK
            clear hK
            have hc := (HC.out wq hS).2
            have HSS := Lib.hid hS
            clear hS
            simp only [e6]
            go_simp
            exact HK.out _ _ _ (by simp only [e6]; rfl) rfl HSS.out (rr _)
          refine stepsOf_cons (k := 8) (n := 1) ?_ ?_
          · refine stepOf_run (atS (atS (atS (atS (atS (atS (atS (atS (at0))))))))) [3, 7] (by kernel_rfl) (fun _ _ => rfl) (fun f wq l hl hun hdn hS hd K' hK => ?_)
            obtain ⟨e3, e7, -⟩ := hd
            have e3 : f 3 = .slice B1 m1 d1 := e3
            have e7 : f 7 = .slice B2 m2 d2 := e7
            have HK := Lib.hid hK
            clear hK
            have HCz := Lib.hid (HCl.out wq hS)
            have HSS := Lib.hid hS
            clear hS
            simp only [e3, e7]
            go_simp
            go_wp2_with fail
            refine HCz.out.mono ?_
            rintro e w9 ⟨rfl, hb9⟩
            exact HK.out _ _ _ (by simp only [e3, e7]; rfl) rfl (bT HSS.out hb9) hb9
          refine stepsOf_cons (k := 9) (n := 0) ?_ ?_
          · refine stepOf_run (atS (atS (atS (atS (atS (atS (atS (atS (atS (at0)))))))))) [8] (by kernel_rfl) (fun _ _ => rfl) (fun f wq l hl hun hdn hS hd K' hK => ?_)
            obtain ⟨e8, -⟩ := hd
            have e8 : f 8 = .int .i64 (cmpR z1 z2) := e8
            have HK := Lib.hid hK
            clear hK
            have HSS := Lib.hid hS
            clear hS
            simp only [e8]
            go_simp
            exact HK.out _ _ _ (by simp only [e8]; rfl) rfl HSS.out (rr _)
          exact trivial
        case fin =>
          intro fo wz lo hl hall hS
          have a0 : fo 0 = .slice (some ⟨g1, o1, none⟩) n c := hall 0 (by decide)
          have a1 : fo 1 = .int .i64 k := hall 1 (by decide)
          have a2 : fo 2 = .pointer (some ⟨g1, o1 + k, none⟩) := hall 2 (by decide)
          have a3 : fo 3 = .slice B1 m1 d1 := hall 3 (by decide)
          have a4 : fo 4 = .slice (some ⟨g2, o2, none⟩) n d := hall 4 (by decide)
          have a5 : fo 5 = .int .i64 k := hall 5 (by decide)
          have a6 : fo 6 = .pointer (some ⟨g2, o2 + k, none⟩) := hall 6 (by decide)
          have a7 : fo 7 = .slice B2 m2 d2 := hall 7 (by decide)
          have a8 : fo 8 = .int .i64 (cmpR z1 z2) := hall 8 (by decide)
          have a9 : fo 9 = .bool (cmpR z1 z2 != 0) := hall 9 (by decide)
          clear hall
          simp only [a9]
          clear a0 a1 a2 a3 a4 a5 a6 a7 a8 a9 rr
          obtain ⟨wE, rfl⟩ : ∃ x, x = wz := ⟨wz, rfl⟩
          have HBE := Lib.hid (bT HBW.out hS)
          clear hS
          by_cases hz : cmpR z1 z2 = 0
          · have hzb : (cmpR z1 z2 != 0) = false := by simp [hz]
            have HN := Lib.hid (show ∀ j, j < k + 1 → L[j]? = K[j]? from fun j hj => by
              rcases Nat.lt_or_ge j k with h1 | h1
              · exact HA.out j h1
              · rw [show j = k by omega, HZ.out.1, HZ.out.2, cmpR_zero.1 hz])
            clear hz
            go_wp2_with fail
            go_roundw
            case rel => exact ⟨k + 1, by omega, by go_num, HN.out, HBE.out⟩
            case measure => simp [intOf]; omega
          · have hzb : (cmpR z1 z2 != 0) = true := by simpa using hz
            have HF := Lib.hid (show decide (L = K) = false from decide_eq_false (fun e => hz (cmpR_zero.2 (by
              have h1 := HZ.out.1
              rw [e, HZ.out.2] at h1
              exact (Option.some.inj h1).symm))))
            clear hz
            go_wp2_with fail
            go_ret
            exact ⟨ret_bool HF.out.symm, HBE.out⟩
      · have hlb : decide ((k : Int) < (n : Int)) = false := by simp; omega
        have HF := Lib.hid (show decide (L = K) = true from decide_eq_true (List.ext_getElem? fun j => by
          rcases Nat.lt_or_ge j k with h1 | h1
          · exact HA.out j h1
          · rw [List.getElem?_eq_none (by have := HX.out.1; omega), List.getElem?_eq_none (by have := HY.out.1; omega)]))
        go_wp2_with fail
        go_ret
        exact ⟨ret_bool HF.out.symm, HBW.out⟩
  · have hne : ((n : Int) != (m : Int)) = true := by simp; omega
    have HF := Lib.hid (show decide (L = K) = false from decide_eq_false (fun e => hnm (by rw [← HX.out.1, ← HY.out.1, e])))
    clear hnm
    go_enter Tryz.func16, Tryz.ntmps16
    go_wp2_with fail
    go_ret
    exact ⟨ret_bool HF.out.symm, bR w⟩
theorem same16_yes (A B : Option Addr) (n m c d : Nat) (L : List (List Int)) (w : World) (hx : RR w A n L) (hy : RR w B m L) (hn : n ≤ 4611686018427387904) :
    Calls Tryz.prog 16 #[.slice A n c, .slice B m d] w fun o w' => o = .returned (.bool true) ∧ Below w.heap.size w w' :=
  (same16_any A B n m c d L L w hx hy hn).mono fun e w' h => ⟨by rw [h.1]; simp, h.2⟩
end Go.Proofs.YtnigadeohmlpiaaGreatDoor
