/- A law for a region that draws its order: an invariant that each operation keeps holds behind the region, whatever the order. No condition of ours. -/
import Derived.RegionTactic
namespace Go.Proofs.YtgajlhejefjhhaaGreatDoor

section
variable {P : Program} {ops : Array Oper} {Q : Exit → Act → World → Prop} {md : Region.Mode}

/-- what operation i waits for -/
def depsOf (md : Region.Mode) (ops : Array Oper) (i : Nat) : List Nat := ((ops[i]?).map fun o => (o.after.toList.filter (Region.binds md)).map (·.on)).getD []
/-- each waits for earlier ones alone -/
def depsLow (md : Region.Mode) (ops : Array Oper) : Bool := (List.range ops.size).all fun i => (depsOf md ops i).all fun d => decide (d < i)

theorem ready_mem {listed : Array Bool} {i : Nat} (h : i ∈ Region.ready md ops listed) : i < ops.size ∧ listed.getD i true = false ∧ ∀ d ∈ depsOf md ops i, listed.getD d false = true := by
  unfold Region.ready at h
  obtain ⟨h1, h2⟩ := List.mem_filter.1 h
  have hi := List.mem_range.1 h1
  simp only [Bool.and_eq_true, Bool.not_eq_true'] at h2
  refine ⟨hi, h2.1, fun d hd => ?_⟩
  unfold depsOf at hd
  have ho : ops[i]? = some ops[i] := Array.getElem?_eq_getElem hi
  rw [ho] at hd h2
  simp only [Option.map_some, Option.getD_some, List.mem_map, List.mem_filter] at hd h2
  obtain ⟨e, ⟨he, hb⟩, rfl⟩ := hd
  have := Array.all_eq_true'.1 h2.2 e (by simpa using he)
  simpa [hb] using this

theorem ready_of {listed : Array Bool} {i : Nat} (hi : i < ops.size) (h1 : listed.getD i true = false) (h2 : ∀ d ∈ depsOf md ops i, listed.getD d false = true) : i ∈ Region.ready md ops listed := by
  unfold Region.ready
  refine List.mem_filter.2 ⟨List.mem_range.2 hi, ?_⟩
  have ho : ops[i]? = some ops[i] := Array.getElem?_eq_getElem hi
  rw [h1, ho]
  simp only [Bool.not_false, Bool.true_and, Option.map_some, Option.getD_some]
  rw [Array.all_eq_true']
  intro e he
  by_cases hb : Region.binds md e = true
  · have := h2 e.on (by
      unfold depsOf
      rw [ho]
      simp only [Option.map_some, Option.getD_some, List.mem_map, List.mem_filter]
      exact ⟨e, ⟨by simpa using he, hb⟩, rfl⟩)
    simp [this]
  · simp [hb]

theorem getD_tf {listed : Array Bool} {i : Nat} (hi : i < listed.size) : listed.getD i true = listed.getD i false := by
  simp [Array.getD, hi]

theorem all_listed {listed : Array Bool} (hs : listed.size = ops.size) (hlow : depsLow md ops = true) (hr : Region.ready md ops listed = []) : ∀ i, i < ops.size → listed.getD i false = true := by
  intro i
  induction i using Nat.strongRecOn with
  | _ i ih =>
    intro hi
    by_cases h : listed.getD i false = true
    · exact h
    · exfalso
      have hf : listed.getD i true = false := by
        rw [getD_tf (by omega)]
        simpa using h
      have hd : ∀ d ∈ depsOf md ops i, listed.getD d false = true := fun d hd => by
        have := List.all_eq_true.1 (List.all_eq_true.1 hlow i (List.mem_range.2 hi)) d hd
        have hdi : d < i := by simpa using this
        exact ih d hdi (by omega)
      have := ready_of hi hf hd
      rw [hr] at this
      cases this

def left (listed : Array Bool) : Nat := (listed.toList.filter (fun b => !b)).length

theorem left_set {listed : Array Bool} {i : Nat} (hi : i < listed.size) (h : listed.getD i true = false) : left (listed.setIfInBounds i true) + 1 = left listed := by
  obtain ⟨l⟩ := listed
  simp only [left, List.setIfInBounds_toArray]
  simp only [List.size_toArray] at hi
  have hx : l[i] = false := by simpa [Array.getD, hi] using h
  clear h
  induction l generalizing i with
  | nil => simp at hi
  | cons y l ih =>
    cases i with
    | zero =>
      have : y = false := hx
      subst this
      simp
    | succ i =>
      have := ih (by simpa using hi) (by simpa using hx)
      simp only [List.set_cons_succ, List.filter_cons]
      cases y <;> simp_all

theorem left_zero {listed : Array Bool} (h : left listed = 0) : ∀ i, i < listed.size → listed.getD i false = true := by
  intro i hi
  have h1 : listed.toList.filter (fun b => !b) = [] := List.length_eq_zero_iff.1 h
  have h2 := List.filter_eq_nil_iff.1 h1 listed[i] (by simp)
  simpa [Array.getD, hi] using h2

theorem wpAny_inv (I : Array Bool → Act → World → Prop) (hlow : depsLow md ops = true)
    (hstep : ∀ i, i < ops.size → ∀ listed a w, listed.size = ops.size → I listed a w → listed.getD i false = false → (∀ d ∈ depsOf md ops i, listed.getD d false = true) → wpOp P ops Q i (I (listed.setIfInBounds i true)) a w)
    (hend : ∀ listed a w, listed.size = ops.size → (∀ i, i < ops.size → listed.getD i false = true) → I listed a w → Q .normal a w) :
    ∀ fuel listed a w, listed.size = ops.size → I listed a w → left listed ≤ fuel → wpAny P md ops Q fuel listed a w
  | 0, listed, a, w, hs, hI, hf => by
    have hall := left_zero (show left listed = 0 by omega)
    refine ⟨?_, hend listed a w hs (fun i hi => hall i (by omega)) hI⟩
    rw [List.eq_nil_iff_forall_not_mem]
    intro i hi
    obtain ⟨h1, h2, _⟩ := ready_mem hi
    rw [getD_tf (by omega), hall i (by omega)] at h2
    cases h2
  | fuel + 1, listed, a, w, hs, hI, hf => by
    refine ⟨fun hr => hend listed a w hs (all_listed hs hlow hr) hI, fun i hi => ?_⟩
    obtain ⟨h1, h2, h3⟩ := ready_mem hi
    have hl := left_set (by omega) h2
    refine wpOp_mono (fun a' w' h' => wpAny_inv I hlow hstep hend fuel _ a' w' (by simpa using hs) h' (by omega)) (hstep i h1 listed a w hs hI ?_ h3)
    rw [← getD_tf (by omega)]
    exact h2

theorem left_start (n : Nat) : left (Array.replicate n false) = n := by
  simp [left]

/-- the law, at a region -/
theorem wp_region_inv {id : Nat} {a : Act} {w : World} (hm : P.follows .mixedOrders = true) (I : Array Bool → Act → World → Prop) (hlow : depsLow .any ops = true)
    (hstart : I (Array.replicate ops.size false) a w.drew)
    (hstep : ∀ i, i < ops.size → ∀ listed a w, listed.size = ops.size → I listed a w → listed.getD i false = false → (∀ d ∈ depsOf .any ops i, listed.getD d false = true) → wpOp P ops Q i (I (listed.setIfInBounds i true)) a w)
    (hend : ∀ listed a w, listed.size = ops.size → (∀ i, i < ops.size → listed.getD i false = true) → I listed a w → Q .normal a w) : (Code.region id ops true).wp P Q a w :=
  wp_region_any hm (wpAny_inv I hlow hstep hend ops.size _ a _ (by simp) hstart (by rw [left_start]; exact Nat.le_refl _))

theorem gs_ne {l : Array Bool} {i j : Nat} (h : i ≠ j) : (l.setIfInBounds i true).getD j false = l.getD j false := by
  simp [Array.getD_eq_getD_getElem?, Array.getElem?_setIfInBounds_ne h]
end
end Go.Proofs.YtgajlhejefjhhaaGreatDoor
