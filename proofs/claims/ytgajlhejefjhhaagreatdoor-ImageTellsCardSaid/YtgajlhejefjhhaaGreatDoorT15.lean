/- The parser as plain functions; a contract of Atoi. No condition of ours. -/
import Derived.Test.YtgajlhejefjhhaaGreatDoorT14
import Derived.Lib.AtoiAllCases
import Derived.Lib.AtoiErrMem
namespace Go.Proofs.YtgajlhejefjhhaaGreatDoor
open Go.RowKit

/-- lines behind the first one -/
noncomputable def runO : Img → Bool → List (List UInt8) → Option (Img × Bool)
  | m, c, [] => some (m, c)
  | m, c, l :: ls => (stepO m c l).bind fun x => runO x.1 x.2 ls

theorem runO_append : ∀ (ls ls' : List (List UInt8)) (m : Img) (c : Bool), runO m c (ls ++ ls') = (runO m c ls).bind fun x => runO x.1 x.2 ls'
  | [], ls', m, c => rfl
  | l :: ls, ls', m, c => by
    simp only [List.cons_append, runO]
    cases h : stepO m c l with
    | none => rfl
    | some x => exact runO_append ls ls' x.1 x.2

def finO (s : List UInt8) : Option (Img × Bool) → Option Img
  | some x => if (x.1.right && x.1.head == s) = true then some x.1 else none
  | none => none

/-- the image of a text but its last line -/
noncomputable def parseO (s : List UInt8) : Option Img :=
  if Lib.hasPrefix (Lib.cut s [10]).1 [105, 109, 97, 103, 101, 32] = true then
    match Lib.atoiAll (Lib.trimPrefix (Lib.cut s [10]).1 [105, 109, 97, 103, 101, 32]) with
    | .ok n => finO s (runO ⟨[], n, []⟩ false (Lib.split (Lib.trimSuffix (Lib.cut s [10]).2.1 [10]) [10]))
    | _ => none
  else none

theorem finO_sound {s : List UInt8} {m : Img} {x : Option (Img × Bool)} (h : finO s x = some m) : m.right = true ∧ m.head = s := by
  cases x with
  | none => cases h
  | some x =>
    by_cases hx : (x.1.right && x.1.head == s) = true
    · rw [finO, if_pos hx] at h
      obtain rfl := Option.some.inj h
      simpa using hx
    · rw [finO, if_neg hx] at h
      cases h

theorem finO_yes {s : List UInt8} {m : Img} (c : Bool) (h : m.right = true) (hh : m.head = s) : finO s (some (m, c)) = some m := by
  simp [finO, h, hh]
theorem finO_no1 {s : List UInt8} {m : Img} (c : Bool) (h : m.right = false) : finO s (some (m, c)) = none := by
  simp [finO, h]
theorem finO_no2 {s : List UInt8} {m : Img} (c : Bool) (h : m.head ≠ s) : finO s (some (m, c)) = none := by
  simp [finO, h]

theorem parseO_sound {s : List UInt8} {m : Img} (h : parseO s = some m) : m.right = true ∧ m.head = s := by
  unfold parseO at h
  split at h
  · split at h
    · exact finO_sound h
    · cases h
  · cases h

theorem parseO_no {s : List UInt8} (h : Lib.hasPrefix (Lib.cut s [10]).1 [105, 109, 97, 103, 101, 32] = false) : parseO s = none := by
  unfold parseO
  rw [if_neg (by simp [h])]
theorem parseO_num {s : List UInt8} (h : ∀ n, Lib.atoiAll (Lib.trimPrefix (Lib.cut s [10]).1 [105, 109, 97, 103, 101, 32]) ≠ .ok n) : parseO s = none := by
  unfold parseO
  split
  · split
    · rename_i hn
      exact absurd hn (h _)
    · rfl
  · rfl
theorem parseO_run {s : List UInt8} {n : Int} (h : Lib.hasPrefix (Lib.cut s [10]).1 [105, 109, 97, 103, 101, 32] = true) (hn : Lib.atoiAll (Lib.trimPrefix (Lib.cut s [10]).1 [105, 109, 97, 103, 101, 32]) = .ok n) :
    parseO s = finO s (runO ⟨[], n, []⟩ false (Lib.split (Lib.trimSuffix (Lib.cut s [10]).2.1 [10]) [10])) := by
  unfold parseO
  rw [if_pos h, hn]

/-! ### what lines leave -/
structure Sane (m : Img) : Prop where
  wf : Wf m.words
  sz : ∀ x ∈ m.syms, x.1.length ≤ 1000000 ∧ 0 ≤ x.2 ∧ x.2 ≤ 4294967296

theorem step_sane {m m' : Img} {c c' : Bool} {l : List UInt8} (hl : l.length ≤ 1000000) (h : Sane m) (hs : stepO m c l = some (m', c')) :
    Sane m' ∧ m'.mem = m.mem ∧ m'.words.length ≤ m.words.length + 1000001 ∧ m'.syms.length ≤ m.syms.length + 1 := by
  cases c with
  | true =>
    rw [step_code] at hs
    split at hs
    · obtain ⟨rfl, rfl⟩ := Prod.mk.inj (Option.some.inj hs)
      refine ⟨⟨?_, h.sz⟩, rfl, ?_, Nat.le_succ _⟩
      · intro z hz
        rcases List.mem_append.1 hz with hz | hz
        · exact h.wf z hz
        · obtain ⟨p, _, rfl⟩ := List.mem_map.1 hz
          have : (hexO p).getD 0 < 4294967296 := by
            cases hx : hexO p with
            | none => simp
            | some v => exact (hexO_some hx).1
          simp only [hexV]
          omega
      · have := split_count l 32
        simp only [List.length_append, List.length_map]
        omega
    · cases hs
  | false =>
    by_cases hc : l = [99, 111, 100, 101]
    · subst hc
      obtain ⟨rfl, rfl⟩ : m = m' ∧ true = c' := by simpa [stepO] using hs
      exact ⟨h, rfl, Nat.le_add_right _ _, Nat.le_add_right _ _⟩
    · obtain ⟨pl, nm, ok, hcut⟩ : ∃ pl nm ok, Lib.cut l [32] = (pl, nm, ok) := ⟨_, _, _, rfl⟩
      have hcl := (cut_len l [32]).2
      rw [step_sym m hc hcut] at hs
      rw [hcut] at hcl
      split at hs
      · rename_i v hv
        split at hs
        · obtain ⟨rfl, rfl⟩ := Prod.mk.inj (Option.some.inj hs)
          refine ⟨⟨h.wf, ?_⟩, rfl, Nat.le_add_right _ _, by simp⟩
          intro x hx
          rcases List.mem_append.1 hx with hx | hx
          · exact h.sz x hx
          · obtain rfl := List.mem_singleton.1 hx
            have := (hexO_some hv).1
            dsimp only at hcl ⊢
            omega
        · cases hs
      · cases hs

theorem run_sane : ∀ {ls : List (List UInt8)} {m m' : Img} {c c' : Bool}, (∀ l ∈ ls, l.length ≤ 1000000) → Sane m → runO m c ls = some (m', c') →
    Sane m' ∧ m'.mem = m.mem ∧ m'.words.length ≤ m.words.length + 1000001 * ls.length ∧ m'.syms.length ≤ m.syms.length + ls.length
  | [], m, m', c, c', _, h, hs => by
    obtain ⟨rfl, rfl⟩ := Prod.mk.inj (Option.some.inj hs)
    exact ⟨h, rfl, Nat.le_add_right _ _, Nat.le_add_right _ _⟩
  | l :: ls, m, m', c, c', hl, h, hs => by
    simp only [runO] at hs
    cases hx : stepO m c l with
    | none => rw [hx] at hs; cases hs
    | some x =>
      rw [hx] at hs
      obtain ⟨h1, h2, h3, h4⟩ := step_sane (hl l (by simp)) h hx
      obtain ⟨k1, k2, k3, k4⟩ := run_sane (fun y hy => hl y (by simp [hy])) h1 hs
      refine ⟨k1, by rw [k2, h2], ?_, ?_⟩
      · rw [List.length_cons, Nat.mul_succ]
        omega
      · rw [List.length_cons]
        omega

/-- how a numeral ends -/
theorem num_end (r : Lib.NumEnd Int) : (∃ n, r = .ok n) ∨ r = .range ∨ r = Lib.atoiAll [] := by
  cases r <;> first | exact .inl ⟨_, rfl⟩ | exact .inr (.inl rfl) | exact .inr (.inr rfl)
def numOk : Lib.NumEnd Int → Bool
  | .ok _ => true
  | _ => false
theorem atoi_nil (n : Int) : Lib.atoiAll [] ≠ .ok n := fun h => by
  have h1 := congrArg numOk h
  have h2 : numOk (Lib.atoiAll []) = false := by rfl
  rw [h2] at h1
  exact Bool.noConfusion h1

theorem atoi_any (l : List UInt8) (w : World) (hs : l.length ≤ 1000000) (hG : Glob w) :
    Calls Tryz.prog 61 #[.string (str l)] w fun e w' => ((∃ n, Lib.atoiAll l = .ok n ∧ e = .returned (.tuple #[.int .i64 n, .nilIface])) ∨ (∃ (k : Int) (N : Nat), (∀ n, Lib.atoiAll l ≠ .ok n) ∧ e = .returned (.tuple #[.int .i64 k, .iface 135 (.pointer (some ⟨N, 0, none⟩))]))) ∧ Below w.heap.size w w' := by
  have hsz : (str l).size = l.length := rfl
  rcases num_end (Lib.atoiAll l) with ⟨n, h⟩ | h | h
  · refine (Tryz.strconv_Atoi_ok (str l) (by omega) n h w).mono ?_
    rintro e w' ⟨rfl, hw⟩
    refine ⟨.inl ⟨n, h, rfl⟩, ?_⟩
    rcases hw with rfl | ⟨t, rfl⟩
    · exact bR _
    · exact Lib.bytesWorld_below _ _ _
  · obtain ⟨te, pe, hc⟩ := hG.rng
    refine (Tryz.strconv_Atoi_range (str l) (by omega) h (.iface te pe) w hc (.inr ⟨te, pe, rfl⟩)).mono ?_
    rintro e w' ⟨N, rfl, _, _, hb⟩
    exact ⟨.inr ⟨_, N, fun n => by rw [h]; simp, rfl⟩, hb⟩
  · obtain ⟨te, pe, hc⟩ := hG.syn
    refine (Tryz.strconv_Atoi_syntax (str l) (by omega) h (.iface te pe) w hc (.inr ⟨te, pe, rfl⟩)).mono ?_
    rintro e w' ⟨N, rfl, _, _, hb⟩
    exact ⟨.inr ⟨_, N, fun n => by rw [h]; exact atoi_nil n, rfl⟩, hb⟩

/-- what lies there is no elder than B -/
def Fresh (B : Nat) (A : Option Addr) : Prop := ∀ a, A = some a → B ≤ a.block

theorem Rd_of_own {w : World} {base : Nat} {e : TypeId} {size : Nat} {v : Value} {n : Nat} {xs : List Value} (h : w.ownsRow base e size v n xs) : ∃ A c, v = .slice A n c ∧ n ≤ c ∧ Rd w size A n xs ∧ Fresh base A := by
  obtain ⟨hl, h2⟩ := h
  rcases h2 with ⟨rfl, rfl⟩ | ⟨g, cap, cur, rfl, hbg, hg, hc, _, hcs, ht⟩
  · refine ⟨_, _, rfl, Nat.le_refl _, ⟨hl, fun h => absurd h (by omega)⟩, fun a h => by cases h⟩
  · refine ⟨_, _, rfl, hc, ⟨hl, fun _ => ⟨g, 0, rfl, (Array.getElem?_eq_some_iff.1 hg).1, fun j u hu => ?_⟩⟩, fun a h => by cases h; exact hbg⟩
    rw [cell_of_row w g (0 + j) _ _ _ hg, Nat.zero_add]
    rw [← ht, List.getElem?_take] at hu
    split at hu
    · simpa using hu
    · cases hu
end Go.Proofs.YtgajlhejefjhhaaGreatDoor
