/- Contracts and words: one hart alone has one outcome; events that are done one by one; with a fence more there are no other outcomes; chapter 13's example. No condition of ours. -/
import Derived.Test.YtnigadeohmlpiaaGreatDoorC27
namespace Go.Proofs.YtnigadeohmlpiaaGreatDoor

/-- what was stored to a word last, of the first i events -/
def lastW (l : List Ev) (a : Int) : Nat → Int
  | 0 => 0
  | i + 1 => match l[i]? with
    | some e => if e.k = 2 ∧ e.a = a then e.n else lastW l a i
    | none => lastW l a i
/-- what each load tells where one hart is alone -/
def wantL (l : List Ev) : List Int := (List.range l.length).filterMap fun i => match l[i]? with
  | some e => if e.k = 1 then some (lastW l e.a i) else none
  | none => none

/-- what is at a word, seen by a hart whose stores wait -/
def viewP (p : List (Int × Int)) (ws : List Int) (a : Nat) : Int := match p.reverse.find? (fun x => x.1 == (a : Int)) with
  | some x => x.2
  | none => ws.getD a 0
theorem load_view (M : Mm) (h a : Nat) : M.load h a = viewP (M.pend.getD h []) M.words a := rfl
theorem view_snoc (p : List (Int × Int)) (ws : List Int) (a : Nat) (b n : Int) : viewP (p ++ [(b, n)]) ws a = if b = a then n else viewP p ws a := by
  unfold viewP
  rw [List.reverse_append]
  by_cases h : b = a
  · simp [h]
  · simp [h]
theorem view_drain {p : List (Int × Int)} {ws : List Int} {k : Nat} {x : Int × Int} (hk : p[k]? = some x) (hno : ((p.take k).any fun y => y.1 == x.1) = false) (hx : 0 ≤ x.1) (hlt : x.1.toNat < ws.length) (a : Nat) : viewP (p.eraseIdx k) (ws.set x.1.toNat x.2) a = viewP p ws a := by
  have hkl := (List.getElem?_eq_some_iff.1 hk).1
  have hp : p = p.take k ++ x :: p.drop (k + 1) := by
    have h1 := (List.getElem?_eq_some_iff.1 hk).2
    conv => lhs; rw [← List.take_append_drop k p, List.drop_eq_getElem_cons hkl, h1]
  have he : p.eraseIdx k = p.take k ++ p.drop (k + 1) := List.eraseIdx_eq_take_drop_succ p k
  have hf : ∀ b : Nat, x.1 = b → (p.take k).reverse.find? (fun y => y.1 == (b : Int)) = none := fun b hb => by
    rw [List.find?_eq_none]
    intro y hy
    rw [List.any_eq_false] at hno
    have := hno y (List.mem_reverse.1 hy)
    rw [hb] at this
    exact this
  unfold viewP
  rw [he]
  conv => rhs; rw [hp]
  rw [List.reverse_append, List.reverse_append, List.reverse_cons, List.find?_append, List.find?_append, List.find?_append]
  cases (p.drop (k + 1)).reverse.find? (fun y => y.1 == (a : Int)) with
  | some y => rfl
  | none =>
    by_cases hxa : x.1 = a
    · rw [hf a hxa]
      have h1 : [x].find? (fun y => y.1 == (a : Int)) = some x := by simp [hxa]
      rw [h1]
      show (ws.set x.1.toNat x.2).getD a 0 = x.2
      rw [List.getD_eq_getElem?_getD, List.getElem?_set, if_pos (by omega), if_pos hlt]
      rfl
    · have h1 : [x].find? (fun y => y.1 == (a : Int)) = none := by simp [hxa]
      rw [h1]
      cases (p.take k).reverse.find? (fun y => y.1 == (a : Int)) with
      | some y => rfl
      | none =>
        show (ws.set x.1.toNat x.2).getD a 0 = ws.getD a 0
        rw [List.getD_eq_getElem?_getD, List.getElem?_set, if_neg (by omega), ← List.getD_eq_getElem?_getD]

/-- one hart's state, behind its first i events -/
structure Solo (l : List Ev) (H : Nat) (s : St) (i : Nat) : Prop where
  ok : s.Ok l.length
  il : i ≤ l.length
  dn : ∀ j, j < l.length → s.dn j = decide (j < i)
  oth : ∀ h, h ≠ H → s.m.pend.getD h [] = []
  vw : ∀ a : Nat, a < 4 → s.m.load H a = lastW l a i
  tl : ∀ j e, l[j]? = some e → e.k = 1 → j < i → s.told.getD j 0 = lastW l e.a j

section
variable {l : List Ev} {H : Nat}
theorem solo_next (hl : Prog l) (hH : ∀ e ∈ l, e.h = H) (h4 : H < 4) {s s' : St} {x : Pk} {i : Nat} (h : Solo l H s i) (hn : s.next l x = some s') : ∃ i', Solo l H s' i' := by
  have hok' := St.next_ok hl h.ok hn
  cases hx : x.d with
  | true =>
    obtain ⟨hN, kN, _, _, hN4, M', hdr, rfl⟩ := next_drain hx hn
    obtain ⟨y, hy, rfl⟩ := Mm.drain_parts hdr
    have hHN : hN = H := by
      refine Classical.byContradiction fun hc => ?_
      rw [h.oth hN hc] at hy
      cases hy
    subst hHN
    refine ⟨i, hok', h.il, h.dn, fun h' hh' => ?_, fun a ha => ?_, h.tl⟩
    · show (s.m.pend.set hN _).getD h' [] = []
      rw [List.getD_eq_getElem?_getD, List.getElem?_set, if_neg (fun e => hh' e.symm), ← List.getD_eq_getElem?_getD]
      exact h.oth h' hh'
    rw [← h.vw a ha]
    show viewP ((s.m.pend.set hN ((s.m.pend.getD hN []).eraseIdx kN)).getD hN []) (s.m.words.set y.1.toNat y.2) a = viewP (s.m.pend.getD hN []) s.m.words a
    have hpl := h.ok.m.lp
    have hmem : y ∈ s.m.pend.getD hN [] := List.mem_of_getElem? hy
    have hin : s.m.pend.getD hN [] ∈ s.m.pend := by
      rcases getD_mem (L := s.m.pend) (h := hN) with h1 | h1
      · exact h1
      · rw [h1] at hmem
        cases hmem
    have hye := h.ok.m.ent _ hin y hmem
    have hno : (((s.m.pend.getD hN []).take kN).any fun z => z.1 == y.1) = false := by
      unfold Mm.drain at hdr
      rw [hy] at hdr
      dsimp only at hdr
      split at hdr
      · cases hdr
      · rename_i hc
        exact (Bool.not_eq_true _).mp hc
    rw [List.getD_eq_getElem?_getD, List.getElem?_set, if_pos rfl, if_pos (by omega), Option.getD_some]
    exact view_drain hy hno hye.1 (by rw [h.ok.m.lw]; omega) a
  | false =>
    obtain ⟨j, e, hdue, he, hh, _, hst⟩ := next_event hx hn
    have heH := hH e (List.mem_of_getElem? he)
    have hjl := (List.getElem?_eq_some_iff.1 he).1
    obtain ⟨_, hnd, hbb⟩ := due_parts' hdue he
    have hji : j = i := by
      rw [h.dn j hjl] at hnd
      have h1 : ¬j < i := of_decide_eq_false hnd
      rcases Nat.lt_or_ge i j with h2 | h2
      · have hil : i < l.length := by omega
        have h3 := hbb i l[i] h2 (List.getElem?_eq_getElem hil) (by rw [hH _ (List.getElem_mem hil), ← heH, hh])
        rw [h.dn i hil] at h3
        simp at h3
      · omega
    subst hji
    have hdl : j < s.done.length := by rw [h.ok.d]; exact hjl
    have htl : j < s.told.length := by rw [h.ok.t]; exact hjl
    have heN : e.h.toNat = H := by omega
    have hok := hl.ok e (List.mem_of_getElem? he)
    have hdn : ∀ (M : Mm) (T : List Int) (q : Nat), q < l.length → (⟨M, s.done.set j true, T⟩ : St).dn q = decide (q < j + 1) := fun M T q hq => by
      rw [dn_step hdl, h.dn q hq]
      rcases Nat.lt_trichotomy q j with h1 | h1 | h1
      · have h3 : q < j + 1 := by omega
        simp [h1, h3]
      · simp [h1]
      · have h2 : ¬q < j := by omega
        have h3 : ¬q < j + 1 := by omega
        have h4 : ¬q = j := by omega
        simp [h2, h3, h4]
    have hlast : ∀ a, lastW l a (j + 1) = if e.k = 2 ∧ e.a = a then e.n else lastW l a j := fun a => by
      rw [lastW, he]
    unfold St.step at hst
    split at hst
    · rename_i h1
      injection hst with hst
      subst hst
      refine ⟨j + 1, hok', by omega, hdn _ _, h.oth, fun a ha => ?_, fun q x hq hk hlt => ?_⟩
      · rw [hlast, if_neg (by omega)]
        exact h.vw a ha
      · show (s.told.set j _).getD q 0 = _
        rw [List.getD_eq_getElem?_getD, List.getElem?_set]
        by_cases hqj : j = q
        · subst hqj
          rw [he] at hq
          obtain rfl := Option.some.inj hq
          rw [if_pos rfl, if_pos htl, heN]
          have := hok.a
          rw [show e.a = (e.a.toNat : Int) by omega]
          exact h.vw _ (by omega)
        · rw [if_neg hqj, ← List.getD_eq_getElem?_getD]
          exact h.tl q x hq hk (by omega)
    · split at hst
      · rename_i h2
        injection hst with hst
        subst hst
        refine ⟨j + 1, hok', by omega, hdn _ _, fun h' hh' => ?_, fun a ha => ?_, fun q x hq hk hlt => ?_⟩
        · show (s.m.pend.set e.h.toNat _).getD h' [] = []
          rw [List.getD_eq_getElem?_getD, List.getElem?_set, if_neg (fun e => hh' (by omega)), ← List.getD_eq_getElem?_getD]
          exact h.oth h' hh'
        · rw [load_view]
          show viewP ((s.m.pend.set e.h.toNat (s.m.pend.getD e.h.toNat [] ++ [(e.a, e.n)])).getD H []) s.m.words a = _
          have hpl := h.ok.m.lp
          rw [heN, List.getD_eq_getElem?_getD, List.getElem?_set, if_pos rfl, if_pos (by omega), Option.getD_some, view_snoc, hlast, ← load_view, h.vw a ha]
          simp [h2]
        · by_cases hqj : q = j
          · subst hqj
            rw [he] at hq
            obtain rfl := Option.some.inj hq
            omega
          · exact h.tl q x hq hk (by omega)
      · rename_i h1 h2
        split at hst
        · injection hst with hst
          subst hst
          refine ⟨j + 1, hok', by omega, hdn _ _, h.oth, fun a ha => ?_, fun q x hq hk hlt => ?_⟩
          · rw [hlast, if_neg (fun h => h2 h.1)]
            exact h.vw a ha
          · by_cases hqj : q = j
            · subst hqj
              rw [he] at hq
              obtain rfl := Option.some.inj hq
              omega
            · exact h.tl q x hq hk (by omega)
        · cases hst

theorem solo_run (hl : Prog l) (hH : ∀ e ∈ l, e.h = H) (h4 : H < 4) : ∀ {xs : List Pk} {s s' : St} {i : Nat}, Solo l H s i → s.run l xs = some s' → ∃ i', Solo l H s' i'
  | [], s, s', i, h, hr => by
    obtain rfl : s = s' := Option.some.inj hr
    exact ⟨i, h⟩
  | x :: xs, s, s', i, h, hr => by
    obtain ⟨s1, h1, h2⟩ := Option.bind_eq_some_iff.1 hr
    obtain ⟨i1, h3⟩ := solo_next hl hH h4 h h1
    exact solo_run hl hH h4 h3 h2

theorem toldL_want : ∀ {l : List Ev} {T : List Int} (F : Nat → Int → Int), T.length = l.length → (∀ j e, l[j]? = some e → e.k = 1 → T.getD j 0 = F j e.a) → toldL l T = (List.range l.length).filterMap fun i => match l[i]? with
    | some e => if e.k = 1 then some (F i e.a) else none
    | none => none := by
  intro l
  induction l with
  | nil => intro T F _ _; rfl
  | cons x l ih =>
    intro T F hT H
    cases T with
    | nil => simp at hT
    | cons t T =>
      have h1 := ih (T := T) (fun i a => F (i + 1) a) (by simpa using hT) fun j e hj hk => H (j + 1) e hj hk
      have h2 : toldL (x :: l) (t :: T) = (if x.k = 1 then [t] else []) ++ toldL l T := by
        unfold toldL
        rw [List.zip_cons_cons, List.filterMap_cons]
        by_cases h1 : x.k = 1 <;> simp [h1]
      rw [h2, h1, List.length_cons, List.range_succ_eq_map, List.filterMap_cons, List.filterMap_map]
      by_cases hx : x.k = 1
      · have := H 0 x rfl hx
        have ht : t = F 0 x.a := this
        simp [hx, ht]
        rfl
      · simp [hx]
        rfl

theorem solo_first : Solo l H (St.first l.length) 0 := by
  refine ⟨St.first_ok _, Nat.zero_le _, fun j hj => ?_, fun h _ => ?_, fun a ha => ?_, fun j e _ _ h => by omega⟩
  · unfold St.dn St.first
    simp [List.getD_eq_getElem?_getD, hj]
  · show ([[], [], [], []] : List (List (Int × Int))).getD h [] = []
    match h with
    | 0 | 1 | 2 | 3 => rfl
    | n + 4 => rfl
  · show viewP (([[], [], [], []] : List (List (Int × Int))).getD H []) [0, 0, 0, 0] a = 0
    have : ([[], [], [], []] : List (List (Int × Int))).getD H [] = [] := by
      match H with
      | 0 | 1 | 2 | 3 => rfl
      | n + 4 => rfl
    rw [this]
    match a, ha with
    | 0, _ | 1, _ | 2, _ | 3, _ => rfl

/-- one hart alone has one outcome -/
theorem alone_out (hl : Prog l) (hH : ∀ e ∈ l, e.h = H) (h4 : H < 4) (z : List Int) : (∃ xs, playP l xs = some z) ↔ z = wantL l := by
  have key : ∀ xs z, playP l xs = some z → z = wantL l := fun xs z hp => by
    unfold playP at hp
    obtain ⟨s', hr, ho⟩ := Option.bind_eq_some_iff.1 hp
    obtain ⟨i, hs⟩ := solo_run hl hH h4 solo_first hr
    obtain ⟨hd, hz⟩ := outcome_parts ho
    rw [hz]
    refine toldL_want (fun i a => lastW l a i) hs.ok.t fun j e hj hk => hs.tl j e hj hk ?_
    have hjl := (List.getElem?_eq_some_iff.1 hj).1
    have := hs.dn j hjl
    rw [hd j] at this
    exact of_decide_eq_true this.symm
  constructor
  · rintro ⟨xs, hp⟩
    exact key xs z hp
  · rintro rfl
    obtain ⟨xs, z, hp⟩ := some_outcome hl
    exact ⟨xs, by rw [← key xs z hp]; exact hp⟩
end
end Go.Proofs.YtnigadeohmlpiaaGreatDoor

namespace Go.Proofs.YtnigadeohmlpiaaGreatDoor

/-- an event is done at once, a store going to memory -/
def St.once (s : St) (e : Ev) (i : Nat) : St :=
  if e.k = 1 then ⟨s.m, s.done.set i true, s.told.set i (s.m.words.getD e.a.toNat 0)⟩
  else if e.k = 2 then ⟨⟨s.m.words.set e.a.toNat e.n, s.m.pend⟩, s.done.set i true, s.told⟩
  else ⟨s.m, s.done.set i true, s.told⟩
/-- the outcomes of events that are done one by one -/
def singP (l : List Ev) : Nat → St → List (List Int)
  | 0, s => [toldL l s.told]
  | f + 1, s => match s.outcome l with
    | some z => [z]
    | none => (List.range 4).flatMap fun (h : Nat) => match s.due l (h : Int) with
      | some i => match l[i]? with
        | some e => singP l f (s.once e i)
        | none => []
      | none => []

/-- nothing waits -/
def St.bare (s : St) : Prop := ∀ h, s.m.pend.getD h [] = []
section
variable {l : List Ev}

theorem once_done (s : St) (e : Ev) (i : Nat) : (s.once e i).done = s.done.set i true := by
  unfold St.once
  split
  · rfl
  · split <;> rfl
theorem once_pend (s : St) (e : Ev) (i : Nat) : (s.once e i).m.pend = s.m.pend := by
  unfold St.once
  split
  · rfl
  · split <;> rfl
theorem once_ok (hl : Prog l) {s : St} (hs : s.Ok l.length) {e : Ev} {i : Nat} (he : l[i]? = some e) (hd : s.dn i = false) : (s.once e i).Ok l.length := by
  have hd' : s.done[i]? = some false := getD_false hd
  have hc := count_set hd'
  have hok := hl.ok e (List.mem_of_getElem? he)
  have hp : ∀ q ∈ s.m.pend, q.length ≤ (s.done.set i true).count true := fun q hq => by have := hs.p q hq; omega
  have hw : I32 (s.m.words.getD e.a.toNat 0) := by
    rw [List.getD_eq_getElem?_getD]
    cases hx : s.m.words[e.a.toNat]? with
    | none => exact i32_zero
    | some z => exact hs.m.nw z (List.mem_of_getElem? hx)
  unfold St.once
  split
  · refine ⟨hs.m, by simp [hs.d], by simp [hs.t], fun z hz => ?_, hp⟩
    rcases List.mem_or_eq_of_mem_set hz with h1 | rfl
    · exact hs.i z h1
    · exact hw
  · split
    · refine ⟨⟨by simp [hs.m.lw], hs.m.lp, fun z hz => ?_, hs.m.few, hs.m.ent⟩, by simp [hs.d], hs.t, hs.i, hp⟩
      rcases List.mem_or_eq_of_mem_set hz with h1 | rfl
      · exact hs.m.nw z h1
      · exact hok.n
    · exact ⟨hs.m, by simp [hs.d], hs.t, hs.i, hp⟩

theorem run_one {s s' : St} {x : Pk} (h : s.next l x = some s') : s.run l [x] = some s' := by
  show (s.next l x).bind (fun s' => some s') = _
  rw [h]
  rfl
/-- it is played -/
theorem once_run (hl : Prog l) {s : St} (hs : s.Ok l.length) (hb : s.bare) {h : Nat} (h4 : h < 4) {i : Nat} {e : Ev} (hd : s.due l (h : Int) = some i) (he : l[i]? = some e) : ∃ xs, s.run l xs = some (s.once e i) := by
  obtain ⟨hh, hnd, _⟩ := due_parts' hd he
  have heN : e.h.toNat = h := by omega
  have hok := hl.ok e (List.mem_of_getElem? he)
  have hk := hok.k
  have hn := next_of_due hd he
  by_cases h1 : e.k = 1
  · refine ⟨[⟨h, false, 0⟩], run_one (hn.trans ?_)⟩
    unfold St.step St.once
    rw [if_pos h1, if_pos h1]
    have : s.m.load e.h.toNat e.a.toNat = s.m.words.getD e.a.toNat 0 := by
      rw [load_view, hb]
      rfl
    rw [this]
  · by_cases h2 : e.k = 2
    · have h3 : s.next l ⟨h, false, 0⟩ = some ⟨s.m.store e.h.toNat e.a e.n, s.done.set i true, s.told⟩ := by
        rw [hn]
        unfold St.step
        rw [if_neg h1, if_pos h2]
      refine ⟨[⟨h, false, 0⟩] ++ [⟨h, true, (0 : Nat)⟩], ?_⟩
      rw [run_append (run_one h3)]
      refine run_one ?_
      have hpl := hs.m.lp
      have hpe : (s.m.store e.h.toNat e.a e.n).pend.getD h [] = [(e.a, e.n)] := by
        show (s.m.pend.set e.h.toNat (s.m.pend.getD e.h.toNat [] ++ [(e.a, e.n)])).getD h [] = _
        rw [heN, List.getD_eq_getElem?_getD, List.getElem?_set, if_pos rfl, if_pos (by omega), Option.getD_some, hb]
        rfl
      have hdr : (s.m.store e.h.toNat e.a e.n).drain h 0 = some ⟨s.m.words.set e.a.toNat e.n, s.m.pend⟩ := by
        unfold Mm.drain
        rw [hpe]
        show (if ((List.take 0 [(e.a, e.n)]).any fun y => y.1 == e.a) = true then none else some (⟨s.m.words.set e.a.toNat e.n, (s.m.store e.h.toNat e.a e.n).pend.set h []⟩ : Mm)) = _
        rw [if_neg (by simp)]
        congr 2
        show (s.m.pend.set e.h.toNat _).set h [] = s.m.pend
        rw [heN, List.set_set]
        apply List.ext_getElem?
        intro j
        rw [List.getElem?_set]
        by_cases hj : h = j
        · subst hj
          rw [if_pos rfl, if_pos (by omega)]
          have := hb h
          rw [List.getD_eq_getElem?_getD, List.getElem?_eq_getElem (by omega)] at this
          rw [List.getElem?_eq_getElem (by omega)]
          exact congrArg some this.symm
        · rw [if_neg hj]
      rw [next_of_drain h4 hdr]
      unfold St.once
      rw [if_neg h1, if_pos h2]
    · refine ⟨[⟨h, false, 0⟩], run_one (hn.trans ?_)⟩
      unfold St.step St.once
      rw [if_neg h1, if_neg h2, if_neg h1, if_neg h2, if_pos (hb _)]

/-- what comes of events that are done one by one is played -/
theorem singP_run (hl : Prog l) : ∀ (f : Nat) (s : St), s.Ok l.length → s.bare → s.done.count false ≤ f → ∀ z ∈ singP l f s, ∃ xs u, s.run l xs = some u ∧ u.outcome l = some z := by
  intro f
  induction f with
  | zero =>
    intro s hs hb hc z hz
    have hd : ∀ i, s.dn i = true := fun i => by
      cases hd : s.dn i with
      | true => rfl
      | false =>
        have := count_set_false (getD_false hd)
        omega
    have hz : z = toldL l s.told := by simpa [singP] using hz
    exact ⟨[], s, rfl, by rw [outcome_eq hd, hz]⟩
  | succ f ih =>
    intro s hs hb hc z hz
    rw [singP] at hz
    cases ho : s.outcome l with
    | some z' =>
      rw [ho] at hz
      have hz : z = z' := by simpa using hz
      exact ⟨[], s, rfl, by rw [ho, hz]⟩
    | none =>
      rw [ho] at hz
      obtain ⟨h, hh, hz⟩ := List.mem_flatMap.1 hz
      have h4 := List.mem_range.1 hh
      cases hd : s.due l (h : Int) with
      | none => rw [hd] at hz; cases hz
      | some i =>
        rw [hd] at hz
        dsimp only at hz
        cases he : l[i]? with
        | none => rw [he] at hz; cases hz
        | some e =>
          rw [he] at hz
          obtain ⟨_, hnd, _⟩ := due_parts' hd he
          obtain ⟨xs, hr⟩ := once_run hl hs hb h4 hd he
          have hcc := count_set_false (getD_false hnd)
          obtain ⟨ys, u, h1, h2⟩ := ih (s.once e i) (once_ok hl hs he hnd) (fun h => by rw [once_pend]; exact hb h) (by rw [once_done]; omega) z hz
          exact ⟨xs ++ ys, u, by rw [run_append hr]; exact h1, h2⟩

theorem first_bare (n : Nat) : (St.first n).bare := fun h => by
  show ([[], [], [], []] : List (List (Int × Int))).getD h [] = []
  match h with
  | 0 | 1 | 2 | 3 => rfl
  | n + 4 => rfl
theorem first_count (n : Nat) : (St.first n).done.count false = n := by simp [St.first]
theorem singly_played (hl : Prog l) {f : Nat} (hf : l.length ≤ f) : ∀ z ∈ singP l f (St.first l.length), ∃ xs, playP l xs = some z := fun z hz => by
  obtain ⟨xs, u, h1, h2⟩ := singP_run hl f _ (St.first_ok _) (first_bare _) (by rw [first_count]; exact hf) z hz
  exact ⟨xs, by unfold playP; rw [h1]; exact h2⟩

/-! ### with fences between all -/
/-- a store is followed by its hart's fence -/
def Fenced (l : List Ev) : Prop := ∀ (i : Nat) (e : Ev), l[i]? = some e → e.k = 2 → ∃ x : Ev, l[i + 1]? = some x ∧ x.k = 3 ∧ x.h = e.h

/-- the one is the other, but for stores that wait -/
structure Sc (l : List Ev) (s u : St) : Prop where
  ok : u.Ok l.length
  bare : u.bare
  ws : u.m.words = s.m.words
  tl : u.told = s.told
  dl : s.done.length = l.length
  tll : s.told.length = l.length
  pl : s.m.pend.length = 4
  pre : ∀ i j ei ej, l[i]? = some ei → l[j]? = some ej → j < i → ej.h = ei.h → s.dn i = true → s.dn j = true
  hart : ∀ h : Nat, h < 4 → (s.m.pend.getD h [] = [] ∧ ∀ (k : Nat) (e : Ev), l[k]? = some e → e.h = (h : Int) → u.dn k = s.dn k) ∨
    (∃ (i : Nat) (e : Ev), l[i]? = some e ∧ e.h = (h : Int) ∧ e.k = 2 ∧ s.m.pend.getD h [] = [(e.a, e.n)] ∧ s.dn i = true ∧ (∀ (k : Nat) (x : Ev), l[k]? = some x → x.h = (h : Int) → i < k → s.dn k = false) ∧ ∀ (k : Nat) (x : Ev), l[k]? = some x → x.h = (h : Int) → u.dn k = (s.dn k && !decide (k = i)))

theorem singP_once {u : St} {f : Nat} {h : Nat} {i : Nat} {e : Ev} {z : List Int} (h4 : h < 4) (hd : u.due l (h : Int) = some i) (he : l[i]? = some e) (hz : z ∈ singP l f (u.once e i)) : z ∈ singP l (f + 1) u := by
  obtain ⟨_, hnd, _⟩ := due_parts' hd he
  rw [singP]
  cases ho : u.outcome l with
  | some z' =>
    rw [(outcome_parts ho).1 i] at hnd
    cases hnd
  | none =>
    refine List.mem_flatMap.2 ⟨h, List.mem_range.2 h4, ?_⟩
    rw [hd]
    dsimp only
    rw [he]
    exact hz
theorem once_dn {u : St} {i : Nat} {e : Ev} (hi : i < u.done.length) (k : Nat) : (u.once e i).dn k = (decide (k = i) || u.dn k) := by
  unfold St.dn
  rw [once_done]
  exact dn_set u.done hi k

theorem sc_run (hl : Prog l) (hF : Fenced l) : ∀ (xs : List Pk) (s u : St) (f : Nat) (s' : St) (z : List Int), Sc l s u → s.run l xs = some s' → s'.outcome l = some z → u.done.count false ≤ f → z ∈ singP l f u := by
  intro xs
  induction xs with
  | nil =>
    intro s u f s' z R hr ho hf
    obtain rfl : s = s' := Option.some.inj hr
    obtain ⟨hd, hz⟩ := outcome_parts ho
    have hud : ∀ i, u.dn i = true := fun i => by
      rcases Nat.lt_or_ge i l.length with hi | hi
      · have he : l[i]? = some l[i] := List.getElem?_eq_getElem hi
        have hok := (hl.ok _ (List.getElem_mem hi)).h
        rcases R.hart l[i].h.toNat (by omega) with ⟨_, h2⟩ | ⟨j, x, h1, h2, h3, _, _, h6, _⟩
        · rw [h2 i _ he (by omega)]
          exact hd i
        · obtain ⟨y, h7, _, h9⟩ := hF j x h1 h3
          have := h6 (j + 1) y h7 (h9.trans h2) (by omega)
          rw [hd] at this
          cases this
      · unfold St.dn
        rw [List.getD_eq_getElem?_getD, List.getElem?_eq_none (by rw [R.ok.d]; exact hi)]
        rfl
    have huo : u.outcome l = some z := by rw [outcome_eq hud, hz, R.tl]
    cases f with
    | zero =>
      rw [singP, hz, R.tl]
      exact List.mem_singleton.2 rfl
    | succ f =>
      rw [singP, huo]
      exact List.mem_singleton.2 rfl
  | cons x xs ih =>
    intro s u f s' z R hr ho hf
    obtain ⟨s1, hn, hr⟩ := Option.bind_eq_some_iff.1 hr
    -- an event that both do at once
    have both : ∀ (h i : Nat) (e : Ev) (M : Mm) (T : List Int), h < 4 → l[i]? = some e → e.h = (h : Int) → s.due l (h : Int) = some i → (s.m.pend.getD h [] = [] ∧ ∀ (k : Nat) (e : Ev), l[k]? = some e → e.h = (h : Int) → u.dn k = s.dn k) →
        s1 = ⟨M, s.done.set i true, T⟩ → M.pend = s.m.pend → (u.once e i).m.words = M.words → (u.once e i).told = T → T.length = l.length → z ∈ singP l f u := by
      intro h i e M T h4 he hh hd ⟨hp, hu⟩ hs1 hMp hMw hT hTl
      obtain ⟨_, hnd, hbb⟩ := due_parts' hd he
      have hil := (List.getElem?_eq_some_iff.1 he).1
      have hund : u.dn i = false := by rw [hu i e he hh]; exact hnd
      have hud : u.due l (h : Int) = some i := St.due_iff.2 ⟨e, he, hh, hund, fun j ej hj hx hxh => by rw [hu j ej hx hxh]; exact hbb j ej hj hx hxh⟩
      have hcc := count_set_false (getD_false hund)
      obtain ⟨f', rfl⟩ : ∃ f', f = f' + 1 := ⟨f - 1, by omega⟩
      have hid : i < s.done.length := by rw [R.dl]; exact hil
      have hiu : i < u.done.length := by rw [R.ok.d]; exact hil
      subst hs1
      refine singP_once h4 hud he (ih (⟨M, s.done.set i true, T⟩ : St) (u.once e i) f' s' z ⟨once_ok hl R.ok he hund, fun h => by rw [once_pend]; exact R.bare h, hMw, hT, by simp [R.dl], hTl, by show M.pend.length = 4; rw [hMp]; exact R.pl, ?_, fun h' hh' => ?_⟩ hr ho (by rw [once_done]; omega))
      · intro a b ea eb ha hb hlt hab hda
        rw [dn_step hid] at hda ⊢
        by_cases hai : a = i
        · subst hai
          rw [he] at ha
          obtain rfl := Option.some.inj ha
          rw [hbb b eb hlt hb (hab.trans hh)]
          simp
        · simp only [hai, decide_false, Bool.false_or] at hda
          rw [R.pre a b ea eb ha hb hlt hab hda]
          simp
      · show (M.pend.getD h' [] = [] ∧ _) ∨ _
        rw [hMp]
        by_cases hhh : h' = h
        · subst hhh
          refine .inl ⟨hp, fun k x hx hxh => ?_⟩
          rw [dn_step hid, once_dn hiu, hu k x hx hxh]
        · have hk : ∀ (k : Nat) (x : Ev), l[k]? = some x → x.h = (h' : Int) → ¬k = i := fun k x hx hxh e2 => by
            subst e2
            rw [he] at hx
            obtain rfl := Option.some.inj hx
            omega
          rcases R.hart h' hh' with ⟨g1, g2⟩ | ⟨j, y, g1, g2, g3, g4, g5, g6, g7⟩
          · refine .inl ⟨g1, fun k x hx hxh => ?_⟩
            rw [dn_step hid, once_dn hiu, g2 k x hx hxh]
          · refine .inr ⟨j, y, g1, g2, g3, g4, by rw [dn_step hid, g5]; simp, fun k x hx hxh hjk => ?_, fun k x hx hxh => ?_⟩
            · rw [dn_step hid, g6 k x hx hxh hjk]
              simp [hk k x hx hxh]
            · rw [dn_step hid, once_dn hiu, g7 k x hx hxh]
              simp [hk k x hx hxh]
    cases hx : x.d with
    | true =>
      obtain ⟨hN, kN, _, _, h4, M', hdr, rfl⟩ := next_drain hx hn
      obtain ⟨y, hy, hM'⟩ := Mm.drain_parts hdr
      rcases R.hart hN h4 with ⟨h1, _⟩ | ⟨i, e, h1, h2, h3, h4', h5, h6, h7⟩
      · rw [h1] at hy
        cases hy
      · rw [h4'] at hy
        have hk0 : kN = 0 := by
          have := (List.getElem?_eq_some_iff.1 hy).1
          simp at this
          exact this
        subst hk0
        obtain rfl : (e.a, e.n) = y := Option.some.inj hy
        have hil := (List.getElem?_eq_some_iff.1 h1).1
        have hund : u.dn i = false := by rw [h7 i e h1 h2]; simp
        have hud : u.due l (hN : Int) = some i := St.due_iff.2 ⟨e, h1, h2, hund, fun j ej hj hxj hxh => by
          rw [h7 j ej hxj hxh, R.pre i j e ej h1 hxj hj (hxh.trans h2.symm) h5]
          have : ¬j = i := by omega
          simp [this]⟩
        have hcc := count_set_false (getD_false hund)
        obtain ⟨f', rfl⟩ : ∃ f', f = f' + 1 := ⟨f - 1, by omega⟩
        have hiu : i < u.done.length := by rw [R.ok.d]; exact hil
        have hon : u.once e i = ⟨⟨u.m.words.set e.a.toNat e.n, u.m.pend⟩, u.done.set i true, u.told⟩ := by
          unfold St.once
          rw [if_neg (by omega), if_pos h3]
        have hMp : M'.pend = s.m.pend.set hN [] := by
          rw [hM', h4']
          rfl
        refine singP_once h4 hud h1 (ih (⟨M', s.done, s.told⟩ : St) (u.once e i) f' s' z ⟨once_ok hl R.ok h1 hund, fun h => by rw [once_pend]; exact R.bare h, ?_, ?_, R.dl, R.tll, ?_, R.pre, fun h' hh' => ?_⟩ hr ho (by rw [once_done]; omega))
        · rw [hon, hM', R.ws]
        · rw [hon]
          exact R.tl
        · show M'.pend.length = 4
          rw [hMp]
          simp [R.pl]
        · show (M'.pend.getD h' [] = [] ∧ _) ∨ _
          rw [hMp]
          by_cases hhh : h' = hN
          · subst hhh
            refine .inl ⟨?_, fun k x hx hxh => ?_⟩
            · rw [List.getD_eq_getElem?_getD, List.getElem?_set, if_pos rfl, if_pos (by rw [R.pl]; omega)]
              rfl
            · rw [once_dn hiu, h7 k x hx hxh]
              show _ = s.dn k
              by_cases hki : k = i
              · subst hki
                simp [h5]
              · simp [hki]
          · have hk : ∀ (k : Nat) (x : Ev), l[k]? = some x → x.h = (h' : Int) → ¬k = i := fun k x hx hxh e2 => by
              subst e2
              rw [h1] at hx
              obtain rfl := Option.some.inj hx
              omega
            rw [show (s.m.pend.set hN []).getD h' [] = s.m.pend.getD h' [] by rw [List.getD_eq_getElem?_getD, List.getElem?_set, if_neg (fun e => hhh e.symm), ← List.getD_eq_getElem?_getD]]
            rcases R.hart h' hh' with ⟨g1, g2⟩ | ⟨j, y, g1, g2, g3, g4, g5, g6, g7⟩
            · refine .inl ⟨g1, fun k x hx hxh => ?_⟩
              rw [once_dn hiu, g2 k x hx hxh]
              show _ = s.dn k
              simp [hk k x hx hxh]
            · refine .inr ⟨j, y, g1, g2, g3, g4, g5, g6, fun k x hx hxh => ?_⟩
              rw [once_dn hiu, g7 k x hx hxh]
              show _ = (s.dn k && _)
              simp [hk k x hx hxh]
    | false =>
      obtain ⟨i, e, hdue, he, hh, _, hst⟩ := next_event hx hn
      have hok := hl.ok e (List.mem_of_getElem? he)
      have hok4 := hok.h
      have hok3 := hok.k
      have hil := (List.getElem?_eq_some_iff.1 he).1
      obtain ⟨_, hnd, hbb⟩ := due_parts' hdue he
      have hhN : e.h = (e.h.toNat : Int) := by omega
      rw [← hh, hhN] at hdue
      rcases R.hart e.h.toNat (by omega) with hE | ⟨j, y, g1, g2, g3, g4, g5, g6, g7⟩
      · unfold St.step at hst
        split at hst
        · rename_i h1
          injection hst with hst
          refine both e.h.toNat i e _ _ (by omega) he hhN hdue hE hst.symm rfl ?_ ?_ (by simp [R.tll])
          · unfold St.once
            rw [if_pos h1]
            exact R.ws
          · unfold St.once
            rw [if_pos h1, load_view, hE.1, R.tl, R.ws]
            rfl
        · rename_i h1
          split at hst
          · rename_i h2
            injection hst with hst
            subst hst
            -- the store waits
            have hid : i < s.done.length := by rw [R.dl]; exact hil
            refine ih (⟨s.m.store e.h.toNat e.a e.n, s.done.set i true, s.told⟩ : St) u f s' z ⟨R.ok, R.bare, R.ws, R.tl, by simp [R.dl], R.tll, by simp [Mm.store, R.pl], ?_, fun h' hh' => ?_⟩ hr ho hf
            · intro a b ea eb ha hb hlt hab hda
              rw [dn_step hid] at hda ⊢
              by_cases hai : a = i
              · subst hai
                rw [he] at ha
                obtain rfl := Option.some.inj ha
                rw [hbb b eb hlt hb (hab.trans hh)]
                simp
              · simp only [hai, decide_false, Bool.false_or] at hda
                rw [R.pre a b ea eb ha hb hlt hab hda]
                simp
            · show ((s.m.pend.set e.h.toNat (s.m.pend.getD e.h.toNat [] ++ [(e.a, e.n)])).getD h' [] = [] ∧ _) ∨ _
              by_cases hhh : h' = e.h.toNat
              · subst hhh
                refine .inr ⟨i, e, he, hhN, h2, ?_, by rw [dn_step hid]; simp, fun k x hx hxh hik => ?_, fun k x hx hxh => ?_⟩
                · show (s.m.pend.set e.h.toNat (s.m.pend.getD e.h.toNat [] ++ [(e.a, e.n)])).getD e.h.toNat [] = _
                  rw [List.getD_eq_getElem?_getD, List.getElem?_set, if_pos rfl, if_pos (by rw [R.pl]; omega), Option.getD_some, hE.1]
                  rfl
                · rw [dn_step hid]
                  have hki : ¬k = i := by omega
                  cases hk : s.dn k with
                  | false => simp [hki]
                  | true =>
                    rw [R.pre k i x e hx he hik (hhN.trans hxh.symm) hk] at hnd
                    cases hnd
                · rw [dn_step hid, hE.2 k x hx hxh]
                  by_cases hki : k = i
                  · subst hki
                    simp [hnd]
                  · simp [hki]
              · have hk : ∀ (k : Nat) (x : Ev), l[k]? = some x → x.h = (h' : Int) → ¬k = i := fun k x hx hxh e2 => by
                  subst e2
                  rw [he] at hx
                  obtain rfl := Option.some.inj hx
                  omega
                have hsame : (s.m.pend.set e.h.toNat (s.m.pend.getD e.h.toNat [] ++ [(e.a, e.n)])).getD h' [] = s.m.pend.getD h' [] := by
                  rw [List.getD_eq_getElem?_getD, List.getElem?_set, if_neg (fun e => hhh e.symm), ← List.getD_eq_getElem?_getD]
                rcases R.hart h' hh' with ⟨g1, g2⟩ | ⟨j, y, g1, g2, g3, g4, g5, g6, g7⟩
                · refine .inl ⟨by rw [hsame]; exact g1, fun k x hx hxh => ?_⟩
                  rw [dn_step hid, g2 k x hx hxh]
                  simp [hk k x hx hxh]
                · refine .inr ⟨j, y, g1, g2, g3, by show (s.m.pend.set e.h.toNat _).getD h' [] = _; rw [hsame]; exact g4, by rw [dn_step hid, g5]; simp, fun k x hx hxh hjk => ?_, fun k x hx hxh => ?_⟩
                  · rw [dn_step hid, g6 k x hx hxh hjk]
                    simp [hk k x hx hxh]
                  · rw [dn_step hid, g7 k x hx hxh]
                    simp [hk k x hx hxh]
          · rename_i h2
            split at hst
            · injection hst with hst
              refine both e.h.toNat i e _ _ (by omega) he hhN hdue hE hst.symm rfl ?_ ?_ R.tll
              · unfold St.once
                rw [if_neg h1, if_neg h2]
                exact R.ws
              · unfold St.once
                rw [if_neg h1, if_neg h2]
                exact R.tl
            · cases hst
      · -- a store waits: the next event is its fence, which may not be
        exfalso
        obtain ⟨w, h7, h8, h9⟩ := hF j y g1 g3
        have hji : j < i := by
          rcases Nat.lt_trichotomy j i with h1 | h1 | h1
          · exact h1
          · subst h1
            rw [g5] at hnd
            cases hnd
          · rw [R.pre j i y e g1 he h1 (hhN.trans g2.symm) g5] at hnd
            cases hnd
        have hij : i = j + 1 := by
          rcases Nat.lt_or_ge (j + 1) i with h1 | h1
          · have h3 := hbb (j + 1) w h1 h7 (by rw [h9, g2]; omega)
            rw [g6 (j + 1) w h7 (h9.trans g2) (by omega)] at h3
            cases h3
          · omega
        subst hij
        rw [h7] at he
        obtain rfl := Option.some.inj he
        unfold St.step at hst
        rw [if_neg (by omega), if_neg (by omega), if_neg (by rw [g4]; simp)] at hst
        cases hst

/-- with fences between all nothing else is played -/
theorem fenced_singly (hl : Prog l) (hF : Fenced l) {f : Nat} (hf : l.length ≤ f) {xs : List Pk} {z : List Int} (hp : playP l xs = some z) : z ∈ singP l f (St.first l.length) := by
  unfold playP at hp
  obtain ⟨s', hr, ho⟩ := Option.bind_eq_some_iff.1 hp
  refine sc_run hl hF xs _ _ f s' z ⟨St.first_ok _, first_bare _, rfl, rfl, by simp [St.first], by simp [St.first], rfl, (inv_first l).pre, fun h _ => .inl ⟨first_bare _ h, fun _ _ _ _ => rfl⟩⟩ hr ho (by rw [first_count]; exact hf)
end
end Go.Proofs.YtnigadeohmlpiaaGreatDoor

namespace Go.Proofs.YtnigadeohmlpiaaGreatDoor

theorem erase_at {α : Type} (L : List α) (k i : Nat) : (L.eraseIdx k)[i]? = if i < k then L[i]? else L[i + 1]? := List.getElem?_eraseIdx
/-- a place behind a list without the k-th thing -/
def gone (k i : Nat) : Nat := if i < k then i else i - 1
theorem erase_gone {α : Type} (L : List α) {k i : Nat} (h : i ≠ k) : (L.eraseIdx k)[gone k i]? = L[i]? := by
  rw [erase_at]
  unfold gone
  by_cases h1 : i < k
  · rw [if_pos h1, if_pos h1]
  · rw [if_neg h1, if_neg (by omega), show i - 1 + 1 = i by omega]
theorem erase_set_same {α : Type} (L : List α) (k : Nat) (x : α) : (L.set k x).eraseIdx k = L.eraseIdx k := by
  apply List.ext_getElem?
  intro i
  rw [erase_at, erase_at, List.getElem?_set, List.getElem?_set]
  by_cases h1 : i < k
  · rw [if_pos h1, if_pos h1, if_neg (by omega)]
  · rw [if_neg h1, if_neg h1, if_neg (by omega)]
theorem erase_set {α : Type} (L : List α) {k i : Nat} (h : i ≠ k) (x : α) : (L.set i x).eraseIdx k = (L.eraseIdx k).set (gone k i) x := by
  apply List.ext_getElem?
  intro j
  rw [erase_at, List.getElem?_set, List.getElem?_set, List.getElem?_set, List.length_eraseIdx, erase_at]
  unfold gone
  by_cases h1 : j < k
  · simp only [h1, if_true]
    by_cases h2 : i = j
    · subst h2
      simp only [h1, if_true]
      by_cases h3 : i < L.length
      · have h4 : i < if k < L.length then L.length - 1 else L.length := by split <;> omega
        simp [h3, h4]
      · have h4 : ¬i < if k < L.length then L.length - 1 else L.length := by split <;> omega
        simp [h3, h4]
    · rw [if_neg h2, if_neg (by split <;> omega)]
  · simp only [h1, if_false]
    by_cases h2 : i = j + 1
    · subst h2
      have h5 : ¬j + 1 < k := by omega
      simp only [h5, if_false, if_true, Nat.add_sub_cancel]
      by_cases h3 : j + 1 < L.length
      · have h4 : j < if k < L.length then L.length - 1 else L.length := by split <;> omega
        simp [h3, h4]
      · have h4 : ¬j < if k < L.length then L.length - 1 else L.length := by split <;> omega
        simp [h3, h4]
    · rw [if_neg h2, if_neg (by split <;> omega)]

section
variable {m : List Ev} {k : Nat} {x : Ev}

/-- a state without the k-th event -/
def St.del (s : St) (k : Nat) : St := ⟨s.m, s.done.eraseIdx k, s.told.eraseIdx k⟩
theorem del_dn {s : St} {i : Nat} (h : i ≠ k) : (s.del k).dn (gone k i) = s.dn i := by
  unfold St.dn St.del
  rw [List.getD_eq_getElem?_getD, erase_gone _ h, ← List.getD_eq_getElem?_getD]

theorem del_step {s s' : St} {e : Ev} {i : Nat} (h : i ≠ k) (hs : s.step e i = some s') : (s.del k).step e (gone k i) = some (s'.del k) := by
  unfold St.step at hs ⊢
  split at hs
  · rename_i h1
    injection hs with hs
    subst hs
    rw [if_pos h1]
    unfold St.del
    rw [erase_set _ h, erase_set _ h]
  · rename_i h1
    rw [if_neg h1]
    split at hs
    · rename_i h2
      injection hs with hs
      subst hs
      rw [if_pos h2]
      unfold St.del
      rw [erase_set _ h]
    · rename_i h2
      rw [if_neg h2]
      split at hs
      · rename_i h3
        injection hs with hs
        subst hs
        rw [if_pos (show (s.del k).m.pend.getD e.h.toNat [] = [] from h3)]
        unfold St.del
        rw [erase_set _ h]
      · cases hs

theorem del_next (hx : m[k]? = some x) (hk : x.k = 3) {s s' : St} {p : Pk} (h : s.next m p = some s') : s'.del k = s.del k ∨ (s.del k).next (m.eraseIdx k) p = some (s'.del k) := by
  cases hd : p.d with
  | true =>
    obtain ⟨hN, kN, h1, h2, h4, M', hdr, rfl⟩ := next_drain hd h
    right
    have : p = ⟨(hN : Int), true, (kN : Int)⟩ := by
      obtain ⟨a, b, c⟩ := p
      simp only at h1 h2 hd
      rw [h1, h2, hd]
    rw [this, next_of_drain (s := s.del k) h4 hdr]
    rfl
  | false =>
    obtain ⟨i, e, hdue, he, hh, hw, hst⟩ := next_event hd h
    by_cases hik : i = k
    · subst hik
      rw [hx] at he
      obtain rfl := Option.some.inj he
      left
      unfold St.step at hst
      rw [if_neg (by omega), if_neg (by omega)] at hst
      split at hst
      · injection hst with hst
        subst hst
        unfold St.del
        rw [erase_set_same]
      · cases hst
    · right
      obtain ⟨_, hnd, hbb⟩ := due_parts' hdue he
      have he' : (m.eraseIdx k)[gone k i]? = some e := by rw [erase_gone _ hik]; exact he
      have hdue' : (s.del k).due (m.eraseIdx k) p.h = some (gone k i) := by
        refine St.due_iff.2 ⟨e, he', hh, by rw [del_dn hik]; exact hnd, fun j ej hj hej hhj => ?_⟩
        rw [erase_at] at hej
        unfold gone at hj
        by_cases hjk : j < k
        · rw [if_pos hjk] at hej
          have := hbb j ej (by split at hj <;> omega) hej hhj
          rw [← del_dn (k := k) (show j ≠ k by omega)] at this
          unfold gone at this
          rw [if_pos hjk] at this
          exact this
        · rw [if_neg hjk] at hej
          have := hbb (j + 1) ej (by split at hj <;> omega) hej hhj
          rw [← del_dn (k := k) (show j + 1 ≠ k by omega)] at this
          unfold gone at this
          rw [if_neg (by omega), Nat.add_sub_cancel] at this
          exact this
      have hp : p = ⟨p.h, false, 0⟩ := by
        obtain ⟨a, b, c⟩ := p
        simp only at hd hw
        rw [hd, hw]
      rw [hp, next_of_due hdue' he']
      exact del_step hik hst

theorem del_run (hx : m[k]? = some x) (hk : x.k = 3) : ∀ {xs : List Pk} {s s' : St}, s.run m xs = some s' → ∃ ys, (s.del k).run (m.eraseIdx k) ys = some (s'.del k)
  | [], s, s', h => by
    obtain rfl : s = s' := Option.some.inj h
    exact ⟨[], rfl⟩
  | p :: xs, s, s', h => by
    obtain ⟨s1, h1, h2⟩ := Option.bind_eq_some_iff.1 h
    obtain ⟨ys, h3⟩ := del_run hx hk h2
    rcases del_next hx hk h1 with h4 | h4
    · exact ⟨ys, by rw [← h4]; exact h3⟩
    · refine ⟨p :: ys, ?_⟩
      show ((s.del k).next (m.eraseIdx k) p).bind (fun s' => s'.run (m.eraseIdx k) ys) = _
      rw [h4]
      exact h3

theorem toldL_del : ∀ {m : List Ev} {T : List Int} {k : Nat} {x : Ev}, T.length = m.length → m[k]? = some x → x.k = 3 → toldL (m.eraseIdx k) (T.eraseIdx k) = toldL m T := by
  intro m
  induction m with
  | nil => intro T k x _ h; simp at h
  | cons y m ih =>
    intro T k x hT hx hk
    cases T with
    | nil => simp at hT
    | cons t T =>
      have hc : ∀ (m : List Ev) (T : List Int), toldL (y :: m) (t :: T) = (if y.k = 1 then [t] else []) ++ toldL m T := fun m T => by
        unfold toldL
        rw [List.zip_cons_cons, List.filterMap_cons]
        by_cases h1 : y.k = 1 <;> simp [h1]
      cases k with
      | zero =>
        obtain rfl : y = x := Option.some.inj hx
        rw [hc, if_neg (by omega)]
        rfl
      | succ k =>
        rw [List.eraseIdx_cons_succ, List.eraseIdx_cons_succ, hc, hc, ih (by simpa using hT) hx hk]

/-- with a fence more there are no other outcomes -/
theorem fewer_out (hm : Prog m) (hx : m[k]? = some x) (hk : x.k = 3) {z : List Int} (hp : ∃ xs, playP m xs = some z) : ∃ xs, playP (m.eraseIdx k) xs = some z := by
  obtain ⟨xs, hp⟩ := hp
  unfold playP at hp
  obtain ⟨s', hr, ho⟩ := Option.bind_eq_some_iff.1 hp
  obtain ⟨hd, hz⟩ := outcome_parts ho
  have hok := run_lens hm (St.first_ok m.length) hr
  obtain ⟨ys, h1⟩ := del_run hx hk hr
  have hkl := (List.getElem?_eq_some_iff.1 hx).1
  have hf : (St.first m.length).del k = St.first (m.eraseIdx k).length := by
    unfold St.first St.del
    rw [List.length_eraseIdx_of_lt hkl, List.eraseIdx_replicate, List.eraseIdx_replicate, if_pos hkl, if_pos hkl]
  rw [hf] at h1
  refine ⟨ys, ?_⟩
  unfold playP
  rw [h1]
  show (s'.del k).outcome (m.eraseIdx k) = some z
  have hd' : ∀ i, (s'.del k).dn i = true := fun i => by
    unfold St.dn St.del
    rw [List.getD_eq_getElem?_getD, erase_at]
    split
    · rw [← List.getD_eq_getElem?_getD]
      exact hd i
    · rw [← List.getD_eq_getElem?_getD]
      exact hd (i + 1)
  rw [outcome_eq hd', hz]
  show some (toldL (m.eraseIdx k) (s'.told.eraseIdx k)) = _
  rw [toldL_del hok.t hx hk]
end

/-- rising lists, the one among the other: it is not longer -/
theorem nodup_len {α : Type} [DecidableEq α] : ∀ {L K : List α}, L.Nodup → (∀ z ∈ L, z ∈ K) → L.length ≤ K.length
  | [], _, _, _ => Nat.zero_le _
  | x :: L, K, hn, hs => by
    obtain ⟨h1, h2⟩ := List.nodup_cons.1 hn
    have hx := hs x List.mem_cons_self
    have h3 := nodup_len (L := L) (K := K.erase x) h2 fun z hz => by
      refine (List.mem_erase_of_ne (fun e => ?_)).2 (hs z (List.mem_cons_of_mem _ hz))
      subst e
      exact h1 hz
    rw [List.length_erase_of_mem hx] at h3
    have := List.length_pos_of_mem hx
    rw [List.length_cons]
    omega
end Go.Proofs.YtnigadeohmlpiaaGreatDoor

namespace Go.Proofs.YtnigadeohmlpiaaGreatDoor

/-- chapter 13's example -/
def lAw : List Ev := [⟨0, 2, 0, 1⟩, ⟨0, 1, 1, 0⟩, ⟨1, 2, 1, 1⟩, ⟨1, 1, 0, 0⟩]
theorem lAw_prog : Prog lAw := by
  refine ⟨by decide, fun e he => ?_, fun e he hk => ?_⟩
  · simp only [lAw, List.mem_cons, List.not_mem_nil, or_false] at he
    rcases he with rfl | rfl | rfl | rfl <;> exact ⟨⟨by decide, by decide⟩, ⟨by decide, by decide⟩, ⟨by decide, by decide⟩, ⟨by decide, by decide⟩, fun h => absurd h (by decide)⟩
  · simp only [lAw, List.mem_cons, List.not_mem_nil, or_false] at he
    rcases he with rfl | rfl | rfl | rfl
    · exact absurd hk (by decide)
    · rfl
    · exact absurd hk (by decide)
    · rfl
def outAw : List (List Int) := [[0, 0], [0, 1], [1, 0], [1, 1]]
theorem lAw_outs (z : List Int) : (∃ xs, playP lAw xs = some z) ↔ z ∈ outAw := by
  constructor
  · intro h
    have h1 := (same_outs lAw_prog z).1 h
    obtain ⟨m, hm, rfl⟩ := List.mem_map.1 h1
    have h2 : loadsOf m ∈ (axAll lAw lAw.length).map loadsOf := List.mem_map.2 ⟨m, (List.mem_filter.1 hm).1, rfl⟩
    have h3 : (axAll lAw lAw.length).map loadsOf = outAw := by rfl
    rw [h3] at h2
    exact h2
  · intro h
    simp only [outAw, List.mem_cons, List.not_mem_nil, or_false] at h
    rcases h with rfl | rfl | rfl | rfl
    · exact ⟨[⟨0, false, 0⟩, ⟨0, false, 0⟩, ⟨1, false, 0⟩, ⟨1, false, 0⟩], by rfl⟩
    · exact ⟨[⟨0, false, 0⟩, ⟨0, true, 0⟩, ⟨0, false, 0⟩, ⟨1, false, 0⟩, ⟨1, false, 0⟩], by rfl⟩
    · exact ⟨[⟨1, false, 0⟩, ⟨1, true, 0⟩, ⟨1, false, 0⟩, ⟨0, false, 0⟩, ⟨0, false, 0⟩], by rfl⟩
    · exact ⟨[⟨0, false, 0⟩, ⟨0, true, 0⟩, ⟨1, false, 0⟩, ⟨1, true, 0⟩, ⟨0, false, 0⟩, ⟨1, false, 0⟩], by rfl⟩
theorem lAw_nil : playP lAw [] = none := by rfl
end Go.Proofs.YtnigadeohmlpiaaGreatDoor
