/- Words for the walk of the statement ImageMore: what each operation of its great region leaves. No condition of ours. -/
import Derived.Test.YtgajlhejefjhhaaGreatDoorT45
import Derived.Test.YtgajlhejefjhhaaGreatDoorT48
namespace Go.Proofs.YtgajlhejefjhhaaGreatDoor
open Go.RowKit

theorem add_off (b off j : Nat) : (Addr.add ⟨b, off, none⟩ j) = ⟨b, off + j, none⟩ := by
  unfold Addr.add
  split
  · rename_i h
    have : j = 0 := by simpa using h
    rw [this]
    rfl
  · rfl

/-! ### append, whatever the source -/
section
variable {P : Program} (w : World)
theorem run_append_rd (base : Nat) (t ty e : TypeId) (i : TypeInfo) (z : Value) (size bytes : Nat) (ht : P.underlying t = some (.slice e)) (hi : P.info? e = some i) (hz : i.zero = some z)
    (hsize : i.size = size) (hby : i.bytes = bytes) (hzs : z.cells.size = size) (hsz : 0 < size) (v : Value) (n : Nat) (xs : List Value) (hown : w.ownsRow base e size v n xs)
    (A : Option Addr) (m c : Nat) (news : List Value) (hr : Rd w size A m news) (h1 : ∀ u ∈ news, u.oneCell' = true) (h63 : n + m ≤ maxLen) (hbytes : (n + m) * bytes ≤ 140737488355328) (hbase : base ≤ w.heap.size) :
    ∃ v' w', (Builtin.append_ #[t, t] ty #[v, .slice A m c]).run P w = .ok v' w' ∧ w'.ownsRow base e size v' (n + m) (xs ++ news) ∧ w.grownBy w' v.ownBlock := by
  rcases A with _ | ad
  · have hm : m = 0 := by
      rcases Nat.eq_zero_or_pos m with h0 | h0
      · exact h0
      · obtain ⟨b, off, h, _⟩ := hr.2 h0
        cases h
    subst hm
    have hn : news = [] := List.eq_nil_of_length_eq_zero (by simpa using hr.1)
    subst hn
    refine ⟨v, w, ?_, by simpa using hown, World.grownBy.refl w _⟩
    rcases hown.2 with ⟨rfl, rfl⟩ | ⟨g, cap, cur, rfl, _, _, hnc, _⟩
    · simp [Builtin.append_, run_underlying ht, sizeOf, typeInfo, hi, Builtin.lenOf, Builtin.firstCells]
    · simp [Builtin.append_, run_underlying ht, sizeOf, typeInfo, hi, Builtin.lenOf, Builtin.firstCells, hnc, storeCells]
  · have hcells : ∀ j u, news[j]? = some u → w.cell? (ad.add j) = some u := by
      intro j u hu
      rcases Nat.eq_zero_or_pos m with h0 | h0
      · subst h0
        have hn : news = [] := List.eq_nil_of_length_eq_zero (by simpa using hr.1)
        subst hn
        simp at hu
      · obtain ⟨b, off, h, _, hc⟩ := hr.2 h0
        injection h with h
        subst h
        rw [add_off]
        exact hc j u hu
    obtain ⟨v', w', hrun, h2, h3, _⟩ := run_append_own (P := P) w base t ty e i z size bytes ht hi hz hsize hby hzs hsz v n xs hown ad m c news hr.1 hcells h1 h63 hbytes hbase
    exact ⟨v', w', hrun, h2, h3⟩

theorem wp_append_rd {o : Oper} {a : Act} {K : Act → World → Prop} {Q : Exit → Act → World → Prop} (s x : Operand) (t : TypeId) (ho : o.op = .call { callee := .builtin .append, args := #[s, x], argTypes := #[t, t] })
    (base : Nat) (e : TypeId) (i : TypeInfo) (z : Value) (size bytes : Nat) (ht : P.underlying t = some (.slice e)) (hi : P.info? e = some i) (hz : i.zero = some z)
    (hsize : i.size = size) (hby : i.bytes = bytes) (hzs : z.cells.size = size) (hsz : 0 < size) (v : Value) (n : Nat) (xs : List Value) (hs : a.eval s = v) (hown : w.ownsRow base e size v n xs)
    (A : Option Addr) (m c : Nat) (news : List Value) (hx : a.eval x = .slice A m c) (hr : Rd w size A m news) (h1 : ∀ u ∈ news, u.oneCell' = true) (h63 : n + m ≤ maxLen) (hbytes : (n + m) * bytes ≤ 140737488355328) (hbase : base ≤ w.heap.size)
    (h : ∀ v' w', w'.ownsRow base e size v' (n + m) (xs ++ news) → w.grownBy w' v.ownBlock → K (a.put o.dst v') w') : o.wp P a w K Q := by
  obtain ⟨v', w', hrun, h2, h3⟩ := run_append_rd (P := P) w base t o.type e i z size bytes ht hi hz hsize hby hzs hsz v n xs hown A m c news hr h1 h63 hbytes hbase
  unfold Oper.wp execOp
  simp only [ho, resolve, invoke, builtin, Sem.run_bind, Sem.run_pure, Result.andThen_ok, List.map_toArray, List.map_cons, List.map_nil, hs, hx, hrun]
  exact h v' w' h2 h3
end

/-! ### the region's slots -/
structure MoreV where
  v7 : Value
  v16 : Value
  v17 : Value
  v18 : Value
  v19 : Value
  v20 : Value
  v21 : Value
  v22 : Value
  v23 : Value
  v24 : Value
  v25 : Value
  v26 : Value
  v27 : Value
  v28 : Value
  v29 : Value
  v30 : Value
  v31 : Value
  v32 : Value
  v33 : Value
  v34 : Value
  v35 : Value
  v36 : Value
structure MoreE where
  e0 : Value
  e2 : Value
  e3 : Value
  e4 : Value
  e5 : Value
  e8 : Value
  e9 : Value
  e10 : Value
  e11 : Value
  e12 : Value
  e13 : Value
  e14 : Value
  e15 : Value
def moreF (e : MoreE) (wv : Int) (b : Nat) (v : MoreV) : Array Value := #[e.e0, .int .i64 wv, e.e2, e.e3, e.e4, e.e5, .pointer (some ⟨b, 0, none⟩), v.v7, e.e8, e.e9, e.e10, e.e11, e.e12, e.e13, e.e14, e.e15, v.v16, v.v17, v.v18, v.v19, v.v20, v.v21, v.v22, v.v23, v.v24, v.v25, v.v26, v.v27, v.v28, v.v29, v.v30, v.v31, v.v32, v.v33, v.v34, v.v35, v.v36, undef, undef, undef, undef, undef, undef, undef, undef, undef, undef, undef, undef, undef, undef, undef, undef, undef, undef, undef, undef, undef, undef, undef, undef, undef, undef, undef, undef, undef, undef, undef, undef, undef, undef, undef, undef, undef, undef, undef, undef, undef, undef, undef, undef, undef, undef, undef, undef, undef, undef, undef, undef, undef, undef, undef, undef, undef, undef, undef, undef, undef, undef, undef, undef, undef, undef, undef, undef, undef]

/-- what the region starts from -/
structure MoreC where
  w0 : World
  b : Nat
  F1 : Option Addr
  p : Nat
  f1 : Nat
  xm : Int
  F2 : Option Addr
  q : Nat
  f2 : Nat
  x : Img
  wv : Int
  qv : Int
abbrev MoreC.B (c : MoreC) : Nat := c.w0.heap.size
abbrev MoreC.W (c : MoreC) : List Value := c.x.words.map (Value.int .i64)
abbrev MoreC.pl (c : MoreC) : Int := 4 * ((c.p : Int) + 1)
abbrev tl3 : ByteArray := ⟨#[126, 126, 126]⟩

/-- what operation j has left -/
def Cond (c : MoreC) (l : Array Bool) (v : MoreV) (w : World) : Nat → Prop
  | 0 => v.v16 = .pointer (some ⟨c.b, 0, none⟩)
  | 1 => v.v17 = .slice c.F1 c.p c.f1
  | 2 => l.getD 6 false = true ∨ w.ownsRow c.B 3 1 v.v18 c.p c.W
  | 3 => v.v19 = .int .i64 c.wv
  | 4 => l.getD 2 false = true ∧ v.v20 = .int .i64 c.qv
  | 5 => l.getD 2 false = true ∧ (l.getD 6 false = true ∨ ∃ g, v.v21 = .slice (some ⟨g, 0, none⟩) 1 1 ∧ w.heap[g]? = some (.cells #[.int .i64 c.qv] 3))
  | 6 => (l.getD 2 false = true ∧ l.getD 5 false = true) ∧ w.ownsRow c.B 3 1 v.v22 (c.p + 1) (c.W ++ [.int .i64 c.qv])
  | 7 => v.v23 = .pointer (some ⟨c.b, 1, none⟩)
  | 8 => v.v24 = .int .i64 c.xm
  | 9 => v.v25 = .pointer (some ⟨c.b, 2, none⟩)
  | 10 => v.v26 = .slice c.F2 c.q c.f2
  | 11 => l.getD 6 false = true ∧ (l.getD 19 false = true ∨ w.ownsRow c.B 45 2 v.v27 c.q (symCells c.x.syms))
  | 12 => v.v28 = .pointer (some ⟨c.b, 0, none⟩)
  | 13 => v.v29 = .slice c.F1 c.p c.f1
  | 14 => v.v30 = .int .i64 c.p
  | 15 => v.v31 = .int .i64 ((c.p : Int) + 1)
  | 16 => v.v32 = .int .i64 c.pl
  | 17 => v.v33 = .agg #[.string tl3, .int .i64 c.pl]
  | 18 => l.getD 19 false = true ∨ ∃ g, v.v34 = .slice (some ⟨g, 0, none⟩) 1 1 ∧ w.heap[g]? = some (.cells #[.string tl3, .int .i64 c.pl] 45)
  | 19 => (l.getD 11 false = true ∧ l.getD 6 false = true) ∧ w.ownsRow c.B 45 2 v.v35 (c.q + 1) (symCells c.x.syms ++ [.string tl3, .int .i64 c.pl])
  | 20 => (l.getD 6 false = true ∧ l.getD 19 false = true) ∧ v.v36 = .agg #[v.v22, .int .i64 c.xm, v.v35]
  | 21 => ∃ g, v.v7 = .pointer (some ⟨g, 0, none⟩) ∧ c.B ≤ g ∧ (l.getD 22 false = true ∨ w.heap[g]? = some (.cells #[.slice none 0 0, .int .i64 0, .slice none 0 0] 25))
  | 22 => (l.getD 6 false = true ∧ l.getD 19 false = true ∧ l.getD 21 false = true) ∧ ∃ g, v.v7 = .pointer (some ⟨g, 0, none⟩) ∧ c.B ≤ g ∧ w.heap[g]? = some (.cells #[v.v22, .int .i64 c.xm, v.v35] 25)
  | _ => True

theorem gs_mono {l : Array Bool} {i k : Nat} (h : l.getD k false = true) : (l.setIfInBounds i true).getD k false = true := by
  by_cases e : i = k
  · subst e
    simp only [Array.getD_eq_getD_getElem?, Array.getElem?_setIfInBounds_self]
    split
    · rfl
    · rename_i hs
      rw [Array.getD_eq_getD_getElem?, Array.getElem?_eq_none (by omega)] at h
      cases h
  · rw [gs_ne e]
    exact h

theorem cond_mono {c : MoreC} {l : Array Bool} {v : MoreV} {w : World} (i : Nat) : ∀ j, Cond c l v w j → Cond c (l.setIfInBounds i true) v w j
  | 0, h | 1, h | 3, h | 7, h | 8, h | 9, h | 10, h | 12, h | 13, h | 14, h | 15, h | 16, h | 17, h => h
  | 4, h => ⟨gs_mono h.1, h.2⟩
  | 2, h => h.imp gs_mono id
  | 5, h => ⟨gs_mono h.1, h.2.imp gs_mono id⟩
  | 6, h => ⟨⟨gs_mono h.1.1, gs_mono h.1.2⟩, h.2⟩
  | 11, h => ⟨gs_mono h.1, h.2.imp gs_mono id⟩
  | 18, h => h.imp gs_mono id
  | 19, h => ⟨⟨gs_mono h.1.1, gs_mono h.1.2⟩, h.2⟩
  | 20, h => ⟨⟨gs_mono h.1.1, gs_mono h.1.2⟩, h.2⟩
  | 21, ⟨g, h1, h2, h3⟩ => ⟨g, h1, h2, h3.imp gs_mono id⟩
  | 22, h => ⟨⟨gs_mono h.1.1, gs_mono h.1.2.1, gs_mono h.1.2.2⟩, h.2⟩
  | _ + 23, h => h

theorem blk_below {w w' : World} (hb : Below w.heap.size w w') {g : Nat} {o : Obj} (h : w.heap[g]? = some o) : w'.heap[g]? = some o := (hb.block g (Array.getElem?_eq_some_iff.1 h).1).trans h

theorem cond_below {c : MoreC} {l : Array Bool} {v : MoreV} {w w' : World} (hb : Below w.heap.size w w') : ∀ j, Cond c l v w j → Cond c l v w' j
  | 0, h | 1, h | 3, h | 4, h | 7, h | 8, h | 9, h | 10, h | 12, h | 13, h | 14, h | 15, h | 16, h | 17, h => h
  | 2, h => h.imp id (own_below · hb)
  | 5, h => ⟨h.1, h.2.imp id fun ⟨g, h1, h2⟩ => ⟨g, h1, blk_below hb h2⟩⟩
  | 6, h => ⟨h.1, own_below h.2 hb⟩
  | 11, h => ⟨h.1, h.2.imp id (own_below · hb)⟩
  | 18, h => h.imp id fun ⟨g, h1, h2⟩ => ⟨g, h1, blk_below hb h2⟩
  | 19, h => ⟨h.1, own_below h.2 hb⟩
  | 20, h => h
  | 21, ⟨g, h1, h2, h3⟩ => ⟨g, h1, h2, h3.imp id (blk_below hb)⟩
  | 22, ⟨h0, g, h1, h2, h3⟩ => ⟨h0, g, h1, h2, blk_below hb h3⟩
  | _ + 23, h => h

/-- the invariant -/
def MoreI (c : MoreC) (e : MoreE) (l : Array Bool) (a : Act) (w : World) : Prop :=
  ∃ v : MoreV, a = { tmps := moreF e c.wv c.b v, defers := [] } ∧ Below c.B c.w0 w ∧ ∀ j, l.getD j false = true → Cond c l v w j

/-- a step: operation i has been done -/
theorem more_step {c : MoreC} {l : Array Bool} {v v' : MoreV} {w w' : World} {i : Nat} (hall : ∀ j, l.getD j false = true → Cond c l v w j) (hi : Cond c (l.setIfInBounds i true) v' w' i)
    (hk : ∀ j, j ≠ i → l.getD j false = true → Cond c l v w j → Cond c (l.setIfInBounds i true) v' w' j) : ∀ j, (l.setIfInBounds i true).getD j false = true → Cond c (l.setIfInBounds i true) v' w' j := by
  intro j hj
  by_cases e : j = i
  · subst e
    exact hi
  · rw [gs_ne (fun h => e h.symm)] at hj
    exact hk j e hj (hall j hj)


theorem gs_self {l : Array Bool} {i : Nat} (h : i < l.size) : (l.setIfInBounds i true).getD i false = true := by
  rw [Array.getD_eq_getD_getElem?, Array.getElem?_setIfInBounds_self_of_lt h]
  rfl
theorem set_keep {w : World} {b i : Nat} {u : Value} {C : Array Value} {t : TypeId} {fz : Nat × Nat} {g : Nat} {D : Array Value} {s : TypeId} {fy : Nat × Nat} (hb : w.heap[b]? = some (.cells C t fz)) (hg : w.heap[g]? = some (.cells D s fy)) (hne : t ≠ s) : (w.setCell ⟨b, i, none⟩ u).heap[g]? = some (.cells D s fy) := by
  have hgb : g ≠ b := fun e => by
    subst e
    rw [hb] at hg
    cases hg
    exact hne rfl
  rw [Below.heap_setCell _ _ _ _ hgb]
  exact hg

theorem cond_app6 {c : MoreC} {l : Array Bool} {v : MoreV} {w w3 : World} (u : Value) (hs : 6 < l.size) (hni : l.getD 6 false = false) (hown : w.ownsRow c.B 3 1 v.v18 c.p c.W) (hg : w.grownBy w3 v.v18.ownBlock) :
    ∀ j, j ≠ 6 → Cond c l v w j → Cond c (l.setIfInBounds 6 true) { v with v22 := u } w3 j
  | 0, _, h | 1, _, h | 3, _, h | 7, _, h | 8, _, h | 9, _, h | 10, _, h | 12, _, h | 13, _, h | 14, _, h | 15, _, h | 16, _, h | 17, _, h => h
  | 2, _, _ => .inl (gs_self hs)
  | 4, _, h => ⟨gs_mono h.1, h.2⟩
  | 5, _, h => ⟨gs_mono h.1, .inl (gs_self hs)⟩
  | 6, hn, _ => absurd rfl hn
  | 11, _, h => absurd h.1 (by rw [hni]; decide)
  | 18, _, h => h.imp gs_mono fun ⟨g, h1, h2⟩ => ⟨g, h1, grown_keep hown hg h2 (.inl (by decide))⟩
  | 19, _, h => absurd h.1.2 (by rw [hni]; decide)
  | 20, _, h => absurd h.1.1 (by rw [hni]; decide)
  | 21, _, ⟨g, h1, h2, h3⟩ => ⟨g, h1, h2, h3.imp gs_mono fun h3 => grown_keep hown hg h3 (.inl (by decide))⟩
  | 22, _, h => absurd h.1.1 (by rw [hni]; decide)
  | _ + 23, _, h => h

theorem cond_app19 {c : MoreC} {l : Array Bool} {v : MoreV} {w w3 : World} (u : Value) (hs : 19 < l.size) (hni : l.getD 19 false = false) (hown : w.ownsRow c.B 45 2 v.v27 c.q (symCells c.x.syms)) (hg : w.grownBy w3 v.v27.ownBlock) :
    ∀ j, j ≠ 19 → Cond c l v w j → Cond c (l.setIfInBounds 19 true) { v with v35 := u } w3 j
  | 0, _, h | 1, _, h | 3, _, h | 7, _, h | 8, _, h | 9, _, h | 10, _, h | 12, _, h | 13, _, h | 14, _, h | 15, _, h | 16, _, h | 17, _, h => h
  | 2, _, h => h.imp gs_mono fun h => h.kept hg (own_apart h hown (by decide))
  | 4, _, h => ⟨gs_mono h.1, h.2⟩
  | 5, _, h => ⟨gs_mono h.1, h.2.imp gs_mono fun ⟨g, h1, h2⟩ => ⟨g, h1, grown_keep hown hg h2 (.inl (by decide))⟩⟩
  | 6, _, h => ⟨⟨gs_mono h.1.1, gs_mono h.1.2⟩, h.2.kept hg (own_apart h.2 hown (by decide))⟩
  | 11, _, h => ⟨gs_mono h.1, .inl (gs_self hs)⟩
  | 18, _, _ => .inl (gs_self hs)
  | 19, hn, _ => absurd rfl hn
  | 20, _, h => absurd h.1.2 (by rw [hni]; decide)
  | 21, _, ⟨g, h1, h2, h3⟩ => ⟨g, h1, h2, h3.imp gs_mono fun h3 => grown_keep hown hg h3 (.inl (by decide))⟩
  | 22, _, h => absurd h.1.2.1 (by rw [hni]; decide)
  | _ + 23, _, h => h

theorem cond_st22 {c : MoreC} {l : Array Bool} {v : MoreV} {w : World} {g0 : Nat} {C : Array Value} {x y z : Value} (hs : 22 < l.size) (hg : w.heap[g0]? = some (.cells C 25)) :
    ∀ j, j ≠ 22 → Cond c l v w j → Cond c (l.setIfInBounds 22 true) v (((w.setCell ⟨g0, 0, none⟩ x).setCell ⟨g0, 1, none⟩ y).setCell ⟨g0, 2, none⟩ z) j := by
  have k1 := heap_setCell_same (i := 0) hg x
  have k2 := heap_setCell_same (i := 1) k1 y
  have ho : ∀ {base : Nat} {e : TypeId} {size : Nat} {u : Value} {n : Nat} {xs : List Value}, w.ownsRow base e size u n xs → 25 ≠ e → (((w.setCell ⟨g0, 0, none⟩ x).setCell ⟨g0, 1, none⟩ y).setCell ⟨g0, 2, none⟩ z).ownsRow base e size u n xs := fun h he =>
    own_set_apart (own_set_apart (own_set_apart h hg he 0 x) k1 he 1 y) k2 he 2 z
  have hk : ∀ {g : Nat} {D : Array Value} {s : TypeId}, w.heap[g]? = some (.cells D s) → 25 ≠ s → (((w.setCell ⟨g0, 0, none⟩ x).setCell ⟨g0, 1, none⟩ y).setCell ⟨g0, 2, none⟩ z).heap[g]? = some (.cells D s) := fun h he =>
    set_keep k2 (set_keep k1 (set_keep hg h he) he) he
  intro j hj h
  match j, hj, h with
  | 0, _, h | 1, _, h | 3, _, h | 7, _, h | 8, _, h | 9, _, h | 10, _, h | 12, _, h | 13, _, h | 14, _, h | 15, _, h | 16, _, h | 17, _, h => exact h
  | 2, _, h => exact h.imp gs_mono fun h => ho h (by decide)
  | 4, _, h => exact ⟨gs_mono h.1, h.2⟩
  | 5, _, h => exact ⟨gs_mono h.1, h.2.imp gs_mono fun ⟨g, h1, h2⟩ => ⟨g, h1, hk h2 (by decide)⟩⟩
  | 6, _, h => exact ⟨⟨gs_mono h.1.1, gs_mono h.1.2⟩, ho h.2 (by decide)⟩
  | 11, _, h => exact ⟨gs_mono h.1, h.2.imp gs_mono fun h => ho h (by decide)⟩
  | 18, _, h => exact h.imp gs_mono fun ⟨g, h1, h2⟩ => ⟨g, h1, hk h2 (by decide)⟩
  | 19, _, h => exact ⟨⟨gs_mono h.1.1, gs_mono h.1.2⟩, ho h.2 (by decide)⟩
  | 20, _, h => exact ⟨⟨gs_mono h.1.1, gs_mono h.1.2⟩, h.2⟩
  | 21, _, ⟨g, h1, h2, h3⟩ => exact ⟨g, h1, h2, .inl (gs_self hs)⟩
  | 22, hn, _ => exact absurd rfl hn
  | _ + 23, _, h => exact h

theorem symCells_one : ∀ (l : List (List UInt8 × Int)), ∀ u ∈ symCells l, u.oneCell' = true := by
  intro l u hu
  obtain ⟨x, _, hx⟩ := List.mem_flatMap.1 hu
  simp only [List.mem_cons, List.not_mem_nil, or_false] at hx
  rcases hx with rfl | rfl <;> rfl

/-- one element that was just laid -/
theorem rd_one {w : World} {g : Nat} {u : Value} {t : TypeId} (h : w.heap[g]? = some (.cells #[u] t)) : Rd w 1 (some ⟨g, 0, none⟩) 1 [u] :=
  ⟨rfl, fun _ => ⟨g, 0, rfl, (Array.getElem?_eq_some_iff.1 h).1, fun j v hv => by rw [cell_of_row _ _ _ _ _ _ h, Nat.zero_add]; simpa using hv⟩⟩
theorem rd_two {w : World} {g : Nat} {u v : Value} {t : TypeId} (h : w.heap[g]? = some (.cells #[u, v] t)) : Rd w 2 (some ⟨g, 0, none⟩) 1 [u, v] :=
  ⟨rfl, fun _ => ⟨g, 0, rfl, (Array.getElem?_eq_some_iff.1 h).1, fun j y hy => by rw [cell_of_row _ _ _ _ _ _ h, Nat.zero_add]; simpa using hy⟩⟩

theorem cond_put0 {c : MoreC} {l : Array Bool} {v : MoreV} {w : World} (u : Value) : ∀ j, (j ≠ 0 ∧ ∀ k ∈ ([] : List Nat), j ≠ k) → Cond c l v w j → Cond c l { v with v16 := u } w j
  | 0, hn, _ => absurd rfl hn.1
  | 1, _, h => h
  | 2, _, h => h
  | 3, _, h => h
  | 4, _, h => h
  | 5, _, h => h
  | 6, _, h => h
  | 7, _, h => h
  | 8, _, h => h
  | 9, _, h => h
  | 10, _, h => h
  | 11, _, h => h
  | 12, _, h => h
  | 13, _, h => h
  | 14, _, h => h
  | 15, _, h => h
  | 16, _, h => h
  | 17, _, h => h
  | 18, _, h => h
  | 19, _, h => h
  | 20, _, h => h
  | 21, _, h => h
  | 22, _, h => h
  | _ + 23, _, h => h

theorem cond_put1 {c : MoreC} {l : Array Bool} {v : MoreV} {w : World} (u : Value) : ∀ j, (j ≠ 1 ∧ ∀ k ∈ ([] : List Nat), j ≠ k) → Cond c l v w j → Cond c l { v with v17 := u } w j
  | 0, _, h => h
  | 1, hn, _ => absurd rfl hn.1
  | 2, _, h => h
  | 3, _, h => h
  | 4, _, h => h
  | 5, _, h => h
  | 6, _, h => h
  | 7, _, h => h
  | 8, _, h => h
  | 9, _, h => h
  | 10, _, h => h
  | 11, _, h => h
  | 12, _, h => h
  | 13, _, h => h
  | 14, _, h => h
  | 15, _, h => h
  | 16, _, h => h
  | 17, _, h => h
  | 18, _, h => h
  | 19, _, h => h
  | 20, _, h => h
  | 21, _, h => h
  | 22, _, h => h
  | _ + 23, _, h => h

theorem cond_put2 {c : MoreC} {l : Array Bool} {v : MoreV} {w : World} (u : Value) : ∀ j, (j ≠ 2 ∧ ∀ k ∈ ([] : List Nat), j ≠ k) → Cond c l v w j → Cond c l { v with v18 := u } w j
  | 0, _, h => h
  | 1, _, h => h
  | 2, hn, _ => absurd rfl hn.1
  | 3, _, h => h
  | 4, _, h => h
  | 5, _, h => h
  | 6, _, h => h
  | 7, _, h => h
  | 8, _, h => h
  | 9, _, h => h
  | 10, _, h => h
  | 11, _, h => h
  | 12, _, h => h
  | 13, _, h => h
  | 14, _, h => h
  | 15, _, h => h
  | 16, _, h => h
  | 17, _, h => h
  | 18, _, h => h
  | 19, _, h => h
  | 20, _, h => h
  | 21, _, h => h
  | 22, _, h => h
  | _ + 23, _, h => h

theorem cond_put3 {c : MoreC} {l : Array Bool} {v : MoreV} {w : World} (u : Value) : ∀ j, (j ≠ 3 ∧ ∀ k ∈ ([] : List Nat), j ≠ k) → Cond c l v w j → Cond c l { v with v19 := u } w j
  | 0, _, h => h
  | 1, _, h => h
  | 2, _, h => h
  | 3, hn, _ => absurd rfl hn.1
  | 4, _, h => h
  | 5, _, h => h
  | 6, _, h => h
  | 7, _, h => h
  | 8, _, h => h
  | 9, _, h => h
  | 10, _, h => h
  | 11, _, h => h
  | 12, _, h => h
  | 13, _, h => h
  | 14, _, h => h
  | 15, _, h => h
  | 16, _, h => h
  | 17, _, h => h
  | 18, _, h => h
  | 19, _, h => h
  | 20, _, h => h
  | 21, _, h => h
  | 22, _, h => h
  | _ + 23, _, h => h

theorem cond_put4 {c : MoreC} {l : Array Bool} {v : MoreV} {w : World} (u : Value) : ∀ j, (j ≠ 4 ∧ ∀ k ∈ ([] : List Nat), j ≠ k) → Cond c l v w j → Cond c l { v with v20 := u } w j
  | 0, _, h => h
  | 1, _, h => h
  | 2, _, h => h
  | 3, _, h => h
  | 4, hn, _ => absurd rfl hn.1
  | 5, _, h => h
  | 6, _, h => h
  | 7, _, h => h
  | 8, _, h => h
  | 9, _, h => h
  | 10, _, h => h
  | 11, _, h => h
  | 12, _, h => h
  | 13, _, h => h
  | 14, _, h => h
  | 15, _, h => h
  | 16, _, h => h
  | 17, _, h => h
  | 18, _, h => h
  | 19, _, h => h
  | 20, _, h => h
  | 21, _, h => h
  | 22, _, h => h
  | _ + 23, _, h => h

theorem cond_put5 {c : MoreC} {l : Array Bool} {v : MoreV} {w : World} (u : Value) : ∀ j, (j ≠ 5 ∧ ∀ k ∈ ([] : List Nat), j ≠ k) → Cond c l v w j → Cond c l { v with v21 := u } w j
  | 0, _, h => h
  | 1, _, h => h
  | 2, _, h => h
  | 3, _, h => h
  | 4, _, h => h
  | 5, hn, _ => absurd rfl hn.1
  | 6, _, h => h
  | 7, _, h => h
  | 8, _, h => h
  | 9, _, h => h
  | 10, _, h => h
  | 11, _, h => h
  | 12, _, h => h
  | 13, _, h => h
  | 14, _, h => h
  | 15, _, h => h
  | 16, _, h => h
  | 17, _, h => h
  | 18, _, h => h
  | 19, _, h => h
  | 20, _, h => h
  | 21, _, h => h
  | 22, _, h => h
  | _ + 23, _, h => h

theorem cond_put6 {c : MoreC} {l : Array Bool} {v : MoreV} {w : World} (u : Value) : ∀ j, (j ≠ 6 ∧ ∀ k ∈ ([20, 22] : List Nat), j ≠ k) → Cond c l v w j → Cond c l { v with v22 := u } w j
  | 0, _, h => h
  | 1, _, h => h
  | 2, _, h => h
  | 3, _, h => h
  | 4, _, h => h
  | 5, _, h => h
  | 6, hn, _ => absurd rfl hn.1
  | 7, _, h => h
  | 8, _, h => h
  | 9, _, h => h
  | 10, _, h => h
  | 11, _, h => h
  | 12, _, h => h
  | 13, _, h => h
  | 14, _, h => h
  | 15, _, h => h
  | 16, _, h => h
  | 17, _, h => h
  | 18, _, h => h
  | 19, _, h => h
  | 20, hn, _ => absurd rfl (hn.2 20 (by decide))
  | 21, _, h => h
  | 22, hn, _ => absurd rfl (hn.2 22 (by decide))
  | _ + 23, _, h => h

theorem cond_put7 {c : MoreC} {l : Array Bool} {v : MoreV} {w : World} (u : Value) : ∀ j, (j ≠ 7 ∧ ∀ k ∈ ([] : List Nat), j ≠ k) → Cond c l v w j → Cond c l { v with v23 := u } w j
  | 0, _, h => h
  | 1, _, h => h
  | 2, _, h => h
  | 3, _, h => h
  | 4, _, h => h
  | 5, _, h => h
  | 6, _, h => h
  | 7, hn, _ => absurd rfl hn.1
  | 8, _, h => h
  | 9, _, h => h
  | 10, _, h => h
  | 11, _, h => h
  | 12, _, h => h
  | 13, _, h => h
  | 14, _, h => h
  | 15, _, h => h
  | 16, _, h => h
  | 17, _, h => h
  | 18, _, h => h
  | 19, _, h => h
  | 20, _, h => h
  | 21, _, h => h
  | 22, _, h => h
  | _ + 23, _, h => h

theorem cond_put8 {c : MoreC} {l : Array Bool} {v : MoreV} {w : World} (u : Value) : ∀ j, (j ≠ 8 ∧ ∀ k ∈ ([] : List Nat), j ≠ k) → Cond c l v w j → Cond c l { v with v24 := u } w j
  | 0, _, h => h
  | 1, _, h => h
  | 2, _, h => h
  | 3, _, h => h
  | 4, _, h => h
  | 5, _, h => h
  | 6, _, h => h
  | 7, _, h => h
  | 8, hn, _ => absurd rfl hn.1
  | 9, _, h => h
  | 10, _, h => h
  | 11, _, h => h
  | 12, _, h => h
  | 13, _, h => h
  | 14, _, h => h
  | 15, _, h => h
  | 16, _, h => h
  | 17, _, h => h
  | 18, _, h => h
  | 19, _, h => h
  | 20, _, h => h
  | 21, _, h => h
  | 22, _, h => h
  | _ + 23, _, h => h

theorem cond_put9 {c : MoreC} {l : Array Bool} {v : MoreV} {w : World} (u : Value) : ∀ j, (j ≠ 9 ∧ ∀ k ∈ ([] : List Nat), j ≠ k) → Cond c l v w j → Cond c l { v with v25 := u } w j
  | 0, _, h => h
  | 1, _, h => h
  | 2, _, h => h
  | 3, _, h => h
  | 4, _, h => h
  | 5, _, h => h
  | 6, _, h => h
  | 7, _, h => h
  | 8, _, h => h
  | 9, hn, _ => absurd rfl hn.1
  | 10, _, h => h
  | 11, _, h => h
  | 12, _, h => h
  | 13, _, h => h
  | 14, _, h => h
  | 15, _, h => h
  | 16, _, h => h
  | 17, _, h => h
  | 18, _, h => h
  | 19, _, h => h
  | 20, _, h => h
  | 21, _, h => h
  | 22, _, h => h
  | _ + 23, _, h => h

theorem cond_put10 {c : MoreC} {l : Array Bool} {v : MoreV} {w : World} (u : Value) : ∀ j, (j ≠ 10 ∧ ∀ k ∈ ([] : List Nat), j ≠ k) → Cond c l v w j → Cond c l { v with v26 := u } w j
  | 0, _, h => h
  | 1, _, h => h
  | 2, _, h => h
  | 3, _, h => h
  | 4, _, h => h
  | 5, _, h => h
  | 6, _, h => h
  | 7, _, h => h
  | 8, _, h => h
  | 9, _, h => h
  | 10, hn, _ => absurd rfl hn.1
  | 11, _, h => h
  | 12, _, h => h
  | 13, _, h => h
  | 14, _, h => h
  | 15, _, h => h
  | 16, _, h => h
  | 17, _, h => h
  | 18, _, h => h
  | 19, _, h => h
  | 20, _, h => h
  | 21, _, h => h
  | 22, _, h => h
  | _ + 23, _, h => h

theorem cond_put11 {c : MoreC} {l : Array Bool} {v : MoreV} {w : World} (u : Value) : ∀ j, (j ≠ 11 ∧ ∀ k ∈ ([] : List Nat), j ≠ k) → Cond c l v w j → Cond c l { v with v27 := u } w j
  | 0, _, h => h
  | 1, _, h => h
  | 2, _, h => h
  | 3, _, h => h
  | 4, _, h => h
  | 5, _, h => h
  | 6, _, h => h
  | 7, _, h => h
  | 8, _, h => h
  | 9, _, h => h
  | 10, _, h => h
  | 11, hn, _ => absurd rfl hn.1
  | 12, _, h => h
  | 13, _, h => h
  | 14, _, h => h
  | 15, _, h => h
  | 16, _, h => h
  | 17, _, h => h
  | 18, _, h => h
  | 19, _, h => h
  | 20, _, h => h
  | 21, _, h => h
  | 22, _, h => h
  | _ + 23, _, h => h

theorem cond_put12 {c : MoreC} {l : Array Bool} {v : MoreV} {w : World} (u : Value) : ∀ j, (j ≠ 12 ∧ ∀ k ∈ ([] : List Nat), j ≠ k) → Cond c l v w j → Cond c l { v with v28 := u } w j
  | 0, _, h => h
  | 1, _, h => h
  | 2, _, h => h
  | 3, _, h => h
  | 4, _, h => h
  | 5, _, h => h
  | 6, _, h => h
  | 7, _, h => h
  | 8, _, h => h
  | 9, _, h => h
  | 10, _, h => h
  | 11, _, h => h
  | 12, hn, _ => absurd rfl hn.1
  | 13, _, h => h
  | 14, _, h => h
  | 15, _, h => h
  | 16, _, h => h
  | 17, _, h => h
  | 18, _, h => h
  | 19, _, h => h
  | 20, _, h => h
  | 21, _, h => h
  | 22, _, h => h
  | _ + 23, _, h => h

theorem cond_put13 {c : MoreC} {l : Array Bool} {v : MoreV} {w : World} (u : Value) : ∀ j, (j ≠ 13 ∧ ∀ k ∈ ([] : List Nat), j ≠ k) → Cond c l v w j → Cond c l { v with v29 := u } w j
  | 0, _, h => h
  | 1, _, h => h
  | 2, _, h => h
  | 3, _, h => h
  | 4, _, h => h
  | 5, _, h => h
  | 6, _, h => h
  | 7, _, h => h
  | 8, _, h => h
  | 9, _, h => h
  | 10, _, h => h
  | 11, _, h => h
  | 12, _, h => h
  | 13, hn, _ => absurd rfl hn.1
  | 14, _, h => h
  | 15, _, h => h
  | 16, _, h => h
  | 17, _, h => h
  | 18, _, h => h
  | 19, _, h => h
  | 20, _, h => h
  | 21, _, h => h
  | 22, _, h => h
  | _ + 23, _, h => h

theorem cond_put14 {c : MoreC} {l : Array Bool} {v : MoreV} {w : World} (u : Value) : ∀ j, (j ≠ 14 ∧ ∀ k ∈ ([] : List Nat), j ≠ k) → Cond c l v w j → Cond c l { v with v30 := u } w j
  | 0, _, h => h
  | 1, _, h => h
  | 2, _, h => h
  | 3, _, h => h
  | 4, _, h => h
  | 5, _, h => h
  | 6, _, h => h
  | 7, _, h => h
  | 8, _, h => h
  | 9, _, h => h
  | 10, _, h => h
  | 11, _, h => h
  | 12, _, h => h
  | 13, _, h => h
  | 14, hn, _ => absurd rfl hn.1
  | 15, _, h => h
  | 16, _, h => h
  | 17, _, h => h
  | 18, _, h => h
  | 19, _, h => h
  | 20, _, h => h
  | 21, _, h => h
  | 22, _, h => h
  | _ + 23, _, h => h

theorem cond_put15 {c : MoreC} {l : Array Bool} {v : MoreV} {w : World} (u : Value) : ∀ j, (j ≠ 15 ∧ ∀ k ∈ ([] : List Nat), j ≠ k) → Cond c l v w j → Cond c l { v with v31 := u } w j
  | 0, _, h => h
  | 1, _, h => h
  | 2, _, h => h
  | 3, _, h => h
  | 4, _, h => h
  | 5, _, h => h
  | 6, _, h => h
  | 7, _, h => h
  | 8, _, h => h
  | 9, _, h => h
  | 10, _, h => h
  | 11, _, h => h
  | 12, _, h => h
  | 13, _, h => h
  | 14, _, h => h
  | 15, hn, _ => absurd rfl hn.1
  | 16, _, h => h
  | 17, _, h => h
  | 18, _, h => h
  | 19, _, h => h
  | 20, _, h => h
  | 21, _, h => h
  | 22, _, h => h
  | _ + 23, _, h => h

theorem cond_put16 {c : MoreC} {l : Array Bool} {v : MoreV} {w : World} (u : Value) : ∀ j, (j ≠ 16 ∧ ∀ k ∈ ([] : List Nat), j ≠ k) → Cond c l v w j → Cond c l { v with v32 := u } w j
  | 0, _, h => h
  | 1, _, h => h
  | 2, _, h => h
  | 3, _, h => h
  | 4, _, h => h
  | 5, _, h => h
  | 6, _, h => h
  | 7, _, h => h
  | 8, _, h => h
  | 9, _, h => h
  | 10, _, h => h
  | 11, _, h => h
  | 12, _, h => h
  | 13, _, h => h
  | 14, _, h => h
  | 15, _, h => h
  | 16, hn, _ => absurd rfl hn.1
  | 17, _, h => h
  | 18, _, h => h
  | 19, _, h => h
  | 20, _, h => h
  | 21, _, h => h
  | 22, _, h => h
  | _ + 23, _, h => h

theorem cond_put17 {c : MoreC} {l : Array Bool} {v : MoreV} {w : World} (u : Value) : ∀ j, (j ≠ 17 ∧ ∀ k ∈ ([] : List Nat), j ≠ k) → Cond c l v w j → Cond c l { v with v33 := u } w j
  | 0, _, h => h
  | 1, _, h => h
  | 2, _, h => h
  | 3, _, h => h
  | 4, _, h => h
  | 5, _, h => h
  | 6, _, h => h
  | 7, _, h => h
  | 8, _, h => h
  | 9, _, h => h
  | 10, _, h => h
  | 11, _, h => h
  | 12, _, h => h
  | 13, _, h => h
  | 14, _, h => h
  | 15, _, h => h
  | 16, _, h => h
  | 17, hn, _ => absurd rfl hn.1
  | 18, _, h => h
  | 19, _, h => h
  | 20, _, h => h
  | 21, _, h => h
  | 22, _, h => h
  | _ + 23, _, h => h

theorem cond_put18 {c : MoreC} {l : Array Bool} {v : MoreV} {w : World} (u : Value) : ∀ j, (j ≠ 18 ∧ ∀ k ∈ ([] : List Nat), j ≠ k) → Cond c l v w j → Cond c l { v with v34 := u } w j
  | 0, _, h => h
  | 1, _, h => h
  | 2, _, h => h
  | 3, _, h => h
  | 4, _, h => h
  | 5, _, h => h
  | 6, _, h => h
  | 7, _, h => h
  | 8, _, h => h
  | 9, _, h => h
  | 10, _, h => h
  | 11, _, h => h
  | 12, _, h => h
  | 13, _, h => h
  | 14, _, h => h
  | 15, _, h => h
  | 16, _, h => h
  | 17, _, h => h
  | 18, hn, _ => absurd rfl hn.1
  | 19, _, h => h
  | 20, _, h => h
  | 21, _, h => h
  | 22, _, h => h
  | _ + 23, _, h => h

theorem cond_put19 {c : MoreC} {l : Array Bool} {v : MoreV} {w : World} (u : Value) : ∀ j, (j ≠ 19 ∧ ∀ k ∈ ([20, 22] : List Nat), j ≠ k) → Cond c l v w j → Cond c l { v with v35 := u } w j
  | 0, _, h => h
  | 1, _, h => h
  | 2, _, h => h
  | 3, _, h => h
  | 4, _, h => h
  | 5, _, h => h
  | 6, _, h => h
  | 7, _, h => h
  | 8, _, h => h
  | 9, _, h => h
  | 10, _, h => h
  | 11, _, h => h
  | 12, _, h => h
  | 13, _, h => h
  | 14, _, h => h
  | 15, _, h => h
  | 16, _, h => h
  | 17, _, h => h
  | 18, _, h => h
  | 19, hn, _ => absurd rfl hn.1
  | 20, hn, _ => absurd rfl (hn.2 20 (by decide))
  | 21, _, h => h
  | 22, hn, _ => absurd rfl (hn.2 22 (by decide))
  | _ + 23, _, h => h

theorem cond_put20 {c : MoreC} {l : Array Bool} {v : MoreV} {w : World} (u : Value) : ∀ j, (j ≠ 20 ∧ ∀ k ∈ ([] : List Nat), j ≠ k) → Cond c l v w j → Cond c l { v with v36 := u } w j
  | 0, _, h => h
  | 1, _, h => h
  | 2, _, h => h
  | 3, _, h => h
  | 4, _, h => h
  | 5, _, h => h
  | 6, _, h => h
  | 7, _, h => h
  | 8, _, h => h
  | 9, _, h => h
  | 10, _, h => h
  | 11, _, h => h
  | 12, _, h => h
  | 13, _, h => h
  | 14, _, h => h
  | 15, _, h => h
  | 16, _, h => h
  | 17, _, h => h
  | 18, _, h => h
  | 19, _, h => h
  | 20, hn, _ => absurd rfl hn.1
  | 21, _, h => h
  | 22, _, h => h
  | _ + 23, _, h => h

theorem cond_put21 {c : MoreC} {l : Array Bool} {v : MoreV} {w : World} (u : Value) : ∀ j, (j ≠ 21 ∧ ∀ k ∈ ([22] : List Nat), j ≠ k) → Cond c l v w j → Cond c l { v with v7 := u } w j
  | 0, _, h => h
  | 1, _, h => h
  | 2, _, h => h
  | 3, _, h => h
  | 4, _, h => h
  | 5, _, h => h
  | 6, _, h => h
  | 7, _, h => h
  | 8, _, h => h
  | 9, _, h => h
  | 10, _, h => h
  | 11, _, h => h
  | 12, _, h => h
  | 13, _, h => h
  | 14, _, h => h
  | 15, _, h => h
  | 16, _, h => h
  | 17, _, h => h
  | 18, _, h => h
  | 19, _, h => h
  | 20, _, h => h
  | 21, hn, _ => absurd rfl hn.1
  | 22, hn, _ => absurd rfl (hn.2 22 (by decide))
  | _ + 23, _, h => h

/-- what the great region leaves -/
def MoreR (c : MoreC) (s7 : Value) (w : World) : Prop :=
  ∃ g A cA D d, s7 = .pointer (some ⟨g, 0, none⟩) ∧ Box w g A (c.p + 1) cA c.xm D (c.q + 1) d ∧ IsImg w A (c.p + 1) D (c.q + 1) (c.x.more c.qv) ∧ c.p + 1 ≤ cA ∧ Below c.B c.w0 w

theorem more_rel {c : MoreC} {w : World} {g : Nat} {v22 v35 : Value} (hy : (c.x.more c.qv).right = true) (_hm : c.xm = c.x.mem) (hlp : c.x.words.length = c.p) (hlq : c.x.syms.length = c.q) (hB : Below c.B c.w0 w)
    (hg : w.heap[g]? = some (.cells #[v22, .int .i64 c.xm, v35] 25)) (h1 : w.ownsRow c.B 3 1 v22 (c.p + 1) (c.W ++ [.int .i64 c.qv])) (h2 : w.ownsRow c.B 45 2 v35 (c.q + 1) (symCells c.x.syms ++ [.string tl3, .int .i64 c.pl])) :
    MoreR c (.pointer (some ⟨g, 0, none⟩)) w := by
  obtain ⟨A, cA, rfl, hcA, hR1, _⟩ := Rd_of_own h1
  obtain ⟨D, d, rfl, _, hR2, _⟩ := Rd_of_own h2
  have hok := okay_right hy
  have n1 := hok.n1
  have n2 := hok.n2
  have hl1 : (c.x.more c.qv).words.length = c.p + 1 := by simp [Img.more, hlp]
  have hl2 : (c.x.more c.qv).syms.length = c.q + 1 := by simp [Img.more, hlq]
  have e1 : (c.x.more c.qv).words.map (Value.int .i64) = c.W ++ [.int .i64 c.qv] := by simp [Img.more]
  have e2 : symCells (c.x.more c.qv).syms = symCells c.x.syms ++ [.string tl3, .int .i64 c.pl] := by
    show symCells (c.x.syms ++ [_]) = _
    rw [symCells_app, hlp]
    rfl
  exact ⟨g, A, cA, D, d, rfl, hg, ⟨by rw [e1]; exact hR1, by rw [e2]; exact hR2, by omega, by omega, hok.wf, hok.mw, hok.sz⟩, hcA, hB⟩


end Go.Proofs.YtgajlhejefjhhaaGreatDoor