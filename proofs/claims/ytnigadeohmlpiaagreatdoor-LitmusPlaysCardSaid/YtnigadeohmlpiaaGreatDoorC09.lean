/- Contracts and words: A state in memory, and the contract of the first one; a hart's next event; the state behind a drain; what a state's loads told. No condition of ours. -/
import Derived.Test.YtnigadeohmlpiaaGreatDoorC08
import Derived.Test.YtnigadeohmlpiaaGreatDoorC01
namespace Go.Proofs.YtnigadeohmlpiaaGreatDoor
open Go.RowKit
attribute [local go_sem] Oper.semAt_some
def bools (l : List Bool) : List Value := l.map Value.bool
def evCells (l : List Ev) : List Value := l.flatMap fun x => [.int .i64 x.h, .int .i64 x.k, .int .i64 x.a, .int .i64 x.n]
structure IsSt (w : World) (v : Value) (n : Nat) (s : St) : Prop where
 ok : s.Ok n
 is : ∃ v1 v2 v3 A2 c2 A3 c3, v = .agg #[v1, v2, v3, .slice A2 n c2, .slice A3 n c3] ∧ IsMem w v1 v2 v3 s.m ∧ Row w 4 1 A2 n (bools s.done) ∧ Row w 3 1 A3 n (ints s.told) ∧ n ≤ c2 ∧ n ≤ c3
theorem IsSt.sees {w w' : World} {v : Value} {n : Nat} {s : St} (h : IsSt w v n s) (hs : Sees w w') : IsSt w' v n s := by
 obtain ⟨v1, v2, v3, A2, c2, A3, c3, e, h1, h2, h3, h4⟩ := h.is
 exact ⟨h.ok, v1, v2, v3, A2, c2, A3, c3, e, h1.sees hs, h2.sees hs (by decide) (by decide) (by decide), h3.sees hs (by decide) (by decide) (by decide), h4⟩
structure IsEvs (w : World) (A : Option Addr) (n c : Nat) (l : List Ev) : Prop where
 len : l.length = n
 cap : n ≤ c
 row : Row w 44 4 A n (evCells l)
theorem IsEvs.sees {w w' : World} {A : Option Addr} {n c : Nat} {l : List Ev} (h : IsEvs w A n c l) (hs : Sees w w') : IsEvs w' A n c l := ⟨h.len, h.cap, h.row.sees hs (by decide) (by decide) (by decide)⟩
theorem cells5 {w : World} {b : Nat} {x y z u v : Value} {t : TypeId} (h : w.heap[b]? = some (.cells #[x, y, z, u, v] t)) :
  w.cell? ⟨b, 0, none⟩ = some x ∧ w.cell? ⟨b, 1, none⟩ = some y ∧ w.cell? ⟨b, 2, none⟩ = some z ∧ w.cell? ⟨b, 3, none⟩ = some u ∧ w.cell? ⟨b, 4, none⟩ = some v ∧
  w.frozen? ⟨b, 0, none⟩ = false ∧ w.frozen? ⟨b, 1, none⟩ = false ∧ w.frozen? ⟨b, 2, none⟩ = false ∧ w.frozen? ⟨b, 3, none⟩ = false ∧ w.frozen? ⟨b, 4, none⟩ = false :=
 ⟨by rw [cell_of_row w b 0 _ _ _ h]; rfl, by rw [cell_of_row w b 1 _ _ _ h]; rfl, by rw [cell_of_row w b 2 _ _ _ h]; rfl, by rw [cell_of_row w b 3 _ _ _ h]; rfl, by rw [cell_of_row w b 4 _ _ _ h]; rfl, not_frozen h, not_frozen h, not_frozen h, not_frozen h, not_frozen h⟩
theorem set5 {w : World} {b : Nat} {x y z u v x' y' z' u' v' : Value} {t : TypeId} (h : w.heap[b]? = some (.cells #[x, y, z, u, v] t)) :
  (((((w.setCell ⟨b, 0, none⟩ x').setCell ⟨b, 1, none⟩ y').setCell ⟨b, 2, none⟩ z').setCell ⟨b, 3, none⟩ u').setCell ⟨b, 4, none⟩ v').heap[b]? = some (.cells #[x', y', z', u', v'] t) :=
 set_same (set_same (set_same (set_same (set_same h x') y') z') u') v'
theorem tk_trans {T : List TypeId} {a b c : World} (h : Tk T a b) (k : Tk T b c) : Tk T a c := ⟨Nat.le_trans h.1 k.1, fun i cur e fz he hi => k.2 i cur e fz he (h.2 i cur e fz he hi)⟩
theorem Tk.set5 {w : World} {g : Nat} {x y z u v x' y' z' u' v' : Value} {t : TypeId} (h : w.heap[g]? = some (.cells #[x, y, z, u, v] t)) :
  Tk [t] w (((((w.setCell ⟨g, 0, none⟩ x').setCell ⟨g, 1, none⟩ y').setCell ⟨g, 2, none⟩ z').setCell ⟨g, 3, none⟩ u').setCell ⟨g, 4, none⟩ v') := by
 have h1 := set_same (i := 0) h x'
 have h2 := set_same (i := 1) h1 y'
 have h3 := set_same (i := 2) h2 z'
 have h4 := set_same (i := 3) h3 u'
 exact tk_trans (tk_trans (tk_trans (tk_trans (tk_set1 h) (tk_set1 h1)) (tk_set1 h2)) (tk_set1 h3)) (tk_set1 h4)
theorem ret70 {fn : Func} {p : Tmp} {tmps : Array Value} {w : World} {b : Nat} {x y z u v : Value} (hfn : fn.results = #[.cell p 70]) (hp : tmps.getD p undef = .pointer (some ⟨b, 0, none⟩))
  (h : w.heap[b]? = some (.cells #[x, y, z, u, v] 70)) : (results fn tmps).run Tryz.prog w = .ok (.agg #[x, y, z, u, v]) w := by
 rw [results_cell1 hfn, hp]
 obtain ⟨h0, h1, h2, h3, h4, _⟩ := cells5 h
 simp [go_sem, h0, h1, h2, h3, h4]
theorem make_n_bools (n : Nat) (hn : n ≤ 6) (w : World) : (Instr.makeSlice 60 (.int .i64 (n : Int)) (.int .i64 (n : Int))).run Tryz.prog w = .ok (.slice (some ⟨w.heap.size, 0, none⟩) n n) (w.alloc (.cells (bools (List.replicate n false)).toArray 4)) := by
 obtain rfl | rfl | rfl | rfl | rfl | rfl | rfl : n = 0 ∨ n = 1 ∨ n = 2 ∨ n = 3 ∨ n = 4 ∨ n = 5 ∨ n = 6 := by omega
 all_goals kernel_rfl
theorem make_n_ints (n : Nat) (hn : n ≤ 6) (w : World) : (Instr.makeSlice 32 (.int .i64 (n : Int)) (.int .i64 (n : Int))).run Tryz.prog w = .ok (.slice (some ⟨w.heap.size, 0, none⟩) n n) (w.alloc (.cells (ints (List.replicate n 0)).toArray 3)) := by
 obtain rfl | rfl | rfl | rfl | rfl | rfl | rfl : n = 0 ∨ n = 1 ∨ n = 2 ∨ n = 3 ∨ n = 4 ∨ n = 5 ∨ n = 6 := by omega
 all_goals kernel_rfl
def RowN (b : Nat) (e : TypeId) (n : Nat) (xs : List Value) (v : Value) (w : World) : Prop := ∃ g, v = .slice (some ⟨g, 0, none⟩) n n ∧ b < g ∧ w.heap[g]? = some (.cells xs.toArray e)
theorem RowN.tk {T : List TypeId} {b : Nat} {e : TypeId} {n : Nat} {xs : List Value} {v : Value} {w1 w2 : World} (h : RowN b e n xs v w1) (hk : Tk T w1 w2) (he : e ∉ T) : RowN b e n xs v w2 := by
 obtain ⟨g, h1, h2, h3⟩ := h
 exact ⟨g, h1, h2, hk.at_ he h3⟩
theorem RowN.row {b : Nat} {e : TypeId} {n : Nat} {xs : List Value} {v : Value} {w : World} (h : RowN b e n xs v w) (hn : xs.length = n) : ∃ A, v = .slice A n n ∧ Row w e 1 A n xs := by
 obtain ⟨g, rfl, _, hg⟩ := h
 exact ⟨_, rfl, by omega, fun _ => ⟨g, 0, xs.toArray, (0, 0), rfl, hg, fun j u hu => by simpa using hu⟩⟩
set_option maxHeartbeats 2000000 in
set_option maxRecDepth 100000 in
theorem first_any (A : Option Addr) (n c : Nat) (w : World) (hn : n ≤ 6) :
  Calls Tryz.prog 31 #[.agg #[.slice A n c]] w fun e w' => (∃ v, e = .returned v ∧ IsSt w' v n (St.first n)) ∧ Below w.heap.size w w' := by
 obtain ⟨b1, hb1⟩ : ∃ b, b = w.heap.size := ⟨_, rfl⟩
 obtain ⟨b2, hb2⟩ : ∃ b, b = b1 + 1 := ⟨_, rfl⟩
 obtain ⟨X1, hX1⟩ : ∃ X, X = w.alloc (.cells #[.slice A n c] 68) := ⟨_, rfl⟩
 obtain ⟨W0, hW0⟩ : ∃ X, X = X1.alloc (.cells #[.slice none 0 0, .slice none 0 0, .slice none 0 0, .slice none 0 0, .slice none 0 0] 70) := ⟨_, rfl⟩
 have s1 : X1.heap.size = b1 + 1 := by rw [hX1, World.size_alloc, hb1]
 have k1 : Below X1.heap.size X1 W0 := hW0 ▸ bA (bR X1)
 have HB0 := Lib.hid (show Below w.heap.size w W0 from bT (hX1 ▸ bA (bR w)) k1)
 have H1 := Lib.hid (show W0.heap[b1]? = some (.cells #[.slice A n c] 68) from blk_below k1 (by rw [hX1, hb1]; exact heap_alloc_new w _))
 have H2 := Lib.hid (show W0.heap[b2]? = some (.cells #[.slice none 0 0, .slice none 0 0, .slice none 0 0, .slice none 0 0, .slice none 0 0] 70) by rw [hW0, hb2, ← s1]; exact heap_alloc_new X1 _)
 have HL := Lib.hid (show w.heap.size ≤ b2 by omega)
 have hWW : W0 = (w.alloc (.cells #[.slice A n c] 68)).alloc (.cells #[.slice none 0 0, .slice none 0 0, .slice none 0 0, .slice none 0 0, .slice none 0 0] 70) := by rw [hW0, hX1]
 have HNw := Lib.hid (new_any W0)
 clear hX1 hW0 s1 k1
 go_enter Tryz.func31, Tryz.ntmps31
 go_wp2_with fail
 rw [← hb1, ← hb2, ← hWW]
 clear hb1 hb2 hWW
 refine HNw.out.mono ?_
 rintro e w1 ⟨⟨v1, v2, v3, rfl, him⟩, hbw⟩
 obtain ⟨A1, c1, rfl, hr1⟩ := him.ws
 obtain ⟨A2, c2, pv, rfl, hr2, hp⟩ := him.ps
 obtain ⟨A3, c3, rfl, hr3⟩ := him.rs
 have HM := Lib.hid him
 have HB1 := Lib.hid (bT HB0.out hbw)
 have H11 := Lib.hid (blk_below hbw H1.out)
 have H21 := Lib.hid (blk_below hbw H2.out)
 clear him hr1 hr2 hr3 hp hbw
 go_wp2_with fail
 obtain ⟨b3, hb3⟩ : ∃ b, b = w1.heap.size := ⟨_, rfl⟩
 obtain ⟨W2, hW2⟩ : ∃ W, W = w1.alloc (.cells #[.slice A1 4 c1, .slice A2 4 c2, .slice A3 4 c3] 59) := ⟨_, rfl⟩
 have hb12 : Below w1.heap.size w1 W2 := hW2 ▸ bA (bR w1)
 rw [← hb3, ← hW2]
 have HB2 := Lib.hid (bT HB1.out hb12)
 have H12 := Lib.hid (blk_below hb12 H11.out)
 have H22 := Lib.hid (blk_below hb12 H21.out)
 have H32 := Lib.hid (show W2.heap[b3]? = some (.cells #[.slice A1 4 c1, .slice A2 4 c2, .slice A3 4 c3] 59) by rw [hW2, hb3]; exact heap_alloc_new w1 _)
 have HM2 := Lib.hid (HM.out.sees (Below.sees hb12))
 clear hb12 hb3 hW2
 have hq : ∀ (k : Nat) (l : Nat → Bool) (wx : World), (Below w.heap.size w wx ∧ wx.heap[b1]? = some (.cells #[.slice A n c] 68) ∧ (∃ x y z u v, wx.heap[b2]? = some (.cells #[x, y, z, u, v] 70)) ∧ wx.heap[b3]? = some (.cells #[.slice A1 4 c1, .slice A2 4 c2, .slice A3 4 c3] 59) ∧ IsMem wx (.slice A1 4 c1) (.slice A2 4 c2) (.slice A3 4 c3) Mm.zero) → (Below w.heap.size w wx ∧ wx.heap[b1]? = some (.cells #[.slice A n c] 68) ∧ (∃ x y z u v, wx.heap[b2]? = some (.cells #[x, y, z, u, v] 70)) ∧ wx.heap[b3]? = some (.cells #[.slice A1 4 c1, .slice A2 4 c2, .slice A3 4 c3] 59) ∧ IsMem wx (.slice A1 4 c1) (.slice A2 4 c2) (.slice A3 4 c3) Mm.zero) := fun _ _ _ h => h
 have rr : ∀ {T : List TypeId} (wx : World), Tk T wx wx := fun wx => Tk.refl _ wx
 have tn4 : ∀ (i : Nat), 4 ∉ (if i = 10 then [70] else [] : List TypeId) := fun i => by split <;> decide
 have tn3 : ∀ (i : Nat), 3 ∉ (if i = 10 then [70] else [] : List TypeId) := fun i => by split <;> decide
 have lt2 : ∀ {wx : World}, (Below w.heap.size w wx ∧ wx.heap[b1]? = some (.cells #[.slice A n c] 68) ∧ (∃ x y z u v, wx.heap[b2]? = some (.cells #[x, y, z, u, v] 70)) ∧ wx.heap[b3]? = some (.cells #[.slice A1 4 c1, .slice A2 4 c2, .slice A3 4 c3] 59) ∧ IsMem wx (.slice A1 4 c1) (.slice A2 4 c2) (.slice A3 4 c3) Mm.zero) → b2 < wx.heap.size := fun ⟨_, _, ⟨_, _, _, _, _, h⟩, _⟩ => blk_lt h
 have ss : ∀ {wx w2 : World}, Below wx.heap.size wx w2 → (Below w.heap.size w wx ∧ wx.heap[b1]? = some (.cells #[.slice A n c] 68) ∧ (∃ x y z u v, wx.heap[b2]? = some (.cells #[x, y, z, u, v] 70)) ∧ wx.heap[b3]? = some (.cells #[.slice A1 4 c1, .slice A2 4 c2, .slice A3 4 c3] 59) ∧ IsMem wx (.slice A1 4 c1) (.slice A2 4 c2) (.slice A3 4 c3) Mm.zero) → (Below w.heap.size w w2 ∧ w2.heap[b1]? = some (.cells #[.slice A n c] 68) ∧ (∃ x y z u v, w2.heap[b2]? = some (.cells #[x, y, z, u, v] 70)) ∧ w2.heap[b3]? = some (.cells #[.slice A1 4 c1, .slice A2 4 c2, .slice A3 4 c3] 59) ∧ IsMem w2 (.slice A1 4 c1) (.slice A2 4 c2) (.slice A3 4 c3) Mm.zero) := fun h ⟨h1, h2, ⟨x, y, z, u, v, h3⟩, h4, h5⟩ => ⟨bT h1 h, blk_below h h2, ⟨x, y, z, u, v, blk_below h h3⟩, blk_below h h4, h5.sees (Below.sees h)⟩
 refine wp_region_det (by kernel_rfl) (fun f => (⟨#[Value.agg #[Value.slice A n c], Value.pointer (some ⟨b1, 0, none⟩), Value.pointer (some ⟨b2, 0, none⟩), Value.pointer (some ⟨b3, 0, none⟩), .int .i64 0, Value.tuple #[Value.agg #[Value.slice A1 4 c1, Value.slice A2 4 c2, Value.slice A3 4 c3], .int .i64 0], Value.tuple #[Value.agg #[Value.slice A1 4 c1, Value.slice A2 4 c2, Value.slice A3 4 c3], .int .i64 0], Value.agg #[Value.slice A1 4 c1, Value.slice A2 4 c2, Value.slice A3 4 c3], .int .i64 0, f 0, f 1, f 2, f 3, f 4, f 5, f 6, f 7, f 8, f 9], []⟩ : Act)) (fun (i : Nat) (lv : Nat → Bool) (fv : Nat → Value) (wx : World) => match i with | 0 => fv 0 = .agg #[.slice A1 4 c1, .slice A2 4 c2, .slice A3 4 c3] | 1 => fv 1 = .pointer (some ⟨b1, 0, none⟩) | 2 => fv 2 = .slice A n c | 3 => fv 3 = .int .i64 (n : Int) | 4 => RowN b2 4 n (bools (List.replicate n false)) (fv 4) wx | 5 => fv 5 = .pointer (some ⟨b1, 0, none⟩) | 6 => fv 6 = .slice A n c | 7 => fv 7 = .int .i64 (n : Int) | 8 => RowN b2 3 n (ints (List.replicate n 0)) (fv 8) wx | 9 => ∃ d t, (fv 9) = .agg #[.slice A1 4 c1, .slice A2 4 c2, .slice A3 4 c3, d, t] ∧ RowN b2 4 n (bools (List.replicate n false))  d wx ∧ RowN b2 3 n (ints (List.replicate n 0))  t wx | 10 => ∃ d t, wx.heap[b2]? = some (.cells #[.slice A1 4 c1, .slice A2 4 c2, .slice A3 4 c3, d, t] 70) ∧ RowN b2 4 n (bools (List.replicate n false))  d wx ∧ RowN b2 3 n (ints (List.replicate n 0))  t wx | _ => True) (fun _ wx => Below w.heap.size w wx ∧ wx.heap[b1]? = some (.cells #[.slice A n c] 68) ∧ (∃ x y z u v, wx.heap[b2]? = some (.cells #[x, y, z, u, v] 70)) ∧ wx.heap[b3]? = some (.cells #[.slice A1 4 c1, .slice A2 4 c2, .slice A3 4 c3] 59) ∧ IsMem wx (.slice A1 4 c1) (.slice A2 4 c2) (.slice A3 4 c3) Mm.zero) (fun i w1 w2 => Tk (if i = 10 then [70] else []) w1 w2) (by kernel_rfl) (fun k => match k with | _ => undef) rfl ?keep ⟨bD HB2.out, H12.out, ⟨_, _, _, _, _, H22.out⟩, H32.out, HM2.out.sees (Below.sees (bD (bR W2)))⟩ ?steps ?fin
 case keep =>
  intro i j hij hd l f f' w1 w2 hf hR
  match j with
  | 0 | 1 | 2 | 3 | 5 | 6 | 7 => exact fun h => (hf _ (Ne.symm hij)).trans h
  | 4 =>
   intro h
   have h : RowN b2 4 n (bools (List.replicate n false)) (f 4) w1 := h
   show RowN b2 4 n (bools (List.replicate n false)) (f' 4) w2
   rw [hf 4 (Ne.symm hij)]
   exact h.tk hR (tn4 _)
  | 8 =>
   intro h
   have h : RowN b2 3 n (ints (List.replicate n 0)) (f 8) w1 := h
   show RowN b2 3 n (ints (List.replicate n 0)) (f' 8) w2
   rw [hf 8 (Ne.symm hij)]
   exact h.tk hR (tn3 _)
  | 9 =>
   intro h
   have h : ∃ d t, (f 9) = .agg #[.slice A1 4 c1, .slice A2 4 c2, .slice A3 4 c3, d, t] ∧ RowN b2 4 n (bools (List.replicate n false))  d w1 ∧ RowN b2 3 n (ints (List.replicate n 0))  t w1 := h
   show ∃ d t, (f' 9) = .agg #[.slice A1 4 c1, .slice A2 4 c2, .slice A3 4 c3, d, t] ∧ RowN b2 4 n (bools (List.replicate n false))  d w2 ∧ RowN b2 3 n (ints (List.replicate n 0))  t w2
   rw [hf 9 (Ne.symm hij)]
   exact h.elim fun d h => h.elim fun t h => ⟨d, t, h.1, h.2.1.tk hR (tn4 _), h.2.2.tk hR (tn3 _)⟩
  | 10 =>
   intro h
   have h : ∃ d t, w1.heap[b2]? = some (.cells #[.slice A1 4 c1, .slice A2 4 c2, .slice A3 4 c3, d, t] 70) ∧ RowN b2 4 n (bools (List.replicate n false))  d w1 ∧ RowN b2 3 n (ints (List.replicate n 0))  t w1 := h
   show ∃ d t, w2.heap[b2]? = some (.cells #[.slice A1 4 c1, .slice A2 4 c2, .slice A3 4 c3, d, t] 70) ∧ RowN b2 4 n (bools (List.replicate n false))  d w2 ∧ RowN b2 3 n (ints (List.replicate n 0))  t w2
   exact h.elim fun d h => h.elim fun t h => ⟨d, t, Tk.at_ hR (by rw [if_neg (fun e => hij e)]; decide) h.1, h.2.1.tk hR (tn4 _), h.2.2.tk hR (tn3 _)⟩
  | _ + 11 => exact id
 case steps =>
  refine fun i hi => stepsOf_at (k := 0) (n := 11) ?_ i (Nat.zero_le _) (by rw [Nat.zero_add]; exact hi)
  refine sC 0 10 (at0) [] (by kernel_rfl) (fun _ _ => rfl) (fun f wq l hl hun hdn hS hd K' HK => ?_) ?_
  ·
   clear hd
   obtain ⟨r0, r1, r2, _⟩ := cells3 hS.2.2.2.1
   go_simp
   exact HK.out _ _ _ rfl rfl (hq 0 l _ hS) (rr _)
  refine sC 1 9 (atS (at0)) [] (by kernel_rfl) (fun _ _ => rfl) (fun f wq l hl hun hdn hS hd K' HK => ?_) ?_
  ·
   clear hd
   go_simp
   exact HK.out _ _ _ rfl rfl (hq 1 l _ hS) (rr _)
  refine sC 2 8 (atS (atS (at0))) [1] (by kernel_rfl) (fun _ _ => rfl) (fun f wq l hl hun hdn hS hd K' HK => ?_) ?_
  ·
   obtain ⟨e1, -⟩ := hd
   have e1 : f 1 = .pointer (some ⟨b1, 0, none⟩) := e1
   obtain ⟨r0, _⟩ := cell1 hS.2.1
   simp only [e1]
   go_simp
   exact HK.out _ _ _ (by simp only [e1]; rfl) rfl (hq 2 l _ hS) (rr _)
  refine sC 3 7 (atS (atS (atS (at0)))) [2] (by kernel_rfl) (fun _ _ => rfl) (fun f wq l hl hun hdn hS hd K' HK => ?_) ?_
  ·
   obtain ⟨e2, -⟩ := hd
   have e2 : f 2 = .slice A n c := e2
   simp only [e2]
   go_simp
   exact HK.out _ _ _ (by simp only [e2]; rfl) rfl (hq 3 l _ hS) (rr _)
  refine sC 4 6 (atS (atS (atS (atS (at0))))) [3] (by kernel_rfl) (fun _ _ => rfl) (fun f wq l hl hun hdn hS hd K' HK => ?_) ?_
  ·
   obtain ⟨e3, -⟩ := hd
   have e3 : f 3 = .int .i64 (n : Int) := e3
   simp only [e3]
   have hmk := make_n_bools n hn
   go_simp
   exact HK.out _ _ _ (by simp only [e3]; rfl) ⟨_, rfl, lt2 hS, heap_alloc_new wq _⟩ (ss (bA (bR wq)) hS) (Tk.below (bA (bR wq)))
  refine sC 5 5 (atS (atS (atS (atS (atS (at0)))))) [] (by kernel_rfl) (fun _ _ => rfl) (fun f wq l hl hun hdn hS hd K' HK => ?_) ?_
  ·
   clear hd
   go_simp
   exact HK.out _ _ _ rfl rfl (hq 5 l _ hS) (rr _)
  refine sC 6 4 (atS (atS (atS (atS (atS (atS (at0))))))) [5] (by kernel_rfl) (fun _ _ => rfl) (fun f wq l hl hun hdn hS hd K' HK => ?_) ?_
  ·
   obtain ⟨e5, -⟩ := hd
   have e5 : f 5 = .pointer (some ⟨b1, 0, none⟩) := e5
   obtain ⟨r0, _⟩ := cell1 hS.2.1
   simp only [e5]
   go_simp
   exact HK.out _ _ _ (by simp only [e5]; rfl) rfl (hq 6 l _ hS) (rr _)
  refine sC 7 3 (atS (atS (atS (atS (atS (atS (atS (at0)))))))) [6] (by kernel_rfl) (fun _ _ => rfl) (fun f wq l hl hun hdn hS hd K' HK => ?_) ?_
  ·
   obtain ⟨e6, -⟩ := hd
   have e6 : f 6 = .slice A n c := e6
   simp only [e6]
   go_simp
   exact HK.out _ _ _ (by simp only [e6]; rfl) rfl (hq 7 l _ hS) (rr _)
  refine sC 8 2 (atS (atS (atS (atS (atS (atS (atS (atS (at0))))))))) [7] (by kernel_rfl) (fun _ _ => rfl) (fun f wq l hl hun hdn hS hd K' HK => ?_) ?_
  ·
   obtain ⟨e7, -⟩ := hd
   have e7 : f 7 = .int .i64 (n : Int) := e7
   simp only [e7]
   have hmk := make_n_ints n hn
   go_simp
   exact HK.out _ _ _ (by simp only [e7]; rfl) ⟨_, rfl, lt2 hS, heap_alloc_new wq _⟩ (ss (bA (bR wq)) hS) (Tk.below (bA (bR wq)))
  refine sC 9 1 (atS (atS (atS (atS (atS (atS (atS (atS (atS (at0)))))))))) [0, 4, 8] (by kernel_rfl) (fun _ _ => rfl) (fun f wq l hl hun hdn hS hd K' HK => ?_) ?_
  ·
   obtain ⟨e0, e4, e8, -⟩ := hd
   have e0 : f 0 = .agg #[.slice A1 4 c1, .slice A2 4 c2, .slice A3 4 c3] := e0
   have e4 : RowN b2 4 n (bools (List.replicate n false)) (f 4) wq := e4
   have e8 : RowN b2 3 n (ints (List.replicate n 0)) (f 8) wq := e8
   obtain ⟨g1, h1⟩ := e4
   obtain ⟨g2, h2⟩ := e8
   simp only [e0, h1.1, h2.1]
   go_simp
   exact HK.out _ _ _ (by simp only [e0, h1.1, h2.1]; rfl) ⟨_, _, rfl, ⟨g1, rfl, h1.2⟩, ⟨g2, rfl, h2.2⟩⟩ (hq 9 l _ hS) (rr _)
  refine sC 10 0 (atS (atS (atS (atS (atS (atS (atS (atS (atS (atS (at0))))))))))) [9] (by kernel_rfl) (fun _ _ => rfl) (fun f wq l hl hun hdn hS hd K' HK => ?_) ?_
  ·
   obtain ⟨e9, -⟩ := hd
   have e9 : ∃ d t, (f 9) = .agg #[.slice A1 4 c1, .slice A2 4 c2, .slice A3 4 c3, d, t] ∧ RowN b2 4 n (bools (List.replicate n false))  d wq ∧ RowN b2 3 n (ints (List.replicate n 0))  t wq := e9
   obtain ⟨d, t, h9, m1, m2⟩ := e9
   obtain ⟨x, y, z, u, v, hx⟩ := hS.2.2.1
   obtain ⟨r0, r1, r2, r3, r4, r5, r6, r7, r8, r9⟩ := cells5 hx
   obtain ⟨g1, rfl, p1⟩ := m1
   obtain ⟨g2, rfl, p2⟩ := m2
   have HX := Lib.hid hx
   have HM1 := Lib.hid (show RowN b2 4 n (bools (List.replicate n false)) _ wq from ⟨g1, rfl, p1⟩)
   have HM2 := Lib.hid (show RowN b2 3 n (ints (List.replicate n 0)) _ wq from ⟨g2, rfl, p2⟩)
   have HS := Lib.hid hS
   clear hx p1 p2 hS
   simp only [h9]
   go_simp
   have hk := Tk.set5 (x' := .slice A1 4 c1) (y' := .slice A2 4 c2) (z' := .slice A3 4 c3) (u' := .slice (some ⟨g1, 0, none⟩) n n) (v' := .slice (some ⟨g2, 0, none⟩) n n) HX.out
   exact HK.out undef _ _ (by simp only [h9]; rfl) ⟨_, _, set5 HX.out, HM1.out.tk hk (by decide), HM2.out.tk hk (by decide)⟩ ⟨bS (bS (bS (bS (bS HS.out.1 HL.out) HL.out) HL.out) HL.out) HL.out, hk.at_ (by decide) HS.out.2.1, ⟨_, _, _, _, _, set5 HX.out⟩, hk.at_ (by decide) HS.out.2.2.2.1, HS.out.2.2.2.2.tk hk (by decide) (by decide) (by decide)⟩ hk
  exact trivial
 case fin =>
  intro f wz l hl hall hS
  have a10 : ∃ d t, wz.heap[b2]? = some (.cells #[.slice A1 4 c1, .slice A2 4 c2, .slice A3 4 c3, d, t] 70) ∧ RowN b2 4 n (bools (List.replicate n false))  d wz ∧ RowN b2 3 n (ints (List.replicate n 0))  t wz := hall 10 (by decide)
  clear hall
  obtain ⟨d, t, h10, m1, m2⟩ := a10
  have HM := Lib.hid hS.2.2.2.2
  have HBz := Lib.hid hS.1
  obtain ⟨AD, rfl, rD⟩ := m1.row (by simp [bools])
  obtain ⟨AT, rfl, rT⟩ := m2.row (by simp [ints])
  have RD := Lib.hid rD
  have RT := Lib.hid rT
  clear m1 m2 rD rT hS
  go_wp2_with fail
  exact bodyPost_ret (ret70 rfl rfl h10) rfl ⟨⟨_, rfl, St.first_ok n, _, _, _, _, _, _, _, rfl, HM.out, RD.out, RT.out, Nat.le_refl _, Nat.le_refl _⟩, HBz.out⟩
end Go.Proofs.YtnigadeohmlpiaaGreatDoor

namespace Go.Proofs.YtnigadeohmlpiaaGreatDoor
open Go.RowKit
attribute [local go_sem] Oper.semAt_some
theorem ev_len : ∀ l : List Ev, (evCells l).length = l.length * 4
 | [] => rfl
 | x :: l => by
  have := ev_len l
  simp only [evCells, List.flatMap_cons, List.length_append, List.length_cons, List.length_nil] at *
  omega
theorem ev_at : ∀ (l : List Ev) (k : Nat) (e : Ev), l[k]? = some e → (evCells l)[k * 4]? = some (.int .i64 e.h) ∧ (evCells l)[k * 4 + 1]? = some (.int .i64 e.k) ∧ (evCells l)[k * 4 + 2]? = some (.int .i64 e.a) ∧ (evCells l)[k * 4 + 3]? = some (.int .i64 e.n)
 | [], k, e, h => by simp at h
 | x :: l, 0, e, h => by
  have : x = e := by simpa using h
  subst this
  simp [evCells]
 | x :: l, k + 1, e, h => by
  obtain ⟨h1, h2, h3, h4⟩ := ev_at l k e (by simpa using h)
  have hc : evCells (x :: l) = [.int .i64 x.h, .int .i64 x.k, .int .i64 x.a, .int .i64 x.n] ++ evCells l := rfl
  rw [hc]
  rw [show (k + 1) * 4 = k * 4 + 4 by omega]
  refine ⟨?_, ?_, ?_, ?_⟩
  ·
   rw [List.getElem?_append_right (by simp)]
   simpa using h1
  ·
   rw [List.getElem?_append_right (by simp), show k * 4 + 4 + 1 - [Value.int .i64 x.h, .int .i64 x.k, .int .i64 x.a, .int .i64 x.n].length = k * 4 + 1 by simp]
   exact h2
  ·
   rw [List.getElem?_append_right (by simp), show k * 4 + 4 + 2 - [Value.int .i64 x.h, .int .i64 x.k, .int .i64 x.a, .int .i64 x.n].length = k * 4 + 2 by simp]
   exact h3
  ·
   rw [List.getElem?_append_right (by simp), show k * 4 + 4 + 3 - [Value.int .i64 x.h, .int .i64 x.k, .int .i64 x.a, .int .i64 x.n].length = k * 4 + 3 by simp]
   exact h4
theorem IsEvs.at_ {w : World} {A : Option Addr} {n c k : Nat} {l : List Ev} (h : IsEvs w A n c l) (hk : k < n) :
  ∃ b off e, A = some ⟨b, off, none⟩ ∧ l[k]? = some e ∧ w.cell? ⟨b, off + k * 4, none⟩ = some (.int .i64 e.h) ∧ w.cell? ⟨b, off + k * 4 + 1, none⟩ = some (.int .i64 e.k) ∧ w.cell? ⟨b, off + k * 4 + 2, none⟩ = some (.int .i64 e.a) ∧ w.cell? ⟨b, off + k * 4 + 3, none⟩ = some (.int .i64 e.n) := by
 obtain ⟨b, off, e, _, hc⟩ := h.row.rd.2 (by omega)
 have hl : k < l.length := by have := h.len; omega
 have hx : l[k]? = some l[k] := List.getElem?_eq_getElem hl
 obtain ⟨h1, h2, h3, h4⟩ := ev_at l k _ hx
 exact ⟨b, off, _, e, hx, hc _ _ h1, hc _ _ h2, hc _ _ h3, hc _ _ h4⟩
theorem Row.bool {w : World} {A : Option Addr} {n k : Nat} {L : List Bool} (h : Row w 4 1 A n (bools L)) (hk : k < n) : ∃ b off u, A = some ⟨b, off, none⟩ ∧ L[k]? = some u ∧ w.cell? ⟨b, off + k, none⟩ = some (.bool u) := by
 obtain ⟨b, off, v, e, hv, hc⟩ := h.rd.at1 hk
 obtain ⟨u, hu, rfl⟩ : ∃ u, L[k]? = some u ∧ Value.bool u = v := by simpa [bools, List.getElem?_map] using hv
 exact ⟨b, off, u, e, hu, hc⟩
theorem Row.int {w : World} {A : Option Addr} {n k : Nat} {L : List Int} (h : Row w 3 1 A n (ints L)) (hk : k < n) : ∃ b off u, A = some ⟨b, off, none⟩ ∧ L[k]? = some u ∧ w.cell? ⟨b, off + k, none⟩ = some (.int .i64 u) := by
 obtain ⟨b, off, v, e, hv, hc⟩ := h.rd.at1 hk
 obtain ⟨u, hu, rfl⟩ : ∃ u, L[k]? = some u ∧ Value.int .i64 u = v := by simpa [ints, List.getElem?_map] using hv
 exact ⟨b, off, u, e, hu, hc⟩
def dueV : Option Nat → Int
 | some i => (i : Int)
 | none => -1
set_option maxHeartbeats 2000000 in
set_option maxRecDepth 100000 in
theorem due_any (A : Option Addr) (n c : Nat) (l : List Ev) (v : Value) (s : St) (h : Int) (w : World) (hn : n ≤ 6) (he : IsEvs w A n c l) (hs : IsSt w v n s) :
  Calls Tryz.prog 55 #[.agg #[.slice A n c], v, .int .i64 h] w fun e w' => e = .returned (.int .i64 (dueV (s.due l h))) ∧ Below w.heap.size w w' := by
 obtain ⟨v1, v2, v3, AD, cD, AT, cT, rfl, him, hrd, hrt, hcD, hcT⟩ := hs.is
 obtain ⟨A1, c1, rfl, _⟩ := him.ws
 obtain ⟨A2, c2, pv, rfl, _, _⟩ := him.ps
 obtain ⟨A3, c3, rfl, _⟩ := him.rs
 have HE := Lib.hid he
 have HD := Lib.hid hrd
 obtain ⟨b3, hb3⟩ : ∃ b, b = w.heap.size := ⟨_, rfl⟩
 obtain ⟨b4, hb4⟩ : ∃ b, b = b3 + 1 := ⟨_, rfl⟩
 obtain ⟨X1, hX1⟩ : ∃ X, X = w.alloc (.cells #[.slice A n c] 68) := ⟨_, rfl⟩
 obtain ⟨W0, hW0⟩ : ∃ X, X = X1.alloc (.cells #[.slice A1 4 c1, .slice A2 4 c2, .slice A3 4 c3, .slice AD n cD, .slice AT n cT] 70) := ⟨_, rfl⟩
 have s1 : X1.heap.size = b3 + 1 := by rw [hX1, World.size_alloc, hb3]
 have k1 : Below X1.heap.size X1 W0 := hW0 ▸ bA (bR X1)
 have HB0 := Lib.hid (show Below w.heap.size w W0 from bT (hX1 ▸ bA (bR w)) k1)
 have H3 := Lib.hid (show W0.heap[b3]? = some (.cells #[.slice A n c] 68) from blk_below k1 (by rw [hX1, hb3]; exact heap_alloc_new w _))
 have H4 := Lib.hid (show W0.heap[b4]? = some (.cells #[.slice A1 4 c1, .slice A2 4 c2, .slice A3 4 c3, .slice AD n cD, .slice AT n cT] 70) by rw [hW0, hb4, ← s1]; exact heap_alloc_new X1 _)
 have hWW : W0 = (w.alloc (.cells #[.slice A n c] 68)).alloc (.cells #[.slice A1 4 c1, .slice A2 4 c2, .slice A3 4 c3, .slice AD n cD, .slice AT n cT] 70) := by rw [hW0, hX1]
 clear hX1 hW0 s1 k1 he hs him hrd hrt
 go_enter Tryz.func55, Tryz.ntmps55
 go_wp2_with fail
 rw [← hb3, ← hb4, ← hWW]
 clear hb3 hb4 hWW
 go_loopw [12] (fun x wr => ∃ k : Nat, k ≤ n ∧ x = .int .i64 k ∧ (∀ j, j < k → s.at_ l h j = false) ∧ Below w.heap.size w wr ∧ Below W0.heap.size W0 wr) (fun x _ => n - (intOf x).toNat)
 case atStart => exact ⟨0, by omega, rfl, fun j hj => absurd hj (by omega), HB0.out, bR W0⟩
 case round =>
  obtain ⟨k, hk, rfl, hall, hbw, hbw0⟩ := hrel
  have HA := Lib.hid hall
  have HBW := Lib.hid hbw
  have HBW0 := Lib.hid hbw0
  clear hall hbw hbw0
  by_cases hlt : k < n
  ·
   obtain ⟨g, off, x, hA, hx, hc0, hc1, hc2, hc3⟩ := (HE.out.sees (Below.sees HBW.out)).at_ hlt
   obtain ⟨gd, offd, u, hAD, hu, hcd⟩ := (HD.out.below HBW.out).bool hlt
   have HX := Lib.hid hx
   have HU := Lib.hid hu
   have H4w := Lib.hid (blk_below HBW0.out H4.out)
   have hlb : decide ((k : Int) < (n : Int)) = true := by simp; omega
   have hat : s.at_ l h k = ((x.h == h) && (u == false)) := by
    unfold St.at_
    rw [HX.out, List.getD_eq_getElem?_getD, HU.out]
    rfl
   have HAT := Lib.hid hat
   obtain ⟨xh, hxh⟩ : ∃ z, z = x.h := ⟨_, rfl⟩
   rw [← hxh] at hc0 HAT
   clear hx hu hat hxh
   subst hA
   subst hAD
   by_cases hxa : xh = h
   ·
    subst hxa
    have hbn : Below wr.heap.size wr (wr.alloc (.cells #[.int .i64 xh, .int .i64 x.k, .int .i64 x.a, .int .i64 x.n] 44)) := bA (bR wr)
    have hcd' := (hbn.cell (p := ⟨gd, offd + k, none⟩) (cell_lt hcd)).trans hcd
    obtain ⟨_, _, _, r3, _⟩ := cells5 (blk_below hbn H4w.out)
    cases u
    ·
     have HF := Lib.hid (show dueV (s.due l xh) = (k : Int) by
      rw [show s.due l xh = some k from find_range_some (by have := HE.out.len; omega) (by rw [HAT.out]; simp) HA.out]
      rfl)
     go_wp2_with fail
     go_ret
     exact ⟨ret_int HF.out.symm, bA HBW.out⟩
    ·
     have HN := Lib.hid (show ∀ j, j < k + 1 → s.at_ l xh j = false from fun j hj => by
      rcases Nat.lt_or_ge j k with h1 | h1
      ·
       exact HA.out j h1
      ·
       rw [show j = k by omega, HAT.out]
       simp)
     go_wp2_with fail
     go_roundw
     case rel => exact ⟨k + 1, by omega, by go_num, HN.out, bA HBW.out, bA HBW0.out⟩
     case measure => simp [intOf]; omega
   ·
    have hxb : (xh == h) = false := by simpa using hxa
    have HN := Lib.hid (show ∀ j, j < k + 1 → s.at_ l h j = false from fun j hj => by
     rcases Nat.lt_or_ge j k with h1 | h1
     ·
      exact HA.out j h1
     ·
      rw [show j = k by omega, HAT.out, hxb]
      rfl)
    clear hxa
    go_wp2_with fail
    go_roundw
    case rel => exact ⟨k + 1, by omega, by go_num, HN.out, bA HBW.out, bA HBW0.out⟩
    case measure => simp [intOf]; omega
  ·
   have hlb : decide ((k : Int) < (n : Int)) = false := by simp; omega
   have HF := Lib.hid (show dueV (s.due l h) = -1 by
    rw [show s.due l h = none from find_range_none (fun j hj => HA.out j (by have := HE.out.len; omega))]
    rfl)
   go_wp2_with fail
   go_ret
   exact ⟨ret_int HF.out.symm, HBW.out⟩
end Go.Proofs.YtnigadeohmlpiaaGreatDoor

namespace Go.Proofs.YtnigadeohmlpiaaGreatDoor
open Go.RowKit
attribute [local go_sem] Oper.semAt_some
theorem ret70b {fn : Func} {p q : Tmp} {tmps : Array Value} {w : World} {b : Nat} {x y z u v : Value} (hfn : fn.results = #[.cell p 70, .tmp q]) (hp : tmps.getD p undef = .pointer (some ⟨b, 0, none⟩))
  (h : w.heap[b]? = some (.cells #[x, y, z, u, v] 70)) : (results fn tmps).run Tryz.prog w = .ok (.tuple #[.agg #[x, y, z, u, v], tmps.getD q undef]) w := by
 rw [results_cell_tmp hfn, hp]
 obtain ⟨h0, h1, h2, h3, h4, _⟩ := cells5 h
 simp [go_sem, h0, h1, h2, h3, h4]
def Sl (v : Value) : Prop := ∃ a n c, v = .slice a n c
def NextIs (n : Nat) (o : Option St) (e : Ending) (w : World) : Prop :=
 match o with
 | some s' => ∃ v, e = .returned (.tuple #[v, .bool true]) ∧ IsSt w v n s'
 | none => ∃ u1 u2 u3 u4 u5, Sl u1 ∧ Sl u2 ∧ Sl u3 ∧ Sl u4 ∧ Sl u5 ∧ e = .returned (.tuple #[.agg #[u1, u2, u3, u4, u5], .bool false])
def pickV (x : Pk) : Value := .agg #[.int .i64 x.h, .bool x.d, .int .i64 x.w]
def I64ok (z : Int) : Prop := -9223372036854775808 ≤ z ∧ z ≤ 9223372036854775807
set_option maxHeartbeats 2000000 in
set_option maxRecDepth 100000 in
theorem stDrain_any (n : Nat) (v : Value) (s : St) (x : Pk) (w : World) (hs : IsSt w v n s) (hx1 : I64ok x.h) (hx2 : I64ok x.w) :
  Calls Tryz.prog 54 #[v, pickV x] w fun e w' => NextIs n ((s.m.drainZ' x.h x.w).map (fun m => ⟨m, s.done, s.told⟩)) e w' ∧ Below w.heap.size w w' := by
 have HS := Lib.hid hs
 obtain ⟨v1, v2, v3, AD, cD, AT, cT, rfl, him, hrd, hrt, hcD, hcT⟩ := hs.is
 obtain ⟨A1, c1, rfl, _⟩ := him.ws
 obtain ⟨A2, c2, pv, rfl, _, _⟩ := him.ps
 obtain ⟨A3, c3, rfl, _⟩ := him.rs
 have HIM := Lib.hid him
 have HD := Lib.hid hrd
 have HT := Lib.hid hrt
 obtain ⟨b2, hb2⟩ : ∃ b, b = w.heap.size := ⟨_, rfl⟩
 obtain ⟨b3, hb3⟩ : ∃ b, b = b2 + 1 := ⟨_, rfl⟩
 obtain ⟨b4, hb4⟩ : ∃ b, b = b3 + 1 := ⟨_, rfl⟩
 obtain ⟨X1, hX1⟩ : ∃ X, X = w.alloc (.cells #[.slice A1 4 c1, .slice A2 4 c2, .slice A3 4 c3, .slice AD n cD, .slice AT n cT] 70) := ⟨_, rfl⟩
 obtain ⟨X2, hX2⟩ : ∃ X, X = X1.alloc (.cells #[.int .i64 x.h, .bool x.d, .int .i64 x.w] 56) := ⟨_, rfl⟩
 obtain ⟨W0, hW0⟩ : ∃ X, X = X2.alloc (.cells #[.slice none 0 0, .slice none 0 0, .slice none 0 0, .slice none 0 0, .slice none 0 0] 70) := ⟨_, rfl⟩
 have s1 : X1.heap.size = b2 + 1 := by rw [hX1, World.size_alloc, hb2]
 have s2 : X2.heap.size = b2 + 1 + 1 := by rw [hX2, World.size_alloc, s1]
 have k2 : Below X2.heap.size X2 W0 := hW0 ▸ bA (bR X2)
 have k1 : Below X1.heap.size X1 W0 := bT (hX2 ▸ bA (bR X1)) k2
 have HB0 := Lib.hid (show Below w.heap.size w W0 from bT (hX1 ▸ bA (bR w)) k1)
 have H2 := Lib.hid (show W0.heap[b2]? = some (.cells #[.slice A1 4 c1, .slice A2 4 c2, .slice A3 4 c3, .slice AD n cD, .slice AT n cT] 70) from blk_below k1 (by rw [hX1, hb2]; exact heap_alloc_new w _))
 have H3 := Lib.hid (show W0.heap[b3]? = some (.cells #[.int .i64 x.h, .bool x.d, .int .i64 x.w] 56) from blk_below k2 (by rw [hX2, hb3, ← s1]; exact heap_alloc_new X1 _))
 have H4 := Lib.hid (show W0.heap[b4]? = some (.cells #[.slice none 0 0, .slice none 0 0, .slice none 0 0, .slice none 0 0, .slice none 0 0] 70) by rw [hW0, hb4, hb3, ← s2]; exact heap_alloc_new X2 _)
 have HL := Lib.hid (show w.heap.size ≤ b4 by omega)
 have hWW : W0 = ((w.alloc (.cells #[.slice A1 4 c1, .slice A2 4 c2, .slice A3 4 c3, .slice AD n cD, .slice AT n cT] 70)).alloc (.cells #[.int .i64 x.h, .bool x.d, .int .i64 x.w] 56)).alloc (.cells #[.slice none 0 0, .slice none 0 0, .slice none 0 0, .slice none 0 0, .slice none 0 0] 70) := by rw [hW0, hX2, hX1]
 have HDr := Lib.hid (drainTop_any (.slice A1 4 c1) (.slice A2 4 c2) (.slice A3 4 c3) s.m x.h x.w W0 (him.sees (Below.sees HB0.out)) hx1.1 hx1.2 hx2.1 hx2.2)
 clear hX1 hX2 hW0 s1 s2 k1 k2 hs him hrd hrt hx1 hx2
 unfold pickV
 go_enter Tryz.func54, Tryz.ntmps54
 go_wp2_with fail
 rw [← hb2, ← hb3, ← hb4, ← hWW]
 clear hb2 hb3 hb4 hWW
 refine HDr.out.mono ?_
 rintro e w1 ⟨hdi, hbw⟩
 have HB1 := Lib.hid (bT HB0.out hbw)
 have H21 := Lib.hid (blk_below hbw H2.out)
 have H41 := Lib.hid (blk_below hbw H4.out)
 have HD1 := Lib.hid (HD.out.below HB1.out)
 have HT1 := Lib.hid (HT.out.below HB1.out)
 cases hd : s.m.drainZ x.h x.w with
 | none =>
  rw [hd] at hdi
  obtain ⟨er, her, rfl⟩ := hdi
  have hee : (er == 0) = false := by simpa using her
  have hz : (s.m.drainZ' x.h x.w) = none := hd
  have HZ := Lib.hid hz
  have hbn : Below w1.heap.size w1 (w1.alloc (.cells #[.slice none 0 0, .slice none 0 0, .slice none 0 0] 59)) := bA (bR w1)
  obtain ⟨_, _, _, r3, r4, _⟩ := cells5 (blk_below hbn H21.out)
  have H42 := Lib.hid (blk_below hbn H41.out)
  obtain ⟨t0, t1, t2, t3, t4, f0, f1, f2, f3, f4⟩ := cells5 H42.out
  have HB2 := Lib.hid (bT HB1.out hbn)
  clear hd hz hbw hbn her
  go_wp2_with fail
  exact bodyPost_ret (ret70b rfl rfl (set5 H42.out)) rfl ⟨by rw [HZ.out]; exact ⟨_, _, _, _, _, ⟨_, _, _, rfl⟩, ⟨_, _, _, rfl⟩, ⟨_, _, _, rfl⟩, ⟨_, _, _, rfl⟩, ⟨_, _, _, rfl⟩, rfl⟩, bS (bS (bS (bS (bS HB2.out HL.out) HL.out) HL.out) HL.out) HL.out⟩
 | some M' =>
  rw [hd] at hdi
  obtain ⟨u1, u2, u3, rfl, him'⟩ := hdi
  obtain ⟨E1, d1, rfl, _⟩ := him'.ws
  obtain ⟨E2, d2, pw, rfl, _, _⟩ := him'.ps
  obtain ⟨E3, d3, rfl, _⟩ := him'.rs
  have hz : (s.m.drainZ' x.h x.w) = some M' := hd
  have HZ := Lib.hid hz
  have HI := Lib.hid him'
  have hbn : Below w1.heap.size w1 (w1.alloc (.cells #[.slice E1 4 d1, .slice E2 4 d2, .slice E3 4 d3] 59)) := bA (bR w1)
  obtain ⟨_, _, _, r3, r4, _⟩ := cells5 (blk_below hbn H21.out)
  have H42 := Lib.hid (blk_below hbn H41.out)
  obtain ⟨t0, t1, t2, t3, t4, f0, f1, f2, f3, f4⟩ := cells5 H42.out
  have HB2 := Lib.hid (bT HB1.out hbn)
  have HSn := Lib.hid (Below.sees hbn)
  have HOk := Lib.hid (show (⟨M', s.done, s.told⟩ : St).Ok n by
   have h1 : (⟨M', s.done, s.told⟩ : St).Ok n := by
    unfold Mm.drainZ' at hz
    split at hz
    ·
     exact St.drain_ok HS.out.ok hz
    ·
     cases hz
   exact h1)
  clear hd hz hbw hbn him'
  go_wp2_with fail
  refine bodyPost_ret (ret70b rfl rfl (set5 H42.out)) rfl ⟨?_, bS (bS (bS (bS (bS HB2.out HL.out) HL.out) HL.out) HL.out) HL.out⟩
  have htk := Tk.set5 (x' := .slice E1 4 d1) (y' := .slice E2 4 d2) (z' := .slice E3 4 d3) (u' := .slice AD n cD) (v' := .slice AT n cT) H42.out
  rw [HZ.out]
  exact ⟨_, rfl, HOk.out, _, _, _, _, _, _, _, rfl, (HI.out.sees HSn.out).tk htk (by decide) (by decide) (by decide), (HD1.out.sees HSn.out (by decide) (by decide) (by decide)).tk htk (by decide), (HT1.out.sees HSn.out (by decide) (by decide) (by decide)).tk htk (by decide), hcD, hcT⟩
end Go.Proofs.YtnigadeohmlpiaaGreatDoor

namespace Go.Proofs.YtnigadeohmlpiaaGreatDoor
open Go.RowKit
attribute [local go_sem] Oper.semAt_some
def outF (x : Ev × Int) : Option Int := if x.1.k = 1 then some x.2 else none
def outK (l : List Ev) (s : St) (k : Nat) : List Int := ((l.zip s.told).take k).filterMap outF
theorem outK_all {l : List Ev} {s : St} {n : Nat} (hl : l.length = n) (h : ∀ j, j < n → s.done[j]? = some true) (hd : s.done.length = n) : s.outcome l = some (outK l s n) := by
 unfold St.outcome outK
 have h1 : s.done.all id = true := by
  rw [List.all_eq_true]
  intro b hb
  obtain ⟨j, hj, rfl⟩ := List.getElem_of_mem hb
  have := h j (by omega)
  rw [List.getElem?_eq_getElem hj] at this
  exact Option.some.inj this
 rw [if_pos h1, List.take_of_length_le (by rw [List.length_zip]; omega)]
 rfl
theorem out_none {l : List Ev} {s : St} {k : Nat} (h : s.done[k]? = some false) : s.outcome l = none := by
 unfold St.outcome
 rw [if_neg]
 intro h1
 have := List.all_eq_true.1 h1 false (List.mem_of_getElem? h)
 cases this
theorem outK_succ {l : List Ev} {s : St} {k : Nat} {e : Ev} {z : Int} (h1 : l[k]? = some e) (h2 : s.told[k]? = some z) : outK l s (k + 1) = if e.k = 1 then outK l s k ++ [z] else outK l s k := by
 unfold outK
 rw [List.take_add_one, List.filterMap_append]
 have h3 : (l.zip s.told)[k]? = some (e, z) := by
  rw [List.getElem?_zip_eq_some]
  exact ⟨h1, h2⟩
 rw [h3]
 by_cases hk : e.k = 1
 ·
  rw [if_pos hk]
  simp [outF, hk]
 ·
  rw [if_neg hk]
  simp [outF, hk]
theorem outK_len (l : List Ev) (s : St) (k : Nat) : (outK l s k).length ≤ k :=
 Nat.le_trans (List.length_filterMap_le _ _) (by rw [List.length_take]; exact Nat.min_le_left _ _)
def OutIs (base : Nat) (o : Option (List Int)) (e : Ending) (w : World) : Prop :=
 match o with
 | some z => ∃ A c, e = .returned (.tuple #[.slice A z.length c, .bool true]) ∧ w.ownsRow base 3 1 (.slice A z.length c) z.length (ints z) ∧ z.length ≤ c
 | none => e = .returned (.tuple #[.slice none 0 0, .bool false])
set_option maxHeartbeats 2000000 in
set_option maxRecDepth 100000 in
theorem outcome_any (A : Option Addr) (n c : Nat) (l : List Ev) (v : Value) (s : St) (w : World) (hn : n ≤ 6) (he : IsEvs w A n c l) (hs : IsSt w v n s) :
  Calls Tryz.prog 33 #[.agg #[.slice A n c], v] w fun e w' => OutIs w.heap.size (s.outcome l) e w' ∧ Below w.heap.size w w' := by
 have HSd := Lib.hid hs.ok.d
 obtain ⟨i0, hi, hz0, hz1, hz2⟩ := info_parts int_info
 obtain ⟨v1, v2, v3, AD, cD, AT, cT, rfl, him, hrd, hrt, hcD, hcT⟩ := hs.is
 obtain ⟨A1, c1, rfl, _⟩ := him.ws
 obtain ⟨A2, c2, pv, rfl, _, _⟩ := him.ps
 obtain ⟨A3, c3, rfl, _⟩ := him.rs
 have HE := Lib.hid he
 have HD := Lib.hid hrd
 have HT := Lib.hid hrt
 obtain ⟨b2, hb2⟩ : ∃ b, b = w.heap.size := ⟨_, rfl⟩
 obtain ⟨b3, hb3⟩ : ∃ b, b = b2 + 1 := ⟨_, rfl⟩
 obtain ⟨X1, hX1⟩ : ∃ X, X = w.alloc (.cells #[.slice A n c] 68) := ⟨_, rfl⟩
 obtain ⟨W0, hW0⟩ : ∃ X, X = X1.alloc (.cells #[.slice A1 4 c1, .slice A2 4 c2, .slice A3 4 c3, .slice AD n cD, .slice AT n cT] 70) := ⟨_, rfl⟩
 have s1 : X1.heap.size = b2 + 1 := by rw [hX1, World.size_alloc, hb2]
 have k1 : Below X1.heap.size X1 W0 := hW0 ▸ bA (bR X1)
 have HB0 := Lib.hid (show Below w.heap.size w W0 from bT (hX1 ▸ bA (bR w)) k1)
 have H3 := Lib.hid (show W0.heap[b3]? = some (.cells #[.slice A1 4 c1, .slice A2 4 c2, .slice A3 4 c3, .slice AD n cD, .slice AT n cT] 70) by rw [hW0, hb3, ← s1]; exact heap_alloc_new X1 _)
 have HLe := Lib.hid (show w.heap.size ≤ W0.heap.size from HB0.out.size)
 have hWW : W0 = (w.alloc (.cells #[.slice A n c] 68)).alloc (.cells #[.slice A1 4 c1, .slice A2 4 c2, .slice A3 4 c3, .slice AD n cD, .slice AT n cT] 70) := by rw [hW0, hX1]
 clear hX1 hW0 s1 k1 he hs him hrd hrt
 go_enter Tryz.func33, Tryz.ntmps33
 go_wp2_with fail
 rw [← hb2, ← hb3, ← hWW]
 clear hb2 hb3 hWW
 go_loopw [4, 11] (fun v x wr => ∃ k : Nat, k ≤ n ∧ x = .int .i64 k ∧ (∀ j, j < k → s.done[j]? = some true) ∧ wr.ownsRow W0.heap.size 3 1 v (outK l s k).length (ints (outK l s k)) ∧ Below W0.heap.size W0 wr) (fun _ x _ => n - (intOf x).toNat)
 case atStart => exact ⟨0, by omega, rfl, fun j hj => absurd hj (by omega), World.ownsRow_nil _ _ _ _, bR W0⟩
 case round =>
  obtain ⟨k, hk, rfl, hall, hown, hbw⟩ := hrel
  have HA := Lib.hid hall
  have HO := Lib.hid hown
  have HBW := Lib.hid hbw
  have HB := Lib.hid (bT HB0.out hbw)
  clear hall hown hbw
  by_cases hlt : k < n
  ·
   obtain ⟨g, off, x, hA, hx, hc0, hc1, hc2, hc3⟩ := (HE.out.sees (Below.sees HB.out)).at_ hlt
   obtain ⟨gd, offd, u, hAD, hu, hcd⟩ := (HD.out.below HB.out).bool hlt
   obtain ⟨gt, offt, z, hAT, hz, hct⟩ := (HT.out.below HB.out).int hlt
   have HX := Lib.hid hx
   have HU := Lib.hid hu
   have HZ := Lib.hid hz
   have hlb : decide ((k : Int) < (n : Int)) = true := by simp; omega
   obtain ⟨xk, hxk⟩ : ∃ z, z = x.k := ⟨_, rfl⟩
   rw [← hxk] at hc1
   have HXK := Lib.hid hxk
   clear hx hu hz hxk
   subst hA
   subst hAD
   subst hAT
   have hbn : Below wr.heap.size wr (wr.alloc (.cells #[.int .i64 x.h, .int .i64 xk, .int .i64 x.a, .int .i64 x.n] 44)) := bA (bR wr)
   have hcd' := (hbn.cell (p := ⟨gd, offd + k, none⟩) (cell_lt hcd)).trans hcd
   have hct' := (hbn.cell (p := ⟨gt, offt + k, none⟩) (cell_lt hct)).trans hct
   obtain ⟨_, _, _, r3, r4, _⟩ := cells5 (blk_below hbn (blk_below HBW.out H3.out))
   cases u
   ·
    have HN := Lib.hid (out_none (l := l) HU.out)
    go_wp2_with fail
    exact bodyPost_ret (results_tmp2 rfl _ _ _) rfl ⟨by rw [HN.out]; rfl, bA HB.out⟩
   ·
    have HAll := Lib.hid (show ∀ j, j < k + 1 → s.done[j]? = some true from fun j hj => by
     rcases Nat.lt_or_ge j k with h1 | h1
     ·
      exact HA.out j h1
     ·
      rw [show j = k by omega]
      exact HU.out)
    by_cases hx1 : xk = 1
    ·
     subst hx1
     have HS := Lib.hid ((outK_succ HX.out HZ.out).trans (if_pos HXK.out.symm))
     have hlen := outK_len l s k
     obtain ⟨zs, hzs⟩ : ∃ zs, zs = outK l s k := ⟨_, rfl⟩
     rw [← hzs] at HO HS hlen
     obtain ⟨Ao, co, rfl, hco, _⟩ := own_slice HO.out
     have HO2 := Lib.hid (HO.out.alloc (.cells #[.int .i64 x.h, .int .i64 1, .int .i64 x.a, .int .i64 x.n] 44))
     clear hzs
     have hnew : ((wr.alloc (.cells #[.int .i64 x.h, .int .i64 1, .int .i64 x.a, .int .i64 x.n] 44)).alloc (.cells #[.int .i64 z] 3)).heap[wr.heap.size + 1]? = some (.cells #[.int .i64 z] 3) := by
      have := heap_alloc_new (wr.alloc (.cells #[.int .i64 x.h, .int .i64 1, .int .i64 x.a, .int .i64 x.n] 44)) (.cells #[.int .i64 z] 3)
      rwa [World.size_alloc] at this
     have HNw := Lib.hid hnew
     have HOl := Lib.hid (HO2.out.alloc (.cells #[.int .i64 z] 3))
     clear hnew
     go_wp2_with (at_builtin; refine wpList_append_rd _ rfl (.tmp 25) (.tmp 31) 32 rfl W0.heap.size 3 i0 _ 1 8 Tryz.underlying32 hi hz0 hz1 hz2 rfl (by decide) (.slice Ao zs.length co) zs.length _ rfl HOl.out (some ⟨wr.heap.size + 1, 0, none⟩) 1 1 [.int .i64 z] rfl ⟨rfl, fun _ => ⟨wr.heap.size + 1, 0, rfl, blk_lt HNw.out, fun j u hu => one_cell HNw.out hu⟩⟩ (by simp [Value.oneCell']) (by unfold maxLen; omega) (by omega) (by have := HBW.out.size; simp; omega) ?_; intro v' w3 hown' hgrow)
     go_roundw
     case rel =>
      refine ⟨k + 1, by omega, by go_num, HAll.out, ?_, (bA (bA HBW.out)).grown hgrow (bA (bA HBW.out)).size (fun r e => (HOl.out.lt r e).1)⟩
      rw [HS.out, List.length_append]
      simpa [ints] using hown'
     case measure => simp [intOf]; omega
    ·
     have hxb : (xk == 1) = false := by simpa using hx1
     have HS := Lib.hid ((outK_succ HX.out HZ.out).trans (if_neg (fun e => hx1 (HXK.out.trans e))))
     clear hx1
     go_wp2_with fail
     go_roundw
     case rel => exact ⟨k + 1, by omega, by go_num, HAll.out, by rw [HS.out]; exact HO.out.alloc _, bA HBW.out⟩
     case measure => simp [intOf]; omega
  ·
   have hlb : decide ((k : Int) < (n : Int)) = false := by simp; omega
   have hkn : k = n := by omega
   have HF := Lib.hid (outK_all HE.out.len (fun j hj => HA.out j (by omega)) HSd.out)
   obtain ⟨Ao, co, rfl, hco, _⟩ := own_slice HO.out
   go_wp2_with fail
   refine bodyPost_ret (results_tmp2 rfl _ _ _) rfl ⟨?_, bT HB0.out HBW.out⟩
   rw [HF.out, ← hkn]
   exact ⟨Ao, co, rfl, own_low HO.out HLe.out, hco⟩
end Go.Proofs.YtnigadeohmlpiaaGreatDoor
