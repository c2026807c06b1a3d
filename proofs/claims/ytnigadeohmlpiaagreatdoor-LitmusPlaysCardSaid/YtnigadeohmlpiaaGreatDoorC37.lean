/- Contracts and words: whether a hart and a word are there; what a load tells; what a load tells; a memory in memory of its own; a memory of four harts and four words; a number that is in a word's range is its own word; a number goes to memory. No condition of ours. -/
import Derived.Test.YtnigadeohmlpiaaGreatDoorC15
import Derived.Test.YtnigadeohmlpiaaGreatDoorC02
namespace Go.Proofs.YtnigadeohmlpiaaGreatDoor
open Go.RowKit
attribute [local go_sem] Oper.semAt_some
set_option maxHeartbeats 4000000 in
set_option maxRecDepth 100000 in
theorem hart80_any (v1 v2 v3 : Value) (M : Mm) (h : Int) (w : World) (hm : IsMem w v1 v2 v3 M) :
  Calls Tryz.prog 80 #[.agg #[v1, v2, v3], .int .i64 h] w fun o w' => o = .returned (.bool (decide (0 ≤ h) && decide (h < 4))) ∧ Below w.heap.size w w' := by
 obtain ⟨A1, c1, rfl, _⟩ := hm.ws
 obtain ⟨A2, c2, pv, rfl, _⟩ := hm.ps
 obtain ⟨A3, c3, rfl, _⟩ := hm.rs
 obtain ⟨W, hW⟩ : ∃ X, X = w.alloc (.cells #[.slice A1 4 c1, .slice A2 4 c2, .slice A3 4 c3] 59) := ⟨_, rfl⟩
 obtain ⟨b, hb⟩ : ∃ b, b = w.heap.size := ⟨_, rfl⟩
 have HB := Lib.hid (show Below w.heap.size w W from hW ▸ bA (bR w))
 have hh : W.heap[b]? = some (.cells #[.slice A1 4 c1, .slice A2 4 c2, .slice A3 4 c3] 59) := by rw [hW, hb]; exact heap_alloc_new w _
 obtain ⟨q0, q1, q2, _⟩ := cells3 hh
 clear hm hh
 by_cases h0 : 0 ≤ h
 ·
  have hb0 : decide (h ≥ 0) = true := by simpa using h0
  have hb0' : decide (0 ≤ h) = true := by simpa using h0
  rw [hb0', Bool.true_and]
  by_cases h4 : h < 4
  ·
   have hb4 : decide (h < 4) = true := by simpa using h4
   rw [hb4]
   clear h0 h4
   go_enter Tryz.func80, Tryz.ntmps80
   go_upto_region 1 with fail
   rw [← hW, ← hb]
   clear hW hb
   go_wp2_with fail
   go_ret
   exact ⟨rfl, HB.out⟩
  ·
   have hb4 : decide (h < 4) = false := by simpa using h4
   rw [hb4]
   clear h0 h4
   go_enter Tryz.func80, Tryz.ntmps80
   go_upto_region 1 with fail
   rw [← hW, ← hb]
   clear hW hb
   go_wp2_with fail
   go_ret
   exact ⟨rfl, HB.out⟩
 ·
  have hb0 : decide (h ≥ 0) = false := by simpa using h0
  have hb0' : decide (0 ≤ h) = false := by simpa using h0
  rw [hb0', Bool.false_and]
  clear h0
  go_enter Tryz.func80, Tryz.ntmps80
  go_upto_region 1 with fail
  rw [← hW, ← hb]
  clear hW hb
  go_wp2_with fail
  go_ret
  exact ⟨rfl, HB.out⟩
set_option maxHeartbeats 4000000 in
set_option maxRecDepth 100000 in
theorem there82_any (v1 v2 v3 : Value) (M : Mm) (h a : Int) (w : World) (hm : IsMem w v1 v2 v3 M) :
  Calls Tryz.prog 82 #[.agg #[v1, v2, v3], .int .i64 h, .int .i64 a] w fun o w' => o = .returned (.bool ((decide (0 ≤ h) && decide (h < 4)) && (decide (0 ≤ a) && decide (a < 4)))) ∧ Below w.heap.size w w' := by
 have HM := Lib.hid hm
 obtain ⟨A1, c1, rfl, _⟩ := hm.ws
 obtain ⟨A2, c2, pv, rfl, _⟩ := hm.ps
 obtain ⟨A3, c3, rfl, _⟩ := hm.rs
 obtain ⟨W, hW⟩ : ∃ X, X = w.alloc (.cells #[.slice A1 4 c1, .slice A2 4 c2, .slice A3 4 c3] 59) := ⟨_, rfl⟩
 obtain ⟨b, hb⟩ : ∃ b, b = w.heap.size := ⟨_, rfl⟩
 have HB := Lib.hid (show Below w.heap.size w W from hW ▸ bA (bR w))
 have hh : W.heap[b]? = some (.cells #[.slice A1 4 c1, .slice A2 4 c2, .slice A3 4 c3] 59) := by rw [hW, hb]; exact heap_alloc_new w _
 have HH := Lib.hid hh
 obtain ⟨q0, q1, q2, _⟩ := cells3 hh
 have HHt := Lib.hid (hart80_any _ _ _ M h W (HM.out.sees (Below.sees HB.out)))
 obtain ⟨ht, hht⟩ : ∃ q, q = (decide (0 ≤ h) && decide (h < 4)) := ⟨_, rfl⟩
 rw [← hht] at HHt ⊢
 obtain ⟨r, hr⟩ : ∃ q, q = (ht && (decide (0 ≤ a) && decide (a < 4))) := ⟨_, rfl⟩
 rw [← hr]
 have HRr := Lib.hid hr
 clear hm hh hht hr
 go_enter Tryz.func82, Tryz.ntmps82
 go_upto_region 1 with fail
 rw [← hW, ← hb]
 clear hW hb
 go_wp2_with fail
 refine HHt.out.mono ?_
 rintro o w2 ⟨rfl, hb2⟩
 have HB2 := Lib.hid (bT HB.out hb2)
 obtain ⟨r0, _⟩ := cells3 (blk_below hb2 HH.out)
 clear hb2 q0 q1 q2
 cases ht with
 | false =>
  have HR2 := Lib.hid (show r = false from by rw [HRr.out]; rfl)
  go_wp2_with fail
  go_ret
  exact ⟨ret_bool HR2.out.symm, HB2.out⟩
 | true =>
  by_cases h0 : 0 ≤ a
  ·
   have hb0 : decide (a ≥ 0) = true := by simpa using h0
   have hb0' : decide (0 ≤ a) = true := by simpa using h0
   by_cases h4 : a < 4
   ·
    have hb4 : decide (a < 4) = true := by simpa using h4
    have HR2 := Lib.hid (show r = true from by rw [HRr.out, hb0', hb4]; rfl)
    clear h0 h4
    go_wp2_with fail
    go_ret
    exact ⟨ret_bool HR2.out.symm, HB2.out⟩
   ·
    have hb4 : decide (a < 4) = false := by simpa using h4
    have HR2 := Lib.hid (show r = false from by rw [HRr.out, hb0', hb4]; rfl)
    clear h0 h4
    go_wp2_with fail
    go_ret
    exact ⟨ret_bool HR2.out.symm, HB2.out⟩
  ·
   have hb0 : decide (a ≥ 0) = false := by simpa using h0
   have hb0' : decide (0 ≤ a) = false := by simpa using h0
   have HR2 := Lib.hid (show r = false from by rw [HRr.out, hb0']; rfl)
   clear h0
   go_wp2_with fail
   go_ret
   exact ⟨ret_bool HR2.out.symm, HB2.out⟩
end Go.Proofs.YtnigadeohmlpiaaGreatDoor

namespace Go.Proofs.YtnigadeohmlpiaaGreatDoor
open Go.RowKit
attribute [local go_sem] Oper.semAt_some
def ldF (p : List (Int × Int)) (a n : Int) : Int := p.foldl (fun n x => if x.1 = a then x.2 else n) n
theorem ldF_snoc (p : List (Int × Int)) (x : Int × Int) (a n : Int) : ldF (p ++ [x]) a n = if x.1 = a then x.2 else ldF p a n := by
 unfold ldF
 rw [List.foldl_append]
 rfl
theorem ldF_eq (p : List (Int × Int)) (a n : Int) : ldF p a n = match p.reverse.find? (fun x => x.1 == a) with
  | some x => x.2
  | none => n := by
 suffices h : ∀ q : List (Int × Int), ldF q.reverse a n = match q.find? (fun x => x.1 == a) with
  | some x => x.2
  | none => n by
  have := h p.reverse
  rwa [List.reverse_reverse] at this
 intro q
 induction q with
 | nil => rfl
 | cons x q ih =>
  rw [List.reverse_cons, ldF_snoc, ih, List.find?_cons]
  by_cases hx : x.1 = a
  ·
   rw [if_pos hx, show (x.1 == a) = true by simpa using hx]
  ·
   rw [if_neg hx, show (x.1 == a) = false by simpa using hx]
theorem load_ldF (M : Mm) (h a : Nat) : M.load h a = ldF (M.pend.getD h []) a (M.words.getD a 0) := (ldF_eq _ _ _).symm
set_option maxHeartbeats 8000000 in
set_option maxRecDepth 100000 in
theorem load51_any (v1 v2 v3 : Value) (M : Mm) (h a : Nat) (w : World) (hm : IsMem w v1 v2 v3 M) (hh : h < 4) (ha : a < 4) :
  Calls Tryz.prog 51 #[.agg #[v1, v2, v3], .int .i64 h, .int .i64 a] w fun o w' => o = .returned (.tuple #[.int .i64 (M.load h a), .int .i64 0]) ∧ Below w.heap.size w w' := by
 have HM := Lib.hid hm
 obtain ⟨A1, c1, rfl, hr1⟩ := hm.ws
 obtain ⟨A2, c2, pv, rfl, hr2, hp⟩ := hm.ps
 obtain ⟨A3, c3, rfl, _⟩ := hm.rs
 obtain ⟨p, hpk⟩ : ∃ p, M.pend[h]? = some p := ⟨_, List.getElem?_eq_getElem (by rw [hm.ok.lp]; exact hh)⟩
 obtain ⟨A4, c4, he4, hc4, hr4⟩ := hp h p hpk
 obtain ⟨n4, hn4⟩ : ∃ n4, n4 = p.length := ⟨_, rfl⟩
 have hn8 : n4 ≤ 8 := hn4 ▸ hm.ok.few p (List.mem_of_getElem? hpk)
 rw [← hn4] at hr4 he4 hc4
 obtain ⟨W, hW⟩ : ∃ X, X = w.alloc (.cells #[.slice A1 4 c1, .slice A2 4 c2, .slice A3 4 c3] 59) := ⟨_, rfl⟩
 obtain ⟨b, hb⟩ : ∃ b, b = w.heap.size := ⟨_, rfl⟩
 have kW : Below w.heap.size w W := hW ▸ bA (bR w)
 have HB := Lib.hid kW
 have hbx : W.heap[b]? = some (.cells #[.slice A1 4 c1, .slice A2 4 c2, .slice A3 4 c3] 59) := by rw [hW, hb]; exact heap_alloc_new w _
 have HH := Lib.hid hbx
 obtain ⟨q0, q1, q2, _⟩ := cells3 hbx
 have HTh := Lib.hid (there82_any _ _ _ M h a W (HM.out.sees (Below.sees kW)))
 have hyes : ((decide (0 ≤ (h : Int)) && decide ((h : Int) < 4)) && (decide (0 ≤ (a : Int)) && decide ((a : Int) < 4))) = true := by simp; omega
 rw [hyes] at HTh
 have HR1 := Lib.hid (hr1.below kW)
 have HR2 := Lib.hid (hr2.below kW)
 have HR4 := Lib.hid (hr4.below kW)
 have HE4 := Lib.hid he4
 have HN4 := Lib.hid hn4
 have HLd := Lib.hid (show M.load h a = ldF p a (M.words.getD a 0) from by
  rw [load_ldF]
  congr 1
  rw [List.getD_eq_getElem?_getD, hpk]
  rfl)
 clear hm hr1 hr2 hp hpk he4 hr4 hn4 kW hbx hyes
 go_enter Tryz.func51, Tryz.ntmps51
 go_upto_region 1 with fail
 rw [← hW, ← hb]
 clear hW hb
 go_wp2_with fail
 refine HTh.out.mono ?_
 rintro o w2 ⟨rfl, hb2⟩
 have HB2 := Lib.hid (bT HB.out hb2)
 obtain ⟨r0, r1, r2, _⟩ := cells3 (blk_below hb2 HH.out)
 have hR1 := (HR1.out.below hb2).rd
 have hR2 := (HR2.out.below hb2).rd
 have HR4b := Lib.hid (HR4.out.below hb2).rd
 obtain ⟨g1, o1, wv, rfl, hwv, hcw⟩ := hR1.int ha
 obtain ⟨g2, o2, u, rfl, hu, hcp⟩ := hR2.at1 hh
 obtain rfl : u = .slice A4 n4 c4 := Option.some.inj (hu.symm.trans HE4.out)
 have HW := Lib.hid (show M.words.getD a 0 = wv from by rw [List.getD_eq_getElem?_getD, hwv]; rfl)
 have ha0 : decide ((a : Int) < 0) = false := by simp
 have ha4 : (a : Int) < 4 := by omega
 have hh0 : decide ((h : Int) < 0) = false := by simp
 have hh4 : (h : Int) < 4 := by omega
 clear hb2 q0 q1 q2 hR1 hR2 hwv hu
 go_wp2_with fail
 go_loop [9, 10] (fun vn vk => ∃ k : Nat, k ≤ n4 ∧ vk = .int .i64 k ∧ vn = .int .i64 (ldF (p.take k) a wv)) (fun _ vk => n4 - (intOf vk).toNat)
 case atStart => exact ⟨0, Nat.zero_le _, rfl, rfl⟩
 case round =>
  obtain ⟨k, hk, rfl, rfl⟩ := hrel
  by_cases hlt : k < n4
  ·
   have hlb : decide ((k : Int) < (n4 : Int)) = true := by simp; omega
   have hkn : (k : Int) < (n4 : Int) := by omega
   have hk0 : decide ((k : Int) < 0) = false := by simp
   obtain ⟨g4, o4, x, rfl, hx, hx1, hx2⟩ := HR4b.out.ent HN4.out hlt
   have HS := Lib.hid (show ldF (p.take (k + 1)) a wv = if x.1 = (a : Int) then x.2 else ldF (p.take k) a wv from by
    rw [List.take_add_one, hx]
    exact ldF_snoc _ _ _ _)
   obtain ⟨xa, hxa⟩ : ∃ q, q = x.1 := ⟨_, rfl⟩
   obtain ⟨xn, hxn⟩ : ∃ q, q = x.2 := ⟨_, rfl⟩
   rw [← hxa, ← hxn] at HS
   rw [← hxa] at hx1
   rw [← hxn] at hx2
   clear hx hxa hxn
   by_cases hxa : xa = a
   ·
    have hb1 : (xa == (a : Int)) = true := by simpa using hxa
    have HS2 := Lib.hid (HS.out.trans (if_pos hxa))
    clear hxa
    go_wp2_with fail
    go_round
    case rel => exact ⟨k + 1, by omega, by go_num, by rw [HS2.out]⟩
    case measure => simp [intOf]; omega
   ·
    have hb1 : (xa == (a : Int)) = false := by simpa using hxa
    have HS2 := Lib.hid (HS.out.trans (if_neg hxa))
    clear hxa
    go_wp2_with fail
    go_round
    case rel => exact ⟨k + 1, by omega, by go_num, by rw [HS2.out]⟩
    case measure => simp [intOf]; omega
  ·
   have hlb : decide ((k : Int) < (n4 : Int)) = false := by simp; omega
   have HF := Lib.hid (show ldF (p.take k) a wv = M.load h a from by
    rw [HLd.out, HW.out, List.take_of_length_le (by have := HN4.out; omega)])
   go_wp2_with fail
   exact bodyPost_ret (results_tmp2 rfl _ _ _) rfl ⟨by rw [← HF.out]; rfl, HB2.out⟩
end Go.Proofs.YtnigadeohmlpiaaGreatDoor

namespace Go.Proofs.YtnigadeohmlpiaaGreatDoor
open Go.RowKit
attribute [local go_sem] Oper.semAt_some
theorem ret59a {fn : Func} {p : Tmp} {tmps : Array Value} {w : World} {b : Nat} {x y z : Value} (hfn : fn.results = #[.cell p 59]) (hp : tmps.getD p undef = .pointer (some ⟨b, 0, none⟩))
  (h : w.heap[b]? = some (.cells #[x, y, z] 59)) : (results fn tmps).run Tryz.prog w = .ok (.agg #[x, y, z]) w := by
 obtain ⟨q0, q1, q2, _⟩ := cells3 h
 rw [results_cell1 hfn, hp]
 simp [go_sem, q0, q1, q2]
theorem OwnMem.tk59 {B : Nat} {w w' : World} {x1 x2 x3 : Value} {pv : List Value} {M : Mm} (hm : OwnMem B w x1 x2 x3 pv M) (hk : Tk [59] w w') : OwnMem B w' x1 x2 x3 pv M :=
 ⟨hm.ok, hm.ws.tk hk (by decide), hm.ps.tk hk (by decide), hm.rs.tk hk (by decide), hm.ne, fun k p hp => (hm.en k p hp).elim fun v hv => ⟨v, hv.1, hv.2.tk hk (by decide)⟩, hm.dj⟩
def OwnIsM (B : Nat) (M : Mm) (e : Ending) (w : World) : Prop := ∃ x1 x2 x3 pv, e = .returned (.agg #[x1, x2, x3]) ∧ OwnMem B w x1 x2 x3 pv M
set_option maxHeartbeats 8000000 in
set_option maxRecDepth 100000 in
theorem own83_any (v1 v2 v3 : Value) (M : Mm) (w : World) (h : IsMem w v1 v2 v3 M) :
  Calls Tryz.prog 83 #[.agg #[v1, v2, v3]] w fun e w' => OwnIsM w.heap.size M e w' ∧ Below w.heap.size w w' := by
 obtain ⟨i3, hi3, hz0, hz1, hz2⟩ := info_parts int_info
 obtain ⟨A1, c1, rfl, hr1⟩ := h.ws
 obtain ⟨A2, c2, p0, rfl, hr2, hp⟩ := h.ps
 obtain ⟨A3, c3, rfl, hr3⟩ := h.rs
 have HOK := Lib.hid h.ok
 obtain ⟨b1, hb1⟩ : ∃ b, b = w.heap.size := ⟨_, rfl⟩
 obtain ⟨b2, hb2⟩ : ∃ b, b = b1 + 1 := ⟨_, rfl⟩
 obtain ⟨bx, hbx⟩ : ∃ b, b = b2 + 1 := ⟨_, rfl⟩
 obtain ⟨X1, hX1⟩ : ∃ X, X = w.alloc (.cells #[.slice A1 4 c1, .slice A2 4 c2, .slice A3 4 c3] 59) := ⟨_, rfl⟩
 obtain ⟨X2, hX2⟩ : ∃ X, X = X1.alloc (.cells #[.slice none 0 0, .slice none 0 0, .slice none 0 0] 59) := ⟨_, rfl⟩
 obtain ⟨W0, hW0⟩ : ∃ X, X = X2.alloc (.cells #[.slice none 0 0, .slice none 0 0, .slice none 0 0] 59) := ⟨_, rfl⟩
 have s1 : X1.heap.size = b1 + 1 := by rw [hX1, World.size_alloc, hb1]
 have s2 : X2.heap.size = b1 + 1 + 1 := by rw [hX2, World.size_alloc, s1]
 have k2 : Below X2.heap.size X2 W0 := hW0 ▸ bA (bR X2)
 have k1 : Below X1.heap.size X1 W0 := bT (hX2 ▸ bA (bR X1)) k2
 have k0 : Below w.heap.size w W0 := bT (hX1 ▸ bA (bR w)) k1
 have HI := Lib.hid (show W0.heap[b1]? = some (.cells #[.slice A1 4 c1, .slice A2 4 c2, .slice A3 4 c3] 59) from blk_below k1 (by rw [hX1, hb1]; exact heap_alloc_new w _))
 have HT := Lib.hid (show W0.heap[b2]? = some (.cells #[.slice none 0 0, .slice none 0 0, .slice none 0 0] 59) from blk_below k2 (by rw [hX2, hb2, ← s1]; exact heap_alloc_new X1 _))
 have HXo := Lib.hid (show W0.heap[bx]? = some (.cells #[.slice none 0 0, .slice none 0 0, .slice none 0 0] 59) from by rw [hW0, hbx, hb2, ← s2]; exact heap_alloc_new X2 _)
 have HB0 := Lib.hid k0
 have HLe := Lib.hid (Nat.le_of_eq hb1.symm)
 have HN := Lib.hid (show b1 < b2 ∧ b2 < bx from by omega)
 have H1 := Lib.hid hr1
 have H2 := Lib.hid hr2
 have H3 := Lib.hid hr3
 have HP := Lib.hid hp
 have hWW : W0 = ((w.alloc (.cells #[.slice A1 4 c1, .slice A2 4 c2, .slice A3 4 c3] 59)).alloc (.cells #[.slice none 0 0, .slice none 0 0, .slice none 0 0] 59)).alloc (.cells #[.slice none 0 0, .slice none 0 0, .slice none 0 0] 59) := by rw [hW0, hX2, hX1]
 clear h hr1 hr2 hr3 hp s1 s2 k1 k2 k0 hX1 hX2 hW0
 go_enter Tryz.func83, Tryz.ntmps83
 go_upto_region 2 with fail
 rw [← hWW, ← hb1, ← hb2, ← hbx]
 clear hWW hb1 hb2 hbx
 have HS0 := Lib.hid (show b1 + 1 ≤ W0.heap.size from by have := blk_lt HXo.out; have := HN.out; omega)
 obtain ⟨q0, q1, q2, _⟩ := cells3 HI.out
 obtain ⟨o0, o1, o2, _⟩ := cells3 HXo.out
 go_upto_region 3 with (
  at_builtin
  refine wpList_append_rd _ rfl (.tmp 6) (.tmp 8) 32 rfl (b1 + 1) 3 i3 _ 1 8 Tryz.underlying32 hi3 hz0 hz1 hz2 rfl (by decide) (.slice none 0 0) 0 [] rfl (World.ownsRow_nil _ _ _ _) A1 4 c1 (ints M.words) rfl (H1.out.below HB0.out).rd (ints_one _) (by unfold maxLen; omega) (by omega) HS0.out ?_
  intro v5 w5 hown5 hg5
  have hB5 : Below W0.heap.size W0 w5 := (bR W0).grown hg5 (Nat.le_refl _) (fun r e => by cases e)
  obtain ⟨A5, c5, rfl, hc5, _⟩ := own_slice hown5
  have HO5 := Lib.hid (show OwnAt b1 3 1 4 (ints M.words) (.slice A5 4 c5) w5 from ⟨A5, c5, rfl, by omega, by rwa [Nat.zero_add, List.nil_append] at hown5⟩)
  have HB5 := Lib.hid hB5
  have HX5 := Lib.hid (blk_below hB5 HXo.out)
  obtain ⟨p0, p1, p2, f0, f1, f2⟩ := cells3 HX5.out
  clear hown5 hg5 q0 q1 q2 o0 o1 o2 hB5 hc5)
 obtain ⟨W6, hW6⟩ : ∃ X, X = w5.setCell ⟨bx, 0, none⟩ (.slice A5 4 c5) := ⟨_, rfl⟩
 have HI6 := Lib.hid (show W6.heap[b1]? = _ from hW6 ▸ (set_other _ (show b1 ≠ bx from by have := HN.out; omega)).trans (blk_below HB5.out HI.out))
 have HT6 := Lib.hid (show W6.heap[b2]? = _ from hW6 ▸ (set_other _ (show b2 ≠ bx from by have := HN.out; omega)).trans (blk_below HB5.out HT.out))
 have HX6 := Lib.hid (show W6.heap[bx]? = some (.cells #[.slice A5 4 c5, .slice none 0 0, .slice none 0 0] 59) from hW6 ▸ set_same HX5.out _)
 have HO6 := Lib.hid (show OwnAt b1 3 1 4 (ints M.words) (.slice A5 4 c5) W6 from hW6 ▸ HO5.out.tk (tk_set1 HX5.out) (by decide))
 have HB6 := Lib.hid (show Below w.heap.size w W6 from hW6 ▸ bS (bT HB0.out HB5.out) (show w.heap.size ≤ bx from by have := HLe.out; have := HN.out; omega))
 rw [← hW6]
 have HS6 := Lib.hid (show b1 + 1 ≤ W6.heap.size from by have := blk_lt HX6.out; have := HN.out; omega)
 clear hW6 p0 p1 p2 f0 f1 f2
 obtain ⟨q0, q1, q2, _⟩ := cells3 HI6.out
 obtain ⟨o0, o1, o2, _⟩ := cells3 HX6.out
 go_upto_region 4 with (
  at_builtin
  refine wpList_append_rd _ rfl (.tmp 12) (.tmp 14) 32 rfl W6.heap.size 3 i3 _ 1 8 Tryz.underlying32 hi3 hz0 hz1 hz2 rfl (by decide) (.slice none 0 0) 0 [] rfl (World.ownsRow_nil _ _ _ _) A3 4 c3 [.int .i64 (-1), .int .i64 (-1), .int .i64 (-1), .int .i64 (-1)] rfl (H3.out.below HB6.out).rd (by simp [Value.oneCell']) (by unfold maxLen; omega) (by omega) (Nat.le_refl _) ?_
  intro v7 w7 hown7 hg7
  have hB7 : Below W6.heap.size W6 w7 := (bR W6).grown hg7 (Nat.le_refl _) (fun r e => by cases e)
  have HNE := Lib.hid (own_ne HO6.out hown7 (by omega))
  obtain ⟨A7, c7, rfl, hc7, _⟩ := own_slice hown7
  have HO7 := Lib.hid (show OwnAt b1 3 1 4 [.int .i64 (-1), .int .i64 (-1), .int .i64 (-1), .int .i64 (-1)] (.slice A7 4 c7) w7 from ⟨A7, c7, rfl, by omega, own_low (by rwa [Nat.zero_add, List.nil_append] at hown7) HS6.out⟩)
  have HB7 := Lib.hid hB7
  have HX7 := Lib.hid (blk_below hB7 HX6.out)
  obtain ⟨p0, p1, p2, f0, f1, f2⟩ := cells3 HX7.out
  clear hown7 hg7 q0 q1 q2 o0 o1 o2 hB7 hc7)
 obtain ⟨W8, hW8⟩ : ∃ X, X = w7.setCell ⟨bx, 2, none⟩ (.slice A7 4 c7) := ⟨_, rfl⟩
 have HI8 := Lib.hid (show W8.heap[b1]? = _ from hW8 ▸ (set_other _ (show b1 ≠ bx from by have := HN.out; omega)).trans (blk_below HB7.out HI6.out))
 have HT8 := Lib.hid (show W8.heap[b2]? = _ from hW8 ▸ (set_other _ (show b2 ≠ bx from by have := HN.out; omega)).trans (blk_below HB7.out HT6.out))
 have HX8 := Lib.hid (show W8.heap[bx]? = some (.cells #[.slice A5 4 c5, .slice none 0 0, .slice A7 4 c7] 59) from hW8 ▸ set_same HX7.out _)
 have HOw := Lib.hid (show OwnAt b1 3 1 4 (ints M.words) (.slice A5 4 c5) W8 from hW8 ▸ (HO6.out.below HB7.out).tk (tk_set1 HX7.out) (by decide))
 have HOr := Lib.hid (show OwnAt b1 3 1 4 [.int .i64 (-1), .int .i64 (-1), .int .i64 (-1), .int .i64 (-1)] (.slice A7 4 c7) W8 from hW8 ▸ HO7.out.tk (tk_set1 HX7.out) (by decide))
 have HB8 := Lib.hid (show Below w.heap.size w W8 from hW8 ▸ bS (bT HB6.out HB7.out) (show w.heap.size ≤ bx from by have := HLe.out; have := HN.out; omega))
 rw [← hW8]
 clear hW8 p0 p1 p2 f0 f1 f2
 obtain ⟨q0, q1, q2, _⟩ := cells3 HI8.out
 have HREL := Lib.hid (show OfL w b1 bx A5 c5 A7 c7 M 0 W8 from ⟨HB8.out, none, 0, [], HX8.out, Nat.le_refl _, World.ownsRow_nil _ _ _ _, rfl, fun i p hi => absurd hi (by omega), fun i j g v u _ hv => by simp at hv, HOw.out, HOr.out⟩)
 clear q0 q1 q2
 go_wp2_with fail
 go_loopw [4] (fun v wr => ∃ k : Nat, k ≤ 4 ∧ v = .int .i64 k ∧ OfL w b1 bx A5 c5 A7 c7 M k wr ∧ wr.heap[b1]? = some (.cells #[.slice A1 4 c1, .slice A2 4 c2, .slice A3 4 c3] 59) ∧ wr.heap[b2]? = some (.cells #[.slice none 0 0, .slice none 0 0, .slice none 0 0] 59)) (fun v _ => 4 - (intOf v).toNat)
 case atStart => exact ⟨0, by omega, rfl, HREL.out, HI8.out, HT8.out⟩
 case round =>
  obtain ⟨k, hk, rfl, ⟨hB, AP, cP, pv, hblk, hcP, hown, hlen, hent, hdj, hO2, hO5⟩, hin, hto⟩ := hrel
  obtain ⟨wo, rfl⟩ : ∃ x, x = wr := ⟨wr, rfl⟩
  have HB := Lib.hid hB
  have HBK := Lib.hid hblk
  have HOW := Lib.hid hown
  have HEN := Lib.hid hent
  have HDJ := Lib.hid hdj
  have HO2 := Lib.hid hO2
  have HO5' := Lib.hid hO5
  have HLEN := Lib.hid hlen
  have HIN := Lib.hid (And.intro hin hto)
  obtain ⟨q0, q1, q2, _⟩ := cells3 hin
  clear hB hblk hown hlen hent hdj hO2 hO5 hin hto
  by_cases hlt : k < 4
  ·
   have hltb : decide ((k : Int) < 4) = true := by simp; omega
   obtain ⟨p, hp⟩ : ∃ p, M.pend[k]? = some p := ⟨_, List.getElem?_eq_getElem (by rw [HOK.out.lp]; exact hlt)⟩
   obtain ⟨A4, c4, he4, hc4, hr4⟩ := HP.out k p hp
   obtain ⟨ba, off, u, hA2, hu, hcell⟩ := H2.out.rd.at1 hlt
   rw [he4] at hu
   injection hu with hu
   subst hu
   subst hA2
   obtain ⟨n4, hn4⟩ : ∃ n4, n4 = p.length := ⟨_, rfl⟩
   have hn8 : n4 ≤ 8 := hn4 ▸ HOK.out.few p (List.mem_of_getElem? hp)
   rw [← hn4] at hcell hr4 hc4
   have HCp := Lib.hid (fun (wx : World) (hb : Below w.heap.size w wx) => (hb.cell (cell_lt hcell)).trans hcell)
   have HPk := Lib.hid hp
   have HN4 := Lib.hid hn4
   have HR4 := Lib.hid hr4
   have hk0 : decide ((k : Int) < 0) = false := by simp
   have hk4 : (k : Int) < 4 := by omega
   clear hp he4 hr4 hn4 hcell
   go_upto_region 7 with fail
   clear q0 q1 q2
   have hq : ∀ (k9 : Nat), k9 ≠ 11 → k9 ≠ 9 → ∀ (l : Nat → Bool) (wx : World), (Below w.heap.size w wx ∧ (l 11 = false → wx.heap[bx]? = some (.cells #[.slice A5 4 c5, .slice AP k cP, .slice A7 4 c7] 59)) ∧ (l 9 = false → wx.ownsRow (b1 + 1) 87 1 (.slice AP k cP) k pv) ∧ (∀ i p, i < k → M.pend[i]? = some p → ∃ v, pv[i]? = some v ∧ OwnAt b1 128 2 p.length (entCells p) v wx) ∧ OwnAt b1 3 1 4 (ints M.words) (.slice A5 4 c5) wx ∧ OwnAt b1 3 1 4 [.int .i64 (-1), .int .i64 (-1), .int .i64 (-1), .int .i64 (-1)] (.slice A7 4 c7) wx ∧ (wx.heap[b1]? = some (.cells #[.slice A1 4 c1, .slice (some ⟨ba, off, none⟩) 4 c2, .slice A3 4 c3] 59) ∧ wx.heap[b2]? = some (.cells #[.slice none 0 0, .slice none 0 0, .slice none 0 0] 59))) → (Below w.heap.size w wx ∧ ((decide (11 = k9) || l 11) = false → wx.heap[bx]? = some (.cells #[.slice A5 4 c5, .slice AP k cP, .slice A7 4 c7] 59)) ∧ ((decide (9 = k9) || l 9) = false → wx.ownsRow (b1 + 1) 87 1 (.slice AP k cP) k pv) ∧ (∀ i p, i < k → M.pend[i]? = some p → ∃ v, pv[i]? = some v ∧ OwnAt b1 128 2 p.length (entCells p) v wx) ∧ OwnAt b1 3 1 4 (ints M.words) (.slice A5 4 c5) wx ∧ OwnAt b1 3 1 4 [.int .i64 (-1), .int .i64 (-1), .int .i64 (-1), .int .i64 (-1)] (.slice A7 4 c7) wx ∧ (wx.heap[b1]? = some (.cells #[.slice A1 4 c1, .slice (some ⟨ba, off, none⟩) 4 c2, .slice A3 4 c3] 59) ∧ wx.heap[b2]? = some (.cells #[.slice none 0 0, .slice none 0 0, .slice none 0 0] 59))) := fun k9 h7 h5 l wx h => ⟨h.1, fun hl => h.2.1 (Bool.or_eq_false_iff.1 hl).2, fun hl => h.2.2.1 (Bool.or_eq_false_iff.1 hl).2, h.2.2.2⟩
   have rr : ∀ {T : List TypeId} (wx : World), Tk T wx wx := fun wx => Tk.refl _ wx
   have rb : ∀ {T : List TypeId} {w1 w2 : World}, Below w1.heap.size w1 w2 → Tk T w1 w2 := fun h => Tk.below h
   have nt : ∀ {i : Nat} (e : TypeId), e ≠ 87 → e ≠ 59 → e ∉ (if i = 9 then [87] else if i = 11 then [59] else [] : List TypeId) := fun e h1 h2 => by
    split
    ·
     simpa using h1
    ·
     split
     ·
      simpa using h2
     ·
      simp
   have nt5 : ∀ {i : Nat} (e : TypeId), i ≠ 9 → e ≠ 59 → e ∉ (if i = 9 then [87] else if i = 11 then [59] else [] : List TypeId) := fun e h1 h2 => by
    rw [if_neg h1]
    split
    ·
     simpa using h2
    ·
     simp
   have nt7 : ∀ {i : Nat} (e : TypeId), i ≠ 11 → e ≠ 87 → e ∉ (if i = 9 then [87] else if i = 11 then [59] else [] : List TypeId) := fun e h1 h2 => by
    split <;> simp_all
   refine wp_region_det (by kernel_rfl) (fun f => (⟨#[Value.agg #[Value.slice A1 4 c1, Value.slice (some ⟨ba, off, none⟩) 4 c2, Value.slice A3 4 c3], Value.pointer (some ⟨b1, 0, none⟩), Value.pointer (some ⟨b2, 0, none⟩), Value.pointer (some ⟨bx, 0, none⟩), .int .i64 (k : Int), Value.pointer (some ⟨bx, 0, none⟩), Value.slice none 0 0, Value.pointer (some ⟨b1, 0, none⟩), Value.slice A1 4 c1, Value.slice A5 4 c5, Value.pointer (some ⟨bx, 0, none⟩), Value.pointer (some ⟨bx, 2, none⟩), Value.slice none 0 0, Value.pointer (some ⟨b1, 2, none⟩), Value.slice A3 4 c3, Value.slice A7 4 c7, Value.pointer (some ⟨bx, 2, none⟩), .int .i64 (k : Int), Value.pointer (some ⟨b1, 1, none⟩), Value.slice (some ⟨ba, off, none⟩) 4 c2, .int .i64 4, Value.bool true, u22, u23, f 0, f 1, f 2, f 3, f 4, f 5, f 6, f 7, f 8, f 9, f 10, undef], []⟩ : Act)) (fun (iv : Nat) (lv : Nat → Bool) (fv : Nat → Value) (wx : World) => match iv with | 0 => fv 0 = .pointer (some ⟨bx, 1, none⟩) | 1 => fv 1 = .slice AP k cP | 2 => fv 2 = .pointer (some ⟨b1, 1, none⟩) | 3 => fv 3 = .slice (some ⟨ba, off, none⟩) 4 c2 | 4 => fv 4 = .int .i64 k | 5 => fv 5 = .pointer (some ⟨ba, off + k, none⟩) | 6 => fv 6 = .slice A4 n4 c4 | 7 => OwnAt b1 128 2 n4 (entCells p) (fv 7) wx ∧ ∀ (j g : Nat) (u : Value), pv[j]? = some u → u.ownBlock = some g → ((fv 7)).ownBlock ≠ some g | 8 => ∃ g, (fv 8) = .slice (some ⟨g, 0, none⟩) 1 1 ∧ ((lv 9) = false → wx.heap[g]? = some (.cells #[(fv 7)] 87)) | 9 => OwnAt b1 87 1 (k + 1) (pv ++ [(fv 7)]) (fv 9) wx | 10 => fv 10 = .pointer (some ⟨bx, 1, none⟩) | 11 => wx.heap[bx]? = some (.cells #[.slice A5 4 c5, (fv 9), .slice A7 4 c7] 59) | _ => True) (fun lv wx => Below w.heap.size w wx ∧ (lv 11 = false → wx.heap[bx]? = some (.cells #[.slice A5 4 c5, .slice AP k cP, .slice A7 4 c7] 59)) ∧ (lv 9 = false → wx.ownsRow (b1 + 1) 87 1 (.slice AP k cP) k pv) ∧ (∀ i p, i < k → M.pend[i]? = some p → ∃ v, pv[i]? = some v ∧ OwnAt b1 128 2 p.length (entCells p) v wx) ∧ OwnAt b1 3 1 4 (ints M.words) (.slice A5 4 c5) wx ∧ OwnAt b1 3 1 4 [.int .i64 (-1), .int .i64 (-1), .int .i64 (-1), .int .i64 (-1)] (.slice A7 4 c7) wx ∧ (wx.heap[b1]? = some (.cells #[.slice A1 4 c1, .slice (some ⟨ba, off, none⟩) 4 c2, .slice A3 4 c3] 59) ∧ wx.heap[b2]? = some (.cells #[.slice none 0 0, .slice none 0 0, .slice none 0 0] 59))) (fun i w1 w2 => Tk (if i = 9 then [87] else if i = 11 then [59] else []) w1 w2) (by kernel_rfl) (fun k => match k with | 0 => u24 | 1 => u25 | 2 => u26 | 3 => u27 | 4 => u28 | 5 => u29 | 6 => u30 | 7 => u31 | 8 => u32 | 9 => u33 | 10 => u34 | _ => undef) rfl ?keep ⟨bD HB.out, fun _ => HBK.out, fun _ => HOW.out, HEN.out, HO2.out, HO5'.out, HIN.out⟩ ?steps ?fin
   case keep =>
    intro iv j hij hd l f f' w1 w2 hf hR
    match j with
    | 0 | 1 | 2 | 3 | 4 | 5 | 6 | 10 => exact fun h => (hf _ (Ne.symm hij)).trans h
    | 7 =>
     intro h
     have h : OwnAt b1 128 2 n4 (entCells p) (f 7) w1 ∧ ∀ (j g : Nat) (u : Value), pv[j]? = some u → u.ownBlock = some g → ((f 7)).ownBlock ≠ some g := h
     show OwnAt b1 128 2 n4 (entCells p) (f' 7) w2 ∧ ∀ (j g : Nat) (u : Value), pv[j]? = some u → u.ownBlock = some g → ((f' 7)).ownBlock ≠ some g
     rw [hf 7 (Ne.symm hij)]
     exact ⟨h.1.tk hR (nt 128 (by decide) (by decide)), h.2⟩
    | 8 =>
     intro h
     have h : ∃ g, (f 8) = .slice (some ⟨g, 0, none⟩) 1 1 ∧ ((l 9) = false → w1.heap[g]? = some (.cells #[(f 7)] 87)) := h
     show ∃ g, (f' 8) = .slice (some ⟨g, 0, none⟩) 1 1 ∧ ((decide (9 = iv) || l 9) = false → w2.heap[g]? = some (.cells #[(f' 7)] 87))
     rw [hf 8 (Ne.symm hij), hf 7 (fun e => hd (e ▸ of_decide_eq_true (by kernel_rfl)))]
     exact h.elim fun g h => ⟨g, h.1, fun hl => hR.at_ (nt5 87 (fun e => (Bool.or_eq_false_iff.1 hl).1 |> fun z => absurd e.symm (of_decide_eq_false z)) (by decide)) (h.2 (Bool.or_eq_false_iff.1 hl).2)⟩
    | 9 =>
     intro h
     have h : OwnAt b1 87 1 (k + 1) (pv ++ [(f 7)]) (f 9) w1 := h
     show OwnAt b1 87 1 (k + 1) (pv ++ [(f' 7)]) (f' 9) w2
     rw [hf 9 (Ne.symm hij), hf 7 (fun e => hd (e ▸ of_decide_eq_true (by kernel_rfl)))]
     exact h.tk hR (nt5 87 hij (by decide))
    | 11 =>
     intro h
     have h : w1.heap[bx]? = some (.cells #[.slice A5 4 c5, (f 9), .slice A7 4 c7] 59) := h
     show w2.heap[bx]? = some (.cells #[.slice A5 4 c5, (f' 9), .slice A7 4 c7] 59)
     rw [hf 9 (fun e => hd (e ▸ of_decide_eq_true (by kernel_rfl)))]
     exact hR.at_ (nt7 59 hij (by decide)) h
    | _ + 12 => exact id
   case steps =>
    refine fun iv hiv => stepsOf_at (k := 0) (n := 12) ?_ iv (Nat.zero_le _) (by rw [Nat.zero_add]; exact hiv)
    refine sC 0 11 (at0) [] (by kernel_rfl) (fun _ _ => rfl) (fun f wq l hl hun hdn hS hd K' HK => ?_) ?_
    ·
     clear hd
     have HSS := Lib.hid hS
     clear hS
     go_simp
     exact HK.out _ _ _ rfl rfl (hq 0 (by decide) (by decide) l _ HSS.out) (rr _)
    refine sC 1 10 (atS (at0)) [0] (by kernel_rfl) (fun _ _ => rfl) (fun f wq l hl hun hdn hS hd K' HK => ?_) ?_
    ·
     obtain ⟨e0, -⟩ := hd
     have e0 : f 0 = .pointer (some ⟨bx, 1, none⟩) := e0
     obtain ⟨r0, r1, r2, _⟩ := cells3 (hS.2.1 (hun 11 (of_decide_eq_true (by kernel_rfl))))
     have HSS := Lib.hid hS
     clear hS
     simp only [e0]
     go_simp
     exact HK.out _ _ _ (by simp only [e0]; rfl) rfl (hq 1 (by decide) (by decide) l _ HSS.out) (rr _)
    refine sC 2 9 (atS (atS (at0))) [] (by kernel_rfl) (fun _ _ => rfl) (fun f wq l hl hun hdn hS hd K' HK => ?_) ?_
    ·
     clear hd
     have HSS := Lib.hid hS
     clear hS
     go_simp
     exact HK.out _ _ _ rfl rfl (hq 2 (by decide) (by decide) l _ HSS.out) (rr _)
    refine sC 3 8 (atS (atS (atS (at0)))) [2] (by kernel_rfl) (fun _ _ => rfl) (fun f wq l hl hun hdn hS hd K' HK => ?_) ?_
    ·
     obtain ⟨e2, -⟩ := hd
     have e2 : f 2 = .pointer (some ⟨b1, 1, none⟩) := e2
     obtain ⟨r0, r1, r2, _⟩ := cells3 hS.2.2.2.2.2.2.1
     have HSS := Lib.hid hS
     clear hS
     simp only [e2]
     go_simp
     exact HK.out _ _ _ (by simp only [e2]; rfl) rfl (hq 3 (by decide) (by decide) l _ HSS.out) (rr _)
    refine sC 4 7 (atS (atS (atS (atS (at0))))) [] (by kernel_rfl) (fun _ _ => rfl) (fun f wq l hl hun hdn hS hd K' HK => ?_) ?_
    ·
     clear hd
     have HSS := Lib.hid hS
     clear hS
     go_simp
     exact HK.out _ _ _ rfl rfl (hq 4 (by decide) (by decide) l _ HSS.out) (rr _)
    refine sC 5 6 (atS (atS (atS (atS (atS (at0)))))) [3, 4] (by kernel_rfl) (fun _ _ => rfl) (fun f wq l hl hun hdn hS hd K' HK => ?_) ?_
    ·
     obtain ⟨e3, e4, -⟩ := hd
     have e3 : f 3 = .slice (some ⟨ba, off, none⟩) 4 c2 := e3
     have e4 : f 4 = .int .i64 k := e4
     have HSS := Lib.hid hS
     clear hS
     simp only [e3, e4]
     go_simp
     exact HK.out _ _ _ (by simp only [e3, e4]; rfl) rfl (hq 5 (by decide) (by decide) l _ HSS.out) (rr _)
    refine sC 6 5 (atS (atS (atS (atS (atS (atS (at0))))))) [5] (by kernel_rfl) (fun _ _ => rfl) (fun f wq l hl hun hdn hS hd K' HK => ?_) ?_
    ·
     obtain ⟨e5, -⟩ := hd
     have e5 : f 5 = .pointer (some ⟨ba, off + k, none⟩) := e5
     have r0 := HCp.out wq hS.1
     have HSS := Lib.hid hS
     clear hS
     simp only [e5]
     go_simp
     exact HK.out _ _ _ (by simp only [e5]; rfl) rfl (hq 6 (by decide) (by decide) l _ HSS.out) (rr _)
    refine sC 7 4 (atS (atS (atS (atS (atS (atS (atS (at0)))))))) [6] (by kernel_rfl) (fun _ _ => rfl) (fun f wq l hl hun hdn hS hd K' HK => ?_) ?_
    ·
     obtain ⟨e6, -⟩ := hd
     have e6 : f 6 = .slice A4 n4 c4 := e6
     obtain ⟨i0, hi0, hy0, hy1, hy2⟩ := info_parts ent_info
     try rw [if_pos (by rfl)]
     refine wp_append_rd _ _ _ 87 rfl wq.heap.size 128 i0 _ 2 16 Tryz.underlying87 hi0 hy0 hy1 hy2 rfl (by decide) (.slice none 0 0) 0 [] rfl (World.ownsRow_nil _ _ _ _) A4 n4 c4 (entCells p) (by simp only [e6]; rfl) (HR4.out.below hS.1).rd (ent_one _) (by unfold maxLen; omega) (by omega) (Nat.le_refl _) ?_
     intro v9 w9 hown9 hg9
     have hbb : Below wq.heap.size wq w9 := (bR wq).grown hg9 (Nat.le_refl _) (fun r e => by cases e)
     rw [Nat.zero_add, List.nil_append] at hown9
     obtain ⟨A9, c9, rfl, hc9, _⟩ := own_slice hown9
     exact HK.out _ _ _ (by first | rfl | (simp only [e6]; rfl)) ⟨⟨A9, c9, rfl, hc9, own_low hown9 (own_at_lt hS.2.2.2.2.1 (by decide))⟩, fun j g u hj hu h9 => pend_new hS.2.2.2.1 HLEN.out HOK.out.lp hk hj hu (hown9.lt g h9).1⟩ ⟨bT hS.1 hbb, fun hl => Tk.at_ (Tk.below (T := []) hbb) (by decide) (hS.2.1 (Bool.or_eq_false_iff.1 hl).2), fun hl => own_tk (hS.2.2.1 (Bool.or_eq_false_iff.1 hl).2) (Tk.below (T := []) hbb) (by decide), fun i q hi hq => (hS.2.2.2.1 i q hi hq).elim fun v h => ⟨v, h.1, h.2.tk (Tk.below (T := []) hbb) (by decide)⟩, hS.2.2.2.2.1.tk (Tk.below (T := []) hbb) (by decide), hS.2.2.2.2.2.1.tk (Tk.below (T := []) hbb) (by decide), ⟨Tk.at_ (Tk.below (T := []) hbb) (by decide) hS.2.2.2.2.2.2.1, Tk.at_ (Tk.below (T := []) hbb) (by decide) hS.2.2.2.2.2.2.2⟩⟩ (rb hbb)
    refine sC 8 3 (atS (atS (atS (atS (atS (atS (atS (atS (at0))))))))) [7] (by kernel_rfl) (fun _ _ => rfl) (fun f wq l hl hun hdn hS hd K' HK => ?_) ?_
    ·
     obtain ⟨e7, -⟩ := hd
     have e7 : OwnAt b1 128 2 n4 (entCells p) (f 7) wq ∧ ∀ (j g : Nat) (u : Value), pv[j]? = some u → u.ownBlock = some g → ((f 7)).ownBlock ≠ some g := e7
     obtain ⟨⟨A9, c9, hv7, _⟩, _⟩ := e7
     simp only [hv7]
     have HS := Lib.hid hS
     clear hS
     go_simp
     have hS := HS.out
     exact HK.out _ _ _ (by simp only [hv7]; rfl) ⟨_, rfl, fun _ => (show _ = some (Obj.cells #[f 7] 87) by rw [hv7]; exact heap_alloc_new wq _)⟩ ⟨bA hS.1, fun hl => Tk.at_ (Tk.below (T := []) (bA (bR wq))) (by decide) (hS.2.1 (Bool.or_eq_false_iff.1 hl).2), fun hl => own_tk (hS.2.2.1 (Bool.or_eq_false_iff.1 hl).2) (Tk.below (T := []) (bA (bR wq))) (by decide), fun i q hi hq => (hS.2.2.2.1 i q hi hq).elim fun v h => ⟨v, h.1, h.2.tk (Tk.below (T := []) (bA (bR wq))) (by decide)⟩, hS.2.2.2.2.1.tk (Tk.below (T := []) (bA (bR wq))) (by decide), hS.2.2.2.2.2.1.tk (Tk.below (T := []) (bA (bR wq))) (by decide), ⟨Tk.at_ (Tk.below (T := []) (bA (bR wq))) (by decide) hS.2.2.2.2.2.2.1, Tk.at_ (Tk.below (T := []) (bA (bR wq))) (by decide) hS.2.2.2.2.2.2.2⟩⟩ (rb (bA (bR wq)))
    refine sC 9 2 (atS (atS (atS (atS (atS (atS (atS (atS (atS (at0)))))))))) [1, 7, 8] (by kernel_rfl) (fun _ _ => rfl) (fun f wq l hl hun hdn hS hd K' HK => ?_) ?_
    ·
     obtain ⟨e1, e7, e8, -⟩ := hd
     have e1 : f 1 = .slice AP k cP := e1
     have e7 : OwnAt b1 128 2 n4 (entCells p) (f 7) wq ∧ ∀ (j g : Nat) (u : Value), pv[j]? = some u → u.ownBlock = some g → ((f 7)).ownBlock ≠ some g := e7
     have e8 : ∃ g, (f 8) = .slice (some ⟨g, 0, none⟩) 1 1 ∧ ((l 9) = false → wq.heap[g]? = some (.cells #[(f 7)] 87)) := e8
     obtain ⟨g, hv8, hg⟩ := e8
     have hg := hg hl
     have hown := hS.2.2.1 hl
     obtain ⟨i0, hi0, hy0, hy1, hy2⟩ := info_parts pend_info
     rw [if_pos (by rfl)]
     refine wp_append_rd _ _ _ 57 rfl (b1 + 1) 87 i0 _ 1 24 Tryz.underlying57 hi0 hy0 hy1 hy2 rfl (by decide) (.slice AP k cP) k pv (by simp only [e1]; rfl) hown (some ⟨g, 0, none⟩) 1 1 [f 7] (by simp only [hv8]; rfl) ⟨rfl, fun _ => ⟨g, 0, rfl, blk_lt hg, fun j u hu => one_cell hg hu⟩⟩ (by obtain ⟨⟨A9, c9, hv7, _⟩, _⟩ := e7; rw [hv7]; simp [Value.oneCell']) (by unfold maxLen; omega) (by omega) (own_at_lt hS.2.2.2.2.1 (by decide)) ?_
     intro v9 w9 hown9 hg9
     obtain ⟨A9, c9, rfl, hc9, _⟩ := own_slice hown9
     have htk := tk_grown hown hg9
     exact HK.out _ _ _ (by first | rfl | (simp only [e1]; rfl)) ⟨A9, c9, rfl, hc9, hown9⟩ ⟨hS.1.grown hg9 hS.1.size (fun j hj => by have := (hown.lt j hj).1; have := HLe.out; omega), fun hl => Tk.at_ htk (by decide) (hS.2.1 (Bool.or_eq_false_iff.1 hl).2), fun hl => absurd hl (by simp), fun i q hi hq => (hS.2.2.2.1 i q hi hq).elim fun v h => ⟨v, h.1, h.2.tk htk (by decide)⟩, hS.2.2.2.2.1.tk htk (by decide), hS.2.2.2.2.2.1.tk htk (by decide), ⟨Tk.at_ htk (by decide) hS.2.2.2.2.2.2.1, Tk.at_ htk (by decide) hS.2.2.2.2.2.2.2⟩⟩ htk
    refine sC 10 1 (atS (atS (atS (atS (atS (atS (atS (atS (atS (atS (at0))))))))))) [7, 8, 9] (by kernel_rfl) (fun _ _ => rfl) (fun f wq l hl hun hdn hS hd K' HK => ?_) ?_
    ·
     obtain ⟨e7, e8, e9, -⟩ := hd
     have e7 : OwnAt b1 128 2 n4 (entCells p) (f 7) wq ∧ ∀ (j g : Nat) (u : Value), pv[j]? = some u → u.ownBlock = some g → ((f 7)).ownBlock ≠ some g := e7
     have e8 : ∃ g, (f 8) = .slice (some ⟨g, 0, none⟩) 1 1 ∧ ((l 9) = false → wq.heap[g]? = some (.cells #[(f 7)] 87)) := e8
     have e9 : OwnAt b1 87 1 (k + 1) (pv ++ [(f 7)]) (f 9) wq := e9
     clear e7 e8 e9
     have HSS := Lib.hid hS
     clear hS
     go_simp
     exact HK.out _ _ _ rfl rfl (hq 10 (by decide) (by decide) l _ HSS.out) (rr _)
    refine sC 11 0 (atS (atS (atS (atS (atS (atS (atS (atS (atS (atS (atS (at0)))))))))))) [7, 8, 9, 10] (by kernel_rfl) (fun _ _ => rfl) (fun f wq l hl hun hdn hS hd K' HK => ?_) ?_
    ·
     obtain ⟨e7, e8, e9, e10, -⟩ := hd
     have e7 : OwnAt b1 128 2 n4 (entCells p) (f 7) wq ∧ ∀ (j g : Nat) (u : Value), pv[j]? = some u → u.ownBlock = some g → ((f 7)).ownBlock ≠ some g := e7
     have e8 : ∃ g, (f 8) = .slice (some ⟨g, 0, none⟩) 1 1 ∧ ((l 9) = false → wq.heap[g]? = some (.cells #[(f 7)] 87)) := e8
     have e9 : OwnAt b1 87 1 (k + 1) (pv ++ [(f 7)]) (f 9) wq := e9
     have e10 : f 10 = .pointer (some ⟨bx, 1, none⟩) := e10
     clear e7 e8
     obtain ⟨A9, c9, hv9, hc9, hown9⟩ := e9
     have hblk := hS.2.1 hl
     obtain ⟨_, _, _, r3, r4, r5⟩ := cells3 hblk
     have HG := Lib.hid hblk
     have HS := Lib.hid hS
     clear hS hblk hown9
     simp only [e10, hv9]
     go_simp
     have hS := HS.out
     exact HK.out undef _ _ (by simp only [hv9, e10]; rfl) (show _ = some (Obj.cells #[.slice A5 4 c5, f 9, .slice A7 4 c7] 59) by rw [hv9]; exact set_same HG.out _) ⟨bS hS.1 (show w.heap.size ≤ bx from by have := HLe.out; have := HN.out; omega), fun hl => absurd hl (by simp), fun hl => own_tk (hS.2.2.1 (Bool.or_eq_false_iff.1 hl).2) (tk_set1 HG.out) (by decide), fun i q hi hq => (hS.2.2.2.1 i q hi hq).elim fun v h => ⟨v, h.1, h.2.tk (tk_set1 HG.out) (by decide)⟩, hS.2.2.2.2.1.tk (tk_set1 HG.out) (by decide), hS.2.2.2.2.2.1.tk (tk_set1 HG.out) (by decide), ⟨(set_other _ (show b1 ≠ bx from by have := HN.out; omega)).trans hS.2.2.2.2.2.2.1, (set_other _ (show b2 ≠ bx from by have := HN.out; omega)).trans hS.2.2.2.2.2.2.2⟩⟩ (tk_set1 HG.out)
    exact trivial
   case fin =>
    intro fo wz lo hl hall hS
    have a7 : OwnAt b1 128 2 n4 (entCells p) (fo 7) wz ∧ ∀ (j g : Nat) (u : Value), pv[j]? = some u → u.ownBlock = some g → ((fo 7)).ownBlock ≠ some g := hall 7 (by decide)
    have a8 : ∃ g, (fo 8) = .slice (some ⟨g, 0, none⟩) 1 1 ∧ ((lo 9) = false → wz.heap[g]? = some (.cells #[(fo 7)] 87)) := hall 8 (by decide)
    have a9 : OwnAt b1 87 1 (k + 1) (pv ++ [(fo 7)]) (fo 9) wz := hall 9 (by decide)
    have a11 : wz.heap[bx]? = some (.cells #[.slice A5 4 c5, (fo 9), .slice A7 4 c7] 59) := hall 11 (by decide)
    clear hall
    obtain ⟨A9, c9, hv7, hc9, ho9⟩ := a7.1
    obtain ⟨A8, c8, hv9, hc8, ho8⟩ := a9
    obtain ⟨g4, hv8, _⟩ := a8
    have HO3 := Lib.hid (show OwnAt b1 128 2 n4 (entCells p) (fo 7) wz from ⟨A9, c9, hv7, hc9, ho9⟩)
    have HNW := Lib.hid a7.2
    have HO8 := Lib.hid ho8
    rw [hv9] at a11
    have H7 := Lib.hid a11
    have HS := Lib.hid hS
    simp only [hv7, hv8, hv9]
    clear a7 a11 hv7 hv8 hv9 ho8 ho9 hS hq rr rb nt nt5 nt7 hl
    obtain ⟨WE, rfl⟩ : ∃ x, x = wz := ⟨wz, rfl⟩
    go_wp2_with fail
    go_roundw
    case rel =>
     have hn4 := HN4.out
     exact ⟨k + 1, by omega, by go_num, OfL.next HS.out.1 H7.out hc8 HO8.out HLEN.out HS.out.2.2.2.1 HDJ.out (hn4 ▸ HO3.out) HPk.out HNW.out HS.out.2.2.2.2.1 HS.out.2.2.2.2.2.1, HS.out.2.2.2.2.2.2⟩
    case measure => simp [intOf]; omega
  ·
   obtain rfl : k = 4 := by omega
   obtain ⟨s0, s1, s2, _⟩ := cells3 HBK.out
   obtain ⟨_, _, _, z0, z1, z2⟩ := cells3 HIN.out.2
   go_wp2_with fail
   exact bodyPost_ret (ret59a rfl rfl (set3 HIN.out.2)) rfl ⟨⟨_, _, _, pv, rfl, (OfL.mem HOK.out hcP HOW.out HEN.out HDJ.out HO2.out HO5'.out HNE.out HLe.out (bR wo)).tk59 (Tk.set3 HIN.out.2)⟩, bS (bS (bS HB.out (show w.heap.size ≤ b2 from by have := HLe.out; have := HN.out; omega)) (show w.heap.size ≤ b2 from by have := HLe.out; have := HN.out; omega)) (show w.heap.size ≤ b2 from by have := HLe.out; have := HN.out; omega)⟩
end Go.Proofs.YtnigadeohmlpiaaGreatDoor

namespace Go.Proofs.YtnigadeohmlpiaaGreatDoor
open Go.RowKit
attribute [local go_sem] Oper.semAt_some
theorem zero_rows {w : World} {A1 A2 A3 : Option Addr} {c1 c2 c3 : Nat} (h1 : Row w 3 1 A1 4 (List.replicate 4 (.int .i64 0))) (h2 : Row w 87 1 A2 4 (List.replicate 4 (.slice none 0 0))) (h3 : Row w 3 1 A3 4 (List.replicate 4 (.int .i64 (-1)))) : IsMem w (.slice A1 4 c1) (.slice A2 4 c2) (.slice A3 4 c3) Mm.zero := by
 refine ⟨Mm.zero_ok, ⟨A1, c1, rfl, h1⟩, ⟨A2, c2, _, rfl, h2, fun k p hk => ?_⟩, ⟨A3, c3, rfl, h3⟩⟩
 rcases k with _ | _ | _ | _ | k
 all_goals simp [Mm.zero] at hk
 all_goals
  subst hk
  exact ⟨none, 0, rfl, Nat.le_refl _, Row.nil_ _ _ _ _⟩
theorem row_of_take {w : World} {g n : Nat} {e : TypeId} {cur : Array Value} {xs : List Value} (h : w.heap[g]? = some (.cells cur e)) (ht : cur.toList.take (n * 1) = xs) (hl : xs.length = n * 1 := by rfl) : Row w e 1 (some ⟨g, 0, none⟩) n xs :=
 ⟨hl, fun _ => ⟨g, 0, cur, (0, 0), rfl, h, fun j u hu => by
  rw [← ht, List.getElem?_take] at hu
  split at hu
  ·
   simpa using hu
  ·
   cases hu⟩⟩
set_option maxHeartbeats 8000000 in
set_option maxRecDepth 100000 in
theorem new49_any (w : World) : Calls Tryz.prog 49 #[.int .i64 4, .int .i64 4] w fun e w' => (∃ v1 v2 v3, e = .returned (.tuple #[.agg #[v1, v2, v3], .int .i64 0]) ∧ IsMem w' v1 v2 v3 Mm.zero) ∧ Below w.heap.size w w' := by
 obtain ⟨i3, hi3, hz0, hz1, hz2⟩ := info_parts int_info
 obtain ⟨i4, hi4, hy0, hy1, hy2⟩ := info_parts pend_info
 obtain ⟨b1, hb1⟩ : ∃ b, b = w.heap.size := ⟨_, rfl⟩
 obtain ⟨bx, hbx⟩ : ∃ b, b = b1 + 1 := ⟨_, rfl⟩
 obtain ⟨X1, hX1⟩ : ∃ X, X = w.alloc (.cells #[.slice none 0 0, .slice none 0 0, .slice none 0 0] 59) := ⟨_, rfl⟩
 obtain ⟨W0, hW0⟩ : ∃ X, X = X1.alloc (.cells #[.slice none 0 0, .slice none 0 0, .slice none 0 0] 59) := ⟨_, rfl⟩
 have s1 : X1.heap.size = b1 + 1 := by rw [hX1, World.size_alloc, hb1]
 have k1 : Below X1.heap.size X1 W0 := hW0 ▸ bA (bR X1)
 have k0 : Below w.heap.size w W0 := bT (hX1 ▸ bA (bR w)) k1
 have HT := Lib.hid (show W0.heap[b1]? = some (.cells #[.slice none 0 0, .slice none 0 0, .slice none 0 0] 59) from blk_below k1 (by rw [hX1, hb1]; exact heap_alloc_new w _))
 have HXo := Lib.hid (show W0.heap[bx]? = some (.cells #[.slice none 0 0, .slice none 0 0, .slice none 0 0] 59) from by rw [hW0, hbx, ← s1]; exact heap_alloc_new X1 _)
 have HB0 := Lib.hid k0
 have HLe := Lib.hid (Nat.le_of_eq hb1.symm)
 have HN := Lib.hid (show b1 < bx from by omega)
 have hWW : W0 = (w.alloc (.cells #[.slice none 0 0, .slice none 0 0, .slice none 0 0] 59)).alloc (.cells #[.slice none 0 0, .slice none 0 0, .slice none 0 0] 59) := by rw [hW0, hX1]
 clear s1 k1 k0 hX1 hW0
 go_enter Tryz.func49, Tryz.ntmps49
 go_wp2_with fail
 rw [← hWW, ← hb1, ← hbx]
 clear hWW hb1 hbx
 go_loopw [7] (fun v wr => ∃ (k : Nat) (vP vR : Value), k ≤ 4 ∧ v = .int .i64 k ∧ Below w.heap.size w wr ∧ wr.heap[b1]? = some (.cells #[.slice none 0 0, .slice none 0 0, .slice none 0 0] 59) ∧ wr.heap[bx]? = some (.cells #[.slice none 0 0, vP, vR] 59) ∧ wr.ownsRow (b1 + 1) 87 1 vP k (List.replicate k (.slice none 0 0)) ∧ wr.ownsRow (b1 + 1) 3 1 vR k (List.replicate k (.int .i64 (-1)))) (fun v _ => 4 - (intOf v).toNat)
 case atStart => exact ⟨0, _, _, by omega, rfl, HB0.out, HT.out, HXo.out, World.ownsRow_nil _ _ _ _, World.ownsRow_nil _ _ _ _⟩
 case round =>
  obtain ⟨k, vP, vR, hk, rfl, hB, hT, hX, hP, hR⟩ := hrel
  obtain ⟨wo, rfl⟩ : ∃ x, x = wr := ⟨wr, rfl⟩
  have HB := Lib.hid hB
  have HTo := Lib.hid hT
  have HXx := Lib.hid hX
  have HPo := Lib.hid hP
  have HRo := Lib.hid hR
  clear hB hT hX hP hR
  obtain ⟨AP, cP, rfl, _, _⟩ := own_slice HPo.out
  obtain ⟨AR, cR, rfl, _, _⟩ := own_slice HRo.out
  by_cases hlt : k < 4
  ·
   have hltb : decide ((k : Int) < 4) = true := by simp; omega
   have HS0 := Lib.hid (show b1 + 1 ≤ wo.heap.size from by have := blk_lt HXx.out; have := HN.out; omega)
   have HNw := Lib.hid (heap_alloc_new wo (.cells #[.slice none 0 0] 87))
   have kA : Below wo.heap.size wo (wo.alloc (.cells #[.slice none 0 0] 87)) := bA (bR wo)
   have HOl := Lib.hid (own_tk (T := []) HPo.out (Tk.below kA) (by decide))
   have HRl := Lib.hid (own_tk (T := []) HRo.out (Tk.below kA) (by decide))
   have HXl := Lib.hid (blk_below kA HXx.out)
   have HTl := Lib.hid (blk_below kA HTo.out)
   have HBl := Lib.hid (bT HB.out kA)
   obtain ⟨q0, q1, q2, _⟩ := cells3 HXx.out
   clear kA
   go_upto_region 8 with (
    at_builtin
    refine wpList_append_rd _ rfl (.tmp 30) (.tmp 31) 57 rfl (b1 + 1) 87 i4 _ 1 24 Tryz.underlying57 hi4 hy0 hy1 hy2 rfl (by decide) (.slice AP k cP) k (List.replicate k (.slice none 0 0)) rfl HOl.out (some ⟨wo.heap.size, 0, none⟩) 1 1 [.slice none 0 0] rfl ⟨rfl, fun _ => ⟨wo.heap.size, 0, rfl, blk_lt HNw.out, fun j u hu => one_cell HNw.out hu⟩⟩ (by simp [Value.oneCell']) (by unfold maxLen; omega) (by omega) (by have := HS0.out; simp; omega) ?_
    intro v5 w5 hown5 hg5
    have htk := tk_grown HOl.out hg5
    obtain ⟨A5, c5, rfl, _, _⟩ := own_slice hown5
    have HO5 := Lib.hid (show w5.ownsRow (b1 + 1) 87 1 (.slice A5 (k + 1) c5) (k + 1) (List.replicate (k + 1) (.slice none 0 0)) from by rw [List.replicate_succ']; exact hown5)
    have HR5 := Lib.hid (own_tk HRl.out htk (by decide))
    have HX5 := Lib.hid (htk.at_ (by decide) HXl.out)
    have HT5 := Lib.hid (htk.at_ (by decide) HTl.out)
    have HB5 := Lib.hid (HBl.out.grown hg5 HBl.out.size (fun r e => by have := (HOl.out.lt r e).1; have := HLe.out; omega))
    obtain ⟨p0, p1, p2, f0, f1, f2⟩ := cells3 HX5.out
    clear hown5 hg5 htk q0 q1 q2)
   obtain ⟨W6, hW6⟩ : ∃ X, X = w5.setCell ⟨bx, 1, none⟩ (.slice A5 (k + 1) c5) := ⟨_, rfl⟩
   have hne : b1 ≠ bx := by have := HN.out; omega
   have HX6 := Lib.hid (show W6.heap[bx]? = some (.cells #[.slice none 0 0, .slice A5 (k + 1) c5, .slice AR k cR] 59) from hW6 ▸ set_same HX5.out _)
   have HT6 := Lib.hid (show W6.heap[b1]? = _ from hW6 ▸ (set_other _ hne).trans HT5.out)
   have HP6 := Lib.hid (show W6.ownsRow (b1 + 1) 87 1 (.slice A5 (k + 1) c5) (k + 1) (List.replicate (k + 1) (.slice none 0 0)) from hW6 ▸ own_tk HO5.out (tk_set1 HX5.out) (by decide))
   have HR6 := Lib.hid (show W6.ownsRow (b1 + 1) 3 1 (.slice AR k cR) k (List.replicate k (.int .i64 (-1))) from hW6 ▸ own_tk HR5.out (tk_set1 HX5.out) (by decide))
   have HB6 := Lib.hid (show Below w.heap.size w W6 from hW6 ▸ bS HB5.out (show w.heap.size ≤ bx from by have := HLe.out; have := HN.out; omega))
   rw [← hW6]
   have HS6 := Lib.hid (show b1 + 1 ≤ W6.heap.size from by have := blk_lt HX6.out; have := HN.out; omega)
   have HNw6 := Lib.hid (heap_alloc_new W6 (.cells #[.int .i64 (-1)] 3))
   have kA : Below W6.heap.size W6 (W6.alloc (.cells #[.int .i64 (-1)] 3)) := bA (bR W6)
   have HOl6 := Lib.hid (own_tk (T := []) HR6.out (Tk.below kA) (by decide))
   have HPl6 := Lib.hid (own_tk (T := []) HP6.out (Tk.below kA) (by decide))
   have HXl6 := Lib.hid (blk_below kA HX6.out)
   have HTl6 := Lib.hid (blk_below kA HT6.out)
   have HBl6 := Lib.hid (bT HB6.out kA)
   clear hW6 p0 p1 p2 f0 f1 f2 kA hne
   obtain ⟨q0, q1, q2, _⟩ := cells3 HX6.out
   go_wp2_with (
    at_builtin
    refine wpList_append_rd _ rfl (.tmp 35) (.tmp 36) 32 rfl (b1 + 1) 3 i3 _ 1 8 Tryz.underlying32 hi3 hz0 hz1 hz2 rfl (by decide) (.slice AR k cR) k (List.replicate k (.int .i64 (-1))) rfl HOl6.out (some ⟨W6.heap.size, 0, none⟩) 1 1 [.int .i64 (-1)] rfl ⟨rfl, fun _ => ⟨W6.heap.size, 0, rfl, blk_lt HNw6.out, fun j u hu => one_cell HNw6.out hu⟩⟩ (by simp [Value.oneCell']) (by unfold maxLen; omega) (by omega) (by have := HS6.out; simp; omega) ?_
    intro v7 w7 hown7 hg7
    have htk := tk_grown HOl6.out hg7
    obtain ⟨A7, c7, rfl, _, _⟩ := own_slice hown7
    have HO7 := Lib.hid (show w7.ownsRow (b1 + 1) 3 1 (.slice A7 (k + 1) c7) (k + 1) (List.replicate (k + 1) (.int .i64 (-1))) from by rw [List.replicate_succ']; exact hown7)
    have HP7 := Lib.hid (own_tk HPl6.out htk (by decide))
    have HX7 := Lib.hid (htk.at_ (by decide) HXl6.out)
    have HT7 := Lib.hid (htk.at_ (by decide) HTl6.out)
    have HB7 := Lib.hid (HBl6.out.grown hg7 HBl6.out.size (fun r e => by have := (HOl6.out.lt r e).1; have := HLe.out; omega))
    obtain ⟨p0, p1, p2, f0, f1, f2⟩ := cells3 HX7.out
    clear hown7 hg7 htk q0 q1 q2)
   go_roundw
   case rel => exact ⟨k + 1, _, _, by omega, by go_num, bS HB7.out (show w.heap.size ≤ bx from by have := HLe.out; have := HN.out; omega), (set_other _ (show b1 ≠ bx from by have := HN.out; omega)).trans HT7.out, set_same HX7.out _, own_tk HP7.out (tk_set1 HX7.out) (by decide), own_tk HO7.out (tk_set1 HX7.out) (by decide)⟩
   case measure => simp [intOf]; omega
  ·
   have hk4 : k = 4 := by omega
   have hPo := HPo.out
   have hRo := HRo.out
   have hXx := HXx.out
   rw [hk4] at hPo hRo hXx
   obtain ⟨gR, curR, e1, _, hgR, _, htR, _, _⟩ := own_open hRo (by decide)
   subst e1
   have HX4 := Lib.hid hXx
   have HPP := Lib.hid (Row.of_own hPo)
   have HK4 := Lib.hid hk4
   obtain ⟨B2, hB2⟩ : ∃ B2, B2 = wo.heap.size := ⟨_, rfl⟩
   have HB2 := Lib.hid (Nat.le_of_eq hB2)
   have HB2' := Lib.hid (show w.heap.size ≤ B2 from hB2 ▸ HB.out.size)
   have HGR := Lib.hid (show gR < B2 from hB2 ▸ blk_lt hgR)
   have HL2 := Lib.hid (show w.heap.size ≤ bx from by have := HLe.out; have := HN.out; omega)
   have HRR := Lib.hid hgR
   have HTR := Lib.hid htR
   have hlb4 : decide ((k : Int) < 4) = false := by simp; omega
   clear hB2 hgR htR hPo hRo hXx hk4 hlt hk HXx HPo HRo
   go_upto_region 10 with fail
   go_loopw [8] (fun v wr => ∃ (k : Nat) (vW : Value), k ≤ 4 ∧ v = .int .i64 k ∧ Below w.heap.size w wr ∧ wr.heap[b1]? = some (.cells #[.slice none 0 0, .slice none 0 0, .slice none 0 0] 59) ∧ wr.heap[bx]? = some (.cells #[vW, .slice AP 4 cP, .slice (some ⟨gR, 0, none⟩) 4 cR] 59) ∧ wr.ownsRow B2 3 1 vW k (List.replicate k (.int .i64 0)) ∧ Row wr 87 1 AP 4 (List.replicate 4 (.slice none 0 0)) ∧ wr.heap[gR]? = some (.cells curR 3) ∧ B2 ≤ wr.heap.size) (fun v _ => 4 - (intOf v).toNat)
   case atStart => exact ⟨0, _, by omega, rfl, HB.out, HTo.out, HX4.out, World.ownsRow_nil _ _ _ _, HPP.out, HRR.out, HB2.out⟩
   case round =>
    obtain ⟨j, vW, hj, rfl, hB, hT, hX, hW, hP, hR, hS⟩ := hrel
    obtain ⟨wn, rfl⟩ : ∃ x, x = wr := ⟨wr, rfl⟩
    have JB := Lib.hid hB
    have JT := Lib.hid hT
    have JX := Lib.hid hX
    have JW := Lib.hid hW
    have JP := Lib.hid hP
    have JR := Lib.hid hR
    have JS := Lib.hid hS
    clear hB hT hX hW hP hR hS
    obtain ⟨AW, cW, rfl, _, _⟩ := own_slice JW.out
    by_cases hlt : j < 4
    ·
     have hltb : decide ((j : Int) < 4) = true := by simp; omega
     have HNw := Lib.hid (heap_alloc_new wn (.cells #[.int .i64 0] 3))
     have kA : Below wn.heap.size wn (wn.alloc (.cells #[.int .i64 0] 3)) := bA (bR wn)
     have HOl := Lib.hid (own_tk (T := []) JW.out (Tk.below kA) (by decide))
     have HXl := Lib.hid (blk_below kA JX.out)
     have HTl := Lib.hid (blk_below kA JT.out)
     have HRl := Lib.hid (blk_below kA JR.out)
     have HPl := Lib.hid (JP.out.below kA)
     have HBl := Lib.hid (bT JB.out kA)
     have HSl := Lib.hid (Nat.le_trans JS.out kA.size)
     obtain ⟨q0, q1, q2, _⟩ := cells3 JX.out
     clear kA
     go_upto_region 12 with fail
     go_wp2_with (
      at_builtin
      refine wpList_append_rd _ rfl (.tmp 45) (.tmp 46) 32 rfl B2 3 i3 _ 1 8 Tryz.underlying32 hi3 hz0 hz1 hz2 rfl (by decide) (.slice AW j cW) j (List.replicate j (.int .i64 0)) rfl HOl.out (some ⟨wn.heap.size, 0, none⟩) 1 1 [.int .i64 0] rfl ⟨rfl, fun _ => ⟨wn.heap.size, 0, rfl, blk_lt HNw.out, fun j u hu => one_cell HNw.out hu⟩⟩ (by simp [Value.oneCell']) (by unfold maxLen; omega) (by omega) HSl.out ?_
      intro v5 w5 hown5 hg5
      have htk := tk_grown HOl.out hg5
      obtain ⟨A5, c5, rfl, _, _⟩ := own_slice hown5
      have HO5 := Lib.hid (show w5.ownsRow B2 3 1 (.slice A5 (j + 1) c5) (j + 1) (List.replicate (j + 1) (.int .i64 0)) from by rw [List.replicate_succ']; exact hown5)
      have HX5 := Lib.hid (htk.at_ (by decide) HXl.out)
      have HT5 := Lib.hid (htk.at_ (by decide) HTl.out)
      have HP5 := Lib.hid (HPl.out.tk htk (by decide))
      have HR5 := Lib.hid ((hg5.block gR (blk_lt HRl.out) (fun e => by have := (HOl.out.lt gR e.symm).1; have := HGR.out; omega)).trans HRl.out)
      have HB5 := Lib.hid (HBl.out.grown hg5 HBl.out.size (fun r e => by have := (HOl.out.lt r e).1; have := HB2'.out; omega))
      have HS5 := Lib.hid (Nat.le_trans HSl.out hg5.size)
      obtain ⟨p0, p1, p2, f0, f1, f2⟩ := cells3 HX5.out
      clear hown5 hg5 htk q0 q1 q2)
     go_roundw
     case rel => exact ⟨j + 1, _, by omega, by go_num, bS HB5.out HL2.out, (set_other _ (show b1 ≠ bx from by have := HN.out; omega)).trans HT5.out, set_same HX5.out _, own_tk HO5.out (tk_set1 HX5.out) (by decide), HP5.out.tk (tk_set1 HX5.out) (by decide), (tk_set1 HX5.out).at_ (by decide) HR5.out, by simp [World.setCell]; exact HS5.out⟩
     case measure => simp [intOf]; omega
    ·
     obtain rfl : j = 4 := by omega
     obtain ⟨q0, q1, q2, _⟩ := cells3 JX.out
     obtain ⟨p0, p1, p2, f0, f1, f2⟩ := cells3 JT.out
     go_wp2_with fail
     have HK := Tk.set3 (x' := .slice AW 4 cW) (y' := .slice AP 4 cP) (z' := .slice (some ⟨gR, 0, none⟩) 4 cR) JT.out
     exact bodyPost_ret (ret59 rfl rfl (set3 JT.out)) rfl ⟨⟨_, _, _, rfl, zero_rows ((Row.of_own JW.out).tk HK (by decide)) (JP.out.tk HK (by decide)) ((row_of_take JR.out HTR.out).tk HK (by decide))⟩, bS (bS (bS JB.out HLe.out) HLe.out) HLe.out⟩
end Go.Proofs.YtnigadeohmlpiaaGreatDoor

namespace Go.Proofs.YtnigadeohmlpiaaGreatDoor
open Go.RowKit
theorem tmod_small (z : Int) (h1 : -4294967296 < z) (h2 : z < 4294967296) : Int.tmod z 4294967296 = z := by
 by_cases h : 0 ≤ z
 ·
  exact Int.tmod_eq_of_lt h h2
 ·
  have e : z = -(-z) := by omega
  rw [e, Int.neg_tmod, Int.tmod_eq_of_lt (by omega) (by omega)]
set_option maxHeartbeats 800000 in
theorem word105_any (z : Int) (hz : I32 z) (w : World) : Calls Tryz.prog 105 #[.int .i64 z] w fun e w' => e = .returned (.int .i64 (if z < 0 then z + 4294967296 else z)) ∧ w = w' := by
 obtain ⟨h1, h2⟩ := hz
 have hm := tmod_small z (by omega) (by omega)
 have hw : IntKind.i64.wrap z = z := IntWalk.i64_in _ (by omega)
 by_cases h : z < 0
 ·
  have hb : decide (z < 0) = true := by simpa using h
  have hw2 : IntKind.i64.wrap (z + 4294967296) = z + 4294967296 := IntWalk.i64_in _ (by omega)
  rw [if_pos h]
  go_enter Tryz.func105, Tryz.ntmps105
  go_wp2_with fail
  go_ret
  exact ⟨rfl, rfl⟩
 ·
  have hb : decide (z < 0) = false := by simpa using h
  rw [if_neg h]
  go_enter Tryz.func105, Tryz.ntmps105
  go_wp2_with fail
  go_ret
  exact ⟨rfl, rfl⟩
set_option maxHeartbeats 800000 in
theorem wrap84_any (z : Int) (hz : I32 z) (w : World) : Calls Tryz.prog 84 #[.int .i64 z] w fun e w' => e = .returned (.int .i64 z) ∧ w = w' := by
 have HW := Lib.hid (word105_any z hz w)
 obtain ⟨h1, h2⟩ := hz
 by_cases h : z < 0
 ·
  rw [if_pos h] at HW
  have hb : decide (z + 4294967296 ≥ 2147483648) = true := by simp; omega
  have hb' : decide (2147483648 ≤ z + 4294967296) = true := by simp; omega
  have hw2 : IntKind.i64.wrap (z + 4294967296 - 4294967296) = z := by rw [show z + 4294967296 - 4294967296 = z by omega]; exact IntWalk.i64_in _ (by omega)
  go_enter Tryz.func84, Tryz.ntmps84
  go_wp2_with fail
  refine HW.out.mono ?_
  rintro e w2 ⟨rfl, rfl⟩
  go_wp2_with fail
  go_ret
  exact ⟨rfl, rfl⟩
 ·
  rw [if_neg h] at HW
  have hb : decide (z ≥ 2147483648) = false := by simp; omega
  have hb' : decide (2147483648 ≤ z) = false := by simp; omega
  go_enter Tryz.func84, Tryz.ntmps84
  go_wp2_with fail
  refine HW.out.mono ?_
  rintro e w2 ⟨rfl, rfl⟩
  go_wp2_with fail
  go_ret
  exact ⟨rfl, rfl⟩
end Go.Proofs.YtnigadeohmlpiaaGreatDoor

namespace Go.Proofs.YtnigadeohmlpiaaGreatDoor
open Go.RowKit
attribute [local go_sem] Oper.semAt_some
theorem OwnMem.low {B B' : Nat} {w : World} {x1 x2 x3 : Value} {pv : List Value} {M : Mm} (h : OwnMem B w x1 x2 x3 pv M) (hb : B' ≤ B) : OwnMem B' w x1 x2 x3 pv M :=
 ⟨h.ok, h.ws.low hb, h.ps.low hb, h.rs.low hb, h.ne, fun k p hp => (h.en k p hp).elim fun v hv => ⟨v, hv.1, hv.2.low hb⟩, h.dj⟩
set_option maxHeartbeats 8000000 in
set_option maxRecDepth 100000 in
theorem goes81_any (v1 v2 v3 : Value) (M : Mm) (h a : Nat) (z : Int) (w : World) (hm : IsMem w v1 v2 v3 M) (ha : a < 4) (hz : I32 z) :
  Calls Tryz.prog 81 #[.agg #[v1, v2, v3], .int .i64 h, .int .i64 a, .int .i64 z] w fun e w' => OwnIsM w.heap.size ⟨M.words.set a z, M.pend⟩ e w' ∧ Below w.heap.size w w' := by
 have HM := Lib.hid hm
 obtain ⟨A1, c1, rfl, _⟩ := hm.ws
 obtain ⟨A2, c2, p0, rfl, _⟩ := hm.ps
 obtain ⟨A3, c3, rfl, _⟩ := hm.rs
 obtain ⟨b4, hb4⟩ : ∃ b, b = w.heap.size := ⟨_, rfl⟩
 obtain ⟨b8, hb8⟩ : ∃ b, b = b4 + 1 := ⟨_, rfl⟩
 obtain ⟨X1, hX1⟩ : ∃ X, X = w.alloc (.cells #[.slice A1 4 c1, .slice A2 4 c2, .slice A3 4 c3] 59) := ⟨_, rfl⟩
 obtain ⟨W0, hW0⟩ : ∃ X, X = X1.alloc (.cells #[.slice none 0 0, .slice none 0 0, .slice none 0 0] 59) := ⟨_, rfl⟩
 have s1 : X1.heap.size = b4 + 1 := by rw [hX1, World.size_alloc, hb4]
 have k1 : Below X1.heap.size X1 W0 := hW0 ▸ bA (bR X1)
 have k0 : Below w.heap.size w W0 := bT (hX1 ▸ bA (bR w)) k1
 have H4 := Lib.hid (show W0.heap[b4]? = some (.cells #[.slice A1 4 c1, .slice A2 4 c2, .slice A3 4 c3] 59) from blk_below k1 (by rw [hX1, hb4]; exact heap_alloc_new w _))
 have H8 := Lib.hid (show W0.heap[b8]? = some (.cells #[.slice none 0 0, .slice none 0 0, .slice none 0 0] 59) from by rw [hW0, hb8, ← s1]; exact heap_alloc_new X1 _)
 have HB0 := Lib.hid k0
 have HL8 := Lib.hid (show w.heap.size ≤ b8 by omega)
 have HOf := Lib.hid (own83_any _ _ _ M W0 (hm.sees (Below.sees k0)))
 have hWW : W0 = (w.alloc (.cells #[.slice A1 4 c1, .slice A2 4 c2, .slice A3 4 c3] 59)).alloc (.cells #[.slice none 0 0, .slice none 0 0, .slice none 0 0] 59) := by rw [hW0, hX1]
 have HZ := Lib.hid hz
 clear hm s1 k1 k0 hX1 hW0 hz
 obtain ⟨r0, r1, r2, _⟩ := cells3 H4.out
 go_enter Tryz.func81, Tryz.ntmps81
 go_wp2_with fail
 rw [← hb4, ← hb8, ← hWW]
 clear hb4 hb8 hWW
 refine HOf.out.mono ?_
 rintro e w2 ⟨⟨x1, x2, x3, pv, rfl, hown⟩, hb2⟩
 obtain ⟨Y1, e1, hY1, he1, oW⟩ := hown.ws
 obtain ⟨Y2, e2, hY2, _⟩ := hown.ps
 obtain ⟨Y3, e3, hY3, he3, oR⟩ := hown.rs
 subst hY1
 subst hY2
 subst hY3
 obtain ⟨gW, cW, eg, hgB, hgW, hcs, _⟩ := own_open oW (by omega)
 subst eg
 obtain ⟨bo, hbo⟩ : ∃ b, b = w2.heap.size := ⟨_, rfl⟩
 obtain ⟨W3, hW3⟩ : ∃ X, X = w2.alloc (.cells #[.slice (some ⟨gW, 0, none⟩) 4 e1, .slice Y2 4 e2, .slice Y3 4 e3] 59) := ⟨_, rfl⟩
 have k3 : Below w2.heap.size w2 W3 := hW3 ▸ bA (bR w2)
 have HBo := Lib.hid (show W3.heap[bo]? = some (.cells #[.slice (some ⟨gW, 0, none⟩) 4 e1, .slice Y2 4 e2, .slice Y3 4 e3] 59) by rw [hW3, hbo]; exact heap_alloc_new w2 _)
 have H83 := Lib.hid (blk_below k3 (blk_below hb2 H8.out))
 have HB3 := Lib.hid (bT (bT HB0.out hb2) k3)
 have hne : (Value.slice Y3 4 e3).ownBlock ≠ some gW := fun e => hown.ne e.symm
 have HGo := Lib.hid (hown.goes (z := z) k3 ha HZ.out hne)
 have hg3 := blk_below k3 hgW
 have HG3 := Lib.hid hg3
 have hc3 : ∃ u, W3.cell? ⟨gW, a, none⟩ = some u := by
  rw [cell_of_row W3 gW a _ _ _ hg3]
  exact ⟨_, Array.getElem?_eq_getElem (by omega)⟩
 obtain ⟨u3, hc3⟩ := hc3
 have hf3 := not_frozen (i := a) hg3
 obtain ⟨p0, p1, p2, _⟩ := cells3 HBo.out
 have ha4 : (a : Int) < 4 := by omega
 have HGB := Lib.hid (show w.heap.size ≤ gW from by have := HB0.out.size; omega)
 clear r0 r1 r2 hown oW oR hgB hgW hcs k3 hne hg3 hb2
 go_upto_region 2 with fail
 rw [← hW3, ← hbo]
 clear hW3 hbo
 obtain ⟨W4, hW4⟩ : ∃ X, X = W3.setCell ⟨gW, a, none⟩ (.int .i64 z) := ⟨_, rfl⟩
 go_upto_region 3 with fail
 rw [← hW4]
 rw [← hW4] at HGo
 have hgo : bo ≠ gW := fun e => by
  have h1 := HBo.out
  rw [e, HG3.out] at h1
  injection h1 with h1
  injection h1 with _ h2
  cases h2
 have hg8 : b8 ≠ gW := fun e => by
  have h1 := H83.out
  rw [e, HG3.out] at h1
  injection h1 with h1
  injection h1 with _ h2
  cases h2
 have HBo4 := Lib.hid (show W4.heap[bo]? = some (.cells #[.slice (some ⟨gW, 0, none⟩) 4 e1, .slice Y2 4 e2, .slice Y3 4 e3] 59) from hW4 ▸ (set_other _ hgo).trans HBo.out)
 have H84 := Lib.hid (show W4.heap[b8]? = some (.cells #[.slice none 0 0, .slice none 0 0, .slice none 0 0] 59) from hW4 ▸ (set_other _ hg8).trans H83.out)
 have HB4 := Lib.hid (show Below w.heap.size w W4 from hW4 ▸ bS HB3.out HGB.out)
 clear hW4 hc3 hf3 p0 p1 p2 hgo hg8
 obtain ⟨p0, p1, p2, _⟩ := cells3 HBo4.out
 obtain ⟨A3', c3', e3', _, oR⟩ := HGo.out.rs
 injection e3' with e4 _ e5
 subst e4
 subst e5
 have HRR := Lib.hid (Row.of_own oR)
 clear oR
 go_upto_region 4 with fail
 go_loopw [10] (fun v wr => ∃ k : Nat, k ≤ 4 ∧ v = .int .i64 k ∧ wr = W4) (fun v _ => 4 - (intOf v).toNat)
 case atStart => exact ⟨0, by omega, rfl, rfl⟩
 case round =>
  obtain ⟨k, hk, rfl, rfl⟩ := hrel
  by_cases hlt : k < 4
  ·
   have hltb : decide ((k : Int) < 4) = true := by simp; omega
   obtain ⟨g3, o3, u, rfl, hu, hcu⟩ := HRR.out.rd.at1 hlt
   obtain rfl : u = .int .i64 (-1) := by
    have h1 := List.mem_of_getElem? hu
    simpa using h1
   have hk0 : decide ((k : Int) < 0) = false := by simp
   have hk4 : (k : Int) < 4 := by omega
   have hna : ((-1 : Int) == (a : Int)) = false := by simp
   by_cases hkh : k = h
   ·
    have hkb : ((k : Int) == (h : Int)) = true := by simp; omega
    go_wp2_with fail
    go_roundw
    case rel => exact ⟨k + 1, by omega, by go_num, trivial⟩
    case measure => simp [intOf]; omega
   ·
    have hkb : ((k : Int) == (h : Int)) = false := by simp; omega
    go_wp2_with fail
    go_roundw
    case rel => exact ⟨k + 1, by omega, by go_num, trivial⟩
    case measure => simp [intOf]; omega
  ·
   have hltb : decide ((k : Int) < 4) = false := by simp; omega
   obtain ⟨s0, s1, s2, s3, s4, s5⟩ := cells3 H84.out
   go_wp2_with fail
   exact bodyPost_ret (ret59a rfl rfl (set3 H84.out)) rfl ⟨⟨_, _, _, pv, rfl, (HGo.out.tk59 (Tk.set3 H84.out)).low (by have := HB0.out.size; omega)⟩, bS (bS (bS HB4.out HL8.out) HL8.out) HL8.out⟩
end Go.Proofs.YtnigadeohmlpiaaGreatDoor
