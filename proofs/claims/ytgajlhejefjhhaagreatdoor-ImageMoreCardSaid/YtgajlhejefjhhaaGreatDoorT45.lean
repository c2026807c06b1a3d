/- The walk of the statement ImageWrong. No condition of ours. -/
import Derived.Test.YtgajlhejefjhhaaGreatDoorT31
import Derived.Deep.CutBlock
namespace Go.Proofs.YtgajlhejefjhhaaGreatDoor
open Go.RowKit

/-! ### an image in a variable, whose rows are the call's own -/
def Ivr (B b : Nat) (ws : List Int) (mem : Int) (ss : List (List UInt8 × Int)) (w : World) : Prop :=
  ∃ v1 v2, w.heap[b]? = some (.cells #[v1, .int .i64 mem, v2] 25) ∧ w.ownsRow B 3 1 v1 ws.length (ws.map (Value.int .i64)) ∧ w.ownsRow B 45 2 v2 ss.length (symCells ss)

theorem own_set_apart {w : World} {base : Nat} {e : TypeId} {size : Nat} {v : Value} {n : Nat} {xs : List Value} (h : w.ownsRow base e size v n xs) {b : Nat} {C : Array Value} {t : TypeId} {fz : Nat × Nat} (hb : w.heap[b]? = some (.cells C t fz)) (hne : t ≠ e) (i : Nat) (u : Value) :
    (w.setCell ⟨b, i, none⟩ u).ownsRow base e size v n xs := by
  obtain ⟨h1, h2⟩ := h
  refine ⟨h1, ?_⟩
  rcases h2 with h2 | ⟨g, cap, cur, hv, hg, hh, r⟩
  · exact .inl h2
  · have hgb : g ≠ b := fun e => by
      subst e
      rw [hb] at hh
      cases hh
      exact hne rfl
    exact .inr ⟨g, cap, cur, hv, hg, by rw [Below.heap_setCell _ _ _ _ hgb]; exact hh, r⟩

theorem Ivr.word {B b : Nat} {ws : List Int} {mem : Int} {ss : List (List UInt8 × Int)} {w w' : World} {v1 v2 v' : Value} {z : Int} (h1 : w.heap[b]? = some (.cells #[v1, .int .i64 mem, v2] 25)) (h2 : w.ownsRow B 3 1 v1 ws.length (ws.map (Value.int .i64)))
    (h3 : w.ownsRow B 45 2 v2 ss.length (symCells ss)) (ho : w'.ownsRow B 3 1 v' (ws.length + 1) (ws.map (Value.int .i64) ++ [.int .i64 z])) (hg : w.grownBy w' v1.ownBlock) : Ivr B b (ws ++ [z]) mem ss (w'.setCell ⟨b, 0, none⟩ v') := by
  have hk := grown_keep h2 hg h1 (.inl (by decide))
  refine ⟨v', v2, heap_setCell_same hk v', ?_, ?_⟩
  · have := own_set_apart ho hk (by decide) 0 v'
    simpa using this
  · exact own_set_apart (h3.kept hg (own_apart h3 h2 (by decide))) hk (by decide) 0 v'

theorem symCells_app (l k : List (List UInt8 × Int)) : symCells (l ++ k) = symCells l ++ symCells k := by simp [symCells]

theorem Ivr.more {B b : Nat} {ws : List Int} {mem : Int} {ss l : List (List UInt8 × Int)} {w w' : World} {v1 v2 v' : Value} (h1 : w.heap[b]? = some (.cells #[v1, .int .i64 mem, v2] 25)) (h2 : w.ownsRow B 3 1 v1 ws.length (ws.map (Value.int .i64)))
    (h3 : w.ownsRow B 45 2 v2 ss.length (symCells ss)) (ho : w'.ownsRow B 45 2 v' (ss.length + l.length) (symCells ss ++ symCells l)) (hg : w.grownBy w' v2.ownBlock) : Ivr B b ws mem (ss ++ l) (w'.setCell ⟨b, 2, none⟩ v') := by
  have hk := grown_keep h3 hg h1 (.inl (by decide))
  refine ⟨v1, v', heap_setCell_same hk v', ?_, ?_⟩
  · exact own_set_apart (h2.kept hg (own_apart h2 h3 (by decide))) hk (by decide) 2 v'
  · have := own_set_apart ho hk (by decide) 2 v'
    rw [List.length_append, symCells_app]
    exact this

theorem Ivr.memo {B b : Nat} {ws : List Int} {mem : Int} {ss : List (List UInt8 × Int)} {w : World} (h : Ivr B b ws mem ss w) (z : Int) : Ivr B b ws z ss (w.setCell ⟨b, 1, none⟩ (.int .i64 z)) := by
  obtain ⟨v1, v2, h1, h2, h3⟩ := h
  exact ⟨v1, v2, heap_setCell_same h1 _, own_set_apart h2 h1 (by decide) 1 _, own_set_apart h3 h1 (by decide) 1 _⟩

/-- sizes that do -/
structure Okay (ws : List Int) (mem : Int) (ss : List (List UInt8 × Int)) : Prop where
  n1 : ws.length ≤ 1000000
  n2 : ss.length ≤ 1000000
  wf : Wf ws
  mw : -9223372036854775808 ≤ mem ∧ mem ≤ 9223372036854775807
  sz : ∀ x ∈ ss, x.1.length ≤ 9223372036854775807 ∧ -9223372036854775808 ≤ x.2 ∧ x.2 ≤ 9223372036854775807
theorem okay_right {x : Img} (h : x.right = true) : Okay x.words x.mem x.syms := by
  have hg := Img.good h
  refine ⟨by have := hg.nwords; omega, by have := hg.nsyms; omega, fun z hz => ?_, ?_, fun y hy => ?_⟩
  · have := hg.words z hz
    omega
  · have := hg.mem
    omega
  · have := hg.syms y hy
    omega

theorem okay_word {ws : List Int} {mem : Int} {ss : List (List UInt8 × Int)} (h : Okay ws mem ss) {z : Int} (hz : -9223372036854775808 ≤ z ∧ z ≤ 9223372036854775807) (hl : ws.length ≤ 65536 := by omega) : Okay (ws ++ [z]) mem ss := by
  refine ⟨by simp; omega, h.n2, fun y hy => ?_, h.mw, h.sz⟩
  rcases List.mem_append.1 hy with hy | hy
  · exact h.wf y hy
  · rw [List.mem_singleton] at hy
    rw [hy]
    exact hz
theorem ivr_img {B b : Nat} {ws : List Int} {mem : Int} {ss : List (List UInt8 × Int)} {w : World} (h : Ivr B b ws mem ss w) (ho : Okay ws mem ss) : ∃ A p c F q d, Box w b A p c mem F q d ∧ IsImg w A p F q ⟨ws, mem, ss⟩ := by
  obtain ⟨v1, v2, h1, h2, h3⟩ := h
  obtain ⟨A, c, rfl, _, hR1, _⟩ := Rd_of_own h2
  obtain ⟨F, d, rfl, _, hR2, _⟩ := Rd_of_own h3
  have n1 := ho.n1
  have n2 := ho.n2
  exact ⟨A, _, c, F, _, d, h1, hR1, hR2, by omega, by omega, ho.wf, ho.mw, ho.sz⟩

/-- the variable at block b holds an image that may not be -/
def Wr (W : World) (B b : Nat) (w : World) : Prop := ∃ A p c mem F q d y, Box w b A p c mem F q d ∧ IsImg w A p F q y ∧ y.mem = mem ∧ y.right = false ∧ Below B W w
theorem wr_of {W : World} {B B' b : Nat} {ws : List Int} {mem : Int} {ss : List (List UInt8 × Int)} {w : World} (h : Ivr B b ws mem ss w) (ho : Okay ws mem ss) (hr : (⟨ws, mem, ss⟩ : Img).right = false) (hb : Below B' W w) : Wr W B' b w := by
  obtain ⟨A, p, c, F, q, d, h1, h2⟩ := ivr_img h ho
  exact ⟨A, p, c, mem, F, q, d, _, h1, h2, rfl, hr, hb⟩

theorem wr_word {b B B' : Nat} {W w3 : World} {x : Img} {xm z : Int} {F1 F2 : Option Addr} {p f1 q f2 : Nat} {v' : Value} (hx2 : Box W b F1 p f1 xm F2 q f2) (ho1 : W.ownsRow B 3 1 (.slice F1 p f1) p (x.words.map (Value.int .i64))) (ho2 : W.ownsRow B 45 2 (.slice F2 q f2) q (symCells x.syms))
    (hlp : x.words.length = p) (hlq : x.syms.length = q) (hown : w3.ownsRow B 3 1 v' (p + 1) (x.words.map (Value.int .i64) ++ [.int .i64 z])) (hg : (W.alloc (.cells #[.int .i64 z] 3)).grownBy w3 (Value.slice F1 p f1).ownBlock)
    (hok : Okay (x.words ++ [z]) xm x.syms) (hr : (⟨x.words ++ [z], xm, x.syms⟩ : Img).right = false) (hB : B' ≤ B) (hB2 : B' ≤ W.heap.size) (hBb : B' ≤ b) : Wr W B' b (w3.setCell ⟨b, 0, none⟩ v') := by
  have k1 := World.ownsRow.alloc ho1 (.cells #[.int .i64 z] 3)
  have k2 := World.ownsRow.alloc ho2 (.cells #[.int .i64 z] 3)
  have hI : Ivr B b (x.words ++ [z]) xm x.syms (w3.setCell ⟨b, 0, none⟩ v') :=
    Ivr.word (w := W.alloc (.cells #[.int .i64 z] 3)) (v1 := .slice F1 p f1) (v2 := .slice F2 q f2) ((Below.heap_alloc _ _ b (box_lt hx2)).trans hx2) (by rw [hlp]; exact k1) (by rw [hlq]; exact k2) (by rw [hlp]; exact hown) hg
  refine wr_of hI hok hr ?_
  exact ((((Below.refl B' W).alloc hB2 (.cells #[.int .i64 z] 3)).trans (grown_own k1 hg B' hB (by simp; omega)))).setCell (p := ⟨b, 0, none⟩) hBb v'

theorem wr_more {b B B' : Nat} {W w3 : World} {x : Img} {xm : Int} {l : List (List UInt8 × Int)} {C : Array Value} {F1 F2 : Option Addr} {p f1 q f2 : Nat} {v' : Value} (hx2 : Box W b F1 p f1 xm F2 q f2) (ho1 : W.ownsRow B 3 1 (.slice F1 p f1) p (x.words.map (Value.int .i64))) (ho2 : W.ownsRow B 45 2 (.slice F2 q f2) q (symCells x.syms))
    (hlp : x.words.length = p) (hlq : x.syms.length = q) (hown : w3.ownsRow B 45 2 v' (q + l.length) (symCells x.syms ++ symCells l)) (hg : (W.alloc (.cells C 45)).grownBy w3 (Value.slice F2 q f2).ownBlock)
    (hok : Okay x.words xm (x.syms ++ l)) (hr : (⟨x.words, xm, x.syms ++ l⟩ : Img).right = false) (hB : B' ≤ B) (hB2 : B' ≤ W.heap.size) (hBb : B' ≤ b) : Wr W B' b (w3.setCell ⟨b, 2, none⟩ v') := by
  have k1 := World.ownsRow.alloc ho1 (.cells C 45)
  have k2 := World.ownsRow.alloc ho2 (.cells C 45)
  have hI : Ivr B b x.words xm (x.syms ++ l) (w3.setCell ⟨b, 2, none⟩ v') :=
    Ivr.more (w := W.alloc (.cells C 45)) (v1 := .slice F1 p f1) (v2 := .slice F2 q f2) ((Below.heap_alloc _ _ b (box_lt hx2)).trans hx2) (by rw [hlp]; exact k1) (by rw [hlq]; exact k2) (by rw [hlq]; exact hown) hg
  refine wr_of hI hok hr ?_
  exact ((((Below.refl B' W).alloc hB2 (.cells C 45)).trans (grown_own k2 hg B' hB (by simp; omega)))).setCell (p := ⟨b, 2, none⟩) hBb v'

theorem wr_memo {b B B' : Nat} {W : World} {x : Img} {xm z : Int} {F1 F2 : Option Addr} {p f1 q f2 : Nat} (hx2 : Box W b F1 p f1 xm F2 q f2) (ho1 : W.ownsRow B 3 1 (.slice F1 p f1) p (x.words.map (Value.int .i64))) (ho2 : W.ownsRow B 45 2 (.slice F2 q f2) q (symCells x.syms))
    (hlp : x.words.length = p) (hlq : x.syms.length = q) (hok : Okay x.words z x.syms) (hr : (⟨x.words, z, x.syms⟩ : Img).right = false) (hBb : B' ≤ b) : Wr W B' b (W.setCell ⟨b, 1, none⟩ (.int .i64 z)) := by
  have hI : Ivr B b x.words z x.syms (W.setCell ⟨b, 1, none⟩ (.int .i64 z)) := Ivr.memo (mem := xm) ⟨_, _, hx2, by rw [hlp]; exact ho1, by rw [hlq]; exact ho2⟩ z
  exact wr_of hI hok hr ((Below.refl B' W).setCell (p := ⟨b, 1, none⟩) hBb _)

theorem okay_syms {ws : List Int} {mem : Int} {ss l : List (List UInt8 × Int)} (h : Okay ws mem ss) (hz : ∀ x ∈ l, x.1.length ≤ 9223372036854775807 ∧ -9223372036854775808 ≤ x.2 ∧ x.2 ≤ 9223372036854775807) (hl : ss.length + l.length ≤ 65536) : Okay ws mem (ss ++ l) := by
  refine ⟨h.n1, by rw [List.length_append]; omega, h.wf, h.mw, fun y hy => ?_⟩
  rcases List.mem_append.1 hy with hy | hy
  · exact h.sz y hy
  · exact hz y hy
theorem okay_mem {ws : List Int} {mem : Int} {ss : List (List UInt8 × Int)} (h : Okay ws mem ss) {z : Int} (hz : -9223372036854775808 ≤ z ∧ z ≤ 9223372036854775807) : Okay ws z ss := ⟨h.n1, h.n2, h.wf, hz, h.sz⟩
theorem four_new (w : World) (a b c d : Value) (t : TypeId) : ∀ j u, [a, b, c, d][j]? = some u → (w.alloc (.cells #[a, b, c, d] t)).cell? (Addr.add ⟨w.heap.size, 0, none⟩ j) = some u := by
  intro j u h
  have := new_cell (w := w) (C := #[a, b, c, d]) (t := t) (fz := (0, 0)) (j := j) (v := u) (by simpa using h)
  have e : Addr.add ⟨w.heap.size, 0, none⟩ j = ⟨w.heap.size, j, none⟩ := by
    unfold Addr.add
    split
    · rename_i h0
      rw [h0]
    · simp
  rw [e]
  exact this

set_option maxHeartbeats 4000000 in
set_option maxRecDepth 100000 in
theorem wrong_any (A1 : Option Addr) (n1 c1 : Nat) (A2 : Option Addr) (n2 c2 : Nat) (m : Img) (what by' : Int) (w : World) (h : IsImg w A1 n1 A2 n2 m) (ha1 : -9223372036854775808 ≤ what) (ha2 : what ≤ 9223372036854775807) (hb1 : -9223372036854775808 ≤ by') (hb2 : by' ≤ 9223372036854775807) (hG : Glob w) :
    Calls Tryz.prog 8 #[.agg #[.slice A1 n1 c1, .int .i64 m.mem, .slice A2 n2 c2], .int .i64 what, .int .i64 by'] w fun e w' => e = .returned (.bool true) ∧ Below w.heap.size w w' := by
  obtain ⟨a, ha⟩ : ∃ a, a = m.mem := ⟨_, rfl⟩
  obtain ⟨x, hx⟩ : ∃ x, x = m.fit := ⟨_, rfl⟩
  have hF1 := fit_told A1 n1 c1 A2 n2 c2 m hx
  rw [← ha] at hF1 ⊢
  have HF1 := Lib.hid hF1
  have HX := Lib.hid (show x.right = true from hx ▸ fit_right m)
  obtain ⟨r, hr⟩ : ∃ r, r = pk by' 1000 := ⟨_, rfl⟩
  have HPr := Lib.hid (fun w' => hr ▸ pick_any by' 1000 w' (by omega) hb1 hb2)
  have hr1 : 0 ≤ r := hr ▸ pk_lo by' 1000 (by omega)
  have hr2 : r < 1000 := hr ▸ pk_hi by' 1000 (by omega)
  obtain ⟨s, hs⟩ : ∃ s, s = pk what 6 := ⟨_, rfl⟩
  have HPs := Lib.hid (fun w' => hs ▸ pick_any what 6 w' (by omega) ha1 ha2)
  have hs1 : 0 ≤ s := hs ▸ pk_lo what 6 (by omega)
  have hs2 : s < 6 := hs ▸ pk_hi what 6 (by omega)
  have hB := bA (o := .cells #[.slice A1 n1 c1, .int .i64 a, .slice A2 n2 c2] 25) (bR w)
  have H := Lib.hid (h.below hB)
  have HG := Lib.hid (hG.below hB)
  have HB := Lib.hid hB
  have HN := Lib.hid (box_new w A1 n1 c1 a A2 n2 c2)
  clear hB h hG hF1 ha hx ha1 ha2 hb1 hb2 hr hs
  go_enter Tryz.func8, Tryz.ntmps8
  go_wp2_with fail
  refine (awake_any _ HG.out).mono ?_
  rintro e w1 ⟨rfl, hb1⟩
  have HB1 := Lib.hid (bT HB.out hb1)
  have H1 := Lib.hid (H.out.below hb1)
  have HN1 := Lib.hid (box_below HN.out hb1)
  clear hb1
  obtain ⟨r0, r1, r2, _⟩ := cells3 HN1.out
  go_wp2_with fail
  refine (HF1.out _ H1.out).mono ?_
  rintro e w2 ⟨⟨F1, p, f1, F2, q, f2, rfl, hi2, hf1, hp, hq, ho1, ho2⟩, hb2⟩
  clear r0 r1 r2
  have hlp := hi2.r1.int_len
  have hlq := hi2.r2.sym_len
  have hb2a := bA (o := .cells #[.slice F1 p f1, .int .i64 x.mem, .slice F2 q f2] 25) hb2
  have HB2 := Lib.hid (bT HB1.out hb2a)
  have HX2 := Lib.hid (box_new w2 F1 p f1 x.mem F2 q f2)
  have HO1 := Lib.hid (World.ownsRow.alloc ho1 (.cells #[.slice F1 p f1, .int .i64 x.mem, .slice F2 q f2] 25))
  have HO2 := Lib.hid (World.ownsRow.alloc ho2 (.cells #[.slice F1 p f1, .int .i64 x.mem, .slice F2 q f2] 25))
  have HC := Lib.hid (bT HB1.out hb2)
  have HLs := Lib.hid (show w.heap.size ≤ w1.heap.size ∧ w1.heap.size ≤ w2.heap.size from ⟨HB1.out.size, hb2.size⟩)
  obtain ⟨xm, hxm⟩ : ∃ xm, xm = x.mem := ⟨_, rfl⟩
  have HOk := Lib.hid (okay_right HX.out)
  rw [← hxm] at HX2 HB2 HO1 HO2 HOk ⊢
  have HM := Lib.hid hxm
  have HLp := Lib.hid hlp
  have HLq := Lib.hid hlq
  clear hb2 hb2a hi2 ho1 ho2 hxm hlp hlq
  obtain ⟨t0, t1, t2, g0, g1, g2⟩ := cells3 HX2.out
  go_wp2_with fail
  refine (HPr.out _).mono ?_
  rintro e w' ⟨rfl, rfl⟩
  go_wp2_with fail
  refine (HPs.out _).mono ?_
  rintro e w' ⟨rfl, rfl⟩
  go_upto_block 0 with fail
  go_cut [26] from 20 to 72 (fun s26 wx => Wr (w2.alloc (.cells #[.slice F1 p f1, .int .i64 xm, .slice F2 q f2] 25)) w.heap.size w2.heap.size wx)
  case first =>
    obtain ⟨i0, hi, hz0, hz1, hz2⟩ := info_parts i64_info
    obtain ⟨j0, hj, hy0, hy1, hy2⟩ := info_parts sym_info
    have hs : s = 0 ∨ s = 1 ∨ s = 2 ∨ s = 3 ∨ s = 4 ∨ s = 5 := by omega
    clear HPs HPr hs1 hs2
    rcases hs with rfl | rfl | rfl | rfl | rfl | rfl
    · have HW := Lib.hid (show (⟨x.words ++ [4294967296 + (1 + r)], xm, x.syms⟩ : Img).right = false from HM.out ▸ wrong_word x (4294967296 + (1 + r)) (by omega))
      have HOk' := Lib.hid (okay_word HOk.out (z := 4294967296 + (1 + r)) (by omega) (by have := HLp.out; omega))
      go_wp2_with (at_builtin; refine wpList_append_own _ rfl (.tmp 29) (.tmp 32) 22 rfl w1.heap.size 3 i0 _ 1 8 Tryz.underlying22 hi hz0 hz1 hz2 rfl (by decide) (.slice F1 p f1) p _ rfl (World.ownsRow.alloc HO1.out _) ⟨w2.heap.size + 1, 0, none⟩ 1 1 [.int .i64 (4294967296 + (1 + r))] rfl rfl (by have := cell_one_new (w2.alloc (.cells #[.slice F1 p f1, .int .i64 xm, .slice F2 q f2] 25)) (.int .i64 (4294967296 + (1 + r))) 3; simpa using this) (by simp [Value.oneCell']) (by unfold maxLen; omega) (by omega) (by have := HLs.out; simp; omega) ?_; intro v' w3 hown' hgrow _; obtain ⟨A', c', rfl, _⟩ := own_slice hown'; have hk3 := grown_keep (World.ownsRow.alloc HO1.out (.cells #[.int .i64 (4294967296 + (1 + r))] 3)) hgrow ((Below.heap_alloc _ _ w2.heap.size (by simp)).trans HX2.out) (.inl (by decide)); have hcell3 : w3.cell? ⟨w2.heap.size, 0, none⟩ = some (.slice F1 p f1) := (by rw [cell_of_row w3 _ 0 _ _ _ hk3]; rfl); have hfr := not_frozen (i := 0) hk3; have HOwn := Lib.hid hown'; have HGrow := Lib.hid hgrow; clear hown' hgrow hk3)
      go_meet
      exact wr_word HX2.out HO1.out HO2.out HLp.out HLq.out HOwn.out HGrow.out HOk'.out HW.out HLs.out.1 (by have := HLs.out; simp; omega) (by have := HLs.out; omega)
    · have HW := Lib.hid (show (⟨x.words ++ [-(1 + r)], xm, x.syms⟩ : Img).right = false from HM.out ▸ wrong_word x (-(1 + r)) (by omega))
      have HOk' := Lib.hid (okay_word HOk.out (z := -(1 + r)) (by omega) (by have := HLp.out; omega))
      go_wp2_with (at_builtin; refine wpList_append_own _ rfl (.tmp 38) (.tmp 41) 22 rfl w1.heap.size 3 i0 _ 1 8 Tryz.underlying22 hi hz0 hz1 hz2 rfl (by decide) (.slice F1 p f1) p _ rfl (World.ownsRow.alloc HO1.out _) ⟨w2.heap.size + 1, 0, none⟩ 1 1 [.int .i64 (-(1 + r))] rfl rfl (by have := cell_one_new (w2.alloc (.cells #[.slice F1 p f1, .int .i64 xm, .slice F2 q f2] 25)) (.int .i64 (-(1 + r))) 3; simpa using this) (by simp [Value.oneCell']) (by unfold maxLen; omega) (by omega) (by have := HLs.out; simp; omega) ?_; intro v' w3 hown' hgrow _; obtain ⟨A', c', rfl, _⟩ := own_slice hown'; have hk3 := grown_keep (World.ownsRow.alloc HO1.out (.cells #[.int .i64 (-(1 + r))] 3)) hgrow ((Below.heap_alloc _ _ w2.heap.size (by simp)).trans HX2.out) (.inl (by decide)); have hcell3 : w3.cell? ⟨w2.heap.size, 0, none⟩ = some (.slice F1 p f1) := (by rw [cell_of_row w3 _ 0 _ _ _ hk3]; rfl); have hfr := not_frozen (i := 0) hk3; have HOwn := Lib.hid hown'; have HGrow := Lib.hid hgrow; clear hown' hgrow hk3)
      go_meet
      exact wr_word HX2.out HO1.out HO2.out HLp.out HLq.out HOwn.out HGrow.out HOk'.out HW.out HLs.out.1 (by have := HLs.out; simp; omega) (by have := HLs.out; omega)
    · have HW := Lib.hid (show (⟨x.words, 4096 + (1 + r), x.syms⟩ : Img).right = false from wrong_mem x (4096 + (1 + r)) (by omega))
      have HOk' := Lib.hid (okay_mem HOk.out (z := 4096 + (1 + r)) (by omega))
      go_wp2
      go_meet
      have hE := wr_memo (B' := w.heap.size) HX2.out HO1.out HO2.out HLp.out HLq.out HOk'.out HW.out (by have := HLs.out; omega)
      rw [World.setCell_alloc_at _ _ _ _ _ rfl] at hE
      simpa using hE
    · have HW := Lib.hid (show (⟨x.words, xm, x.syms ++ [([126], 0), ([126], 0)]⟩ : Img).right = false from HM.out ▸ wrong_twice x)
      have HOk' := Lib.hid (okay_syms HOk.out (l := [([126], 0), ([126], 0)]) (fun y hy => by simp at hy; subst hy; simp) (by have := HLq.out; simp; omega))
      go_wp2_with (at_builtin; refine wpList_append_own _ rfl (.tmp 52) (.tmp 55) 23 rfl w1.heap.size 45 j0 _ 2 24 Tryz.underlying23 hj hy0 hy1 hy2 rfl (by decide) (.slice F2 q f2) q _ rfl (World.ownsRow.alloc HO2.out _) ⟨w2.heap.size + 1, 0, none⟩ 2 2 [.string ⟨#[126]⟩, .int .i64 0, .string ⟨#[126]⟩, .int .i64 0] rfl rfl (by have := four_new (w2.alloc (.cells #[.slice F1 p f1, .int .i64 xm, .slice F2 q f2] 25)) (.string ⟨#[126]⟩) (.int .i64 0) (.string ⟨#[126]⟩) (.int .i64 0) 45; simpa using this) (by simp [Value.oneCell']) (by unfold maxLen; omega) (by omega) (by have := HLs.out; simp; omega) ?_; intro v' w3 hown' hgrow _; obtain ⟨A', c', rfl, _⟩ := own_slice hown'; have hk3 := grown_keep (World.ownsRow.alloc HO2.out (.cells #[.string ⟨#[126]⟩, .int .i64 0, .string ⟨#[126]⟩, .int .i64 0] 45)) hgrow ((Below.heap_alloc _ _ w2.heap.size (by simp)).trans HX2.out) (.inl (by decide)); have hcell3 : w3.cell? ⟨w2.heap.size, 2, none⟩ = some (.slice F2 q f2) := (by rw [cell_of_row w3 _ 2 _ _ _ hk3]; rfl); have hfr := not_frozen (i := 2) hk3; have HOwn := Lib.hid hown'; have HGrow := Lib.hid hgrow; clear hown' hgrow hk3)
      go_meet
      exact wr_more (l := [([126], 0), ([126], 0)]) HX2.out HO1.out HO2.out HLp.out HLq.out HOwn.out HGrow.out HOk'.out HW.out HLs.out.1 (by have := HLs.out; simp; omega) (by have := HLs.out; omega)
    · have HW := Lib.hid (show (⟨x.words, xm, x.syms ++ [([126, 126], 4 * (p : Int) + 4 * (1 + r))]⟩ : Img).right = false from HM.out ▸ wrong_place x [126, 126] (4 * (p : Int) + 4 * (1 + r)) (by have := HLp.out; omega))
      have HOk' := Lib.hid (okay_syms HOk.out (l := [([126, 126], 4 * (p : Int) + 4 * (1 + r))]) (fun y hy => by simp at hy; subst hy; simp; omega) (by have := HLq.out; simp; omega))
      go_wp2_with (at_builtin; refine wpList_append_own _ rfl (.tmp 61) (.tmp 70) 23 rfl w1.heap.size 45 j0 _ 2 24 Tryz.underlying23 hj hy0 hy1 hy2 rfl (by decide) (.slice F2 q f2) q _ rfl (World.ownsRow.alloc HO2.out _) ⟨w2.heap.size + 1, 0, none⟩ 1 1 [.string ⟨#[126, 126]⟩, .int .i64 (4 * (p : Int) + 4 * (1 + r))] rfl rfl (by have := two_new (w2.alloc (.cells #[.slice F1 p f1, .int .i64 xm, .slice F2 q f2] 25)) (.string ⟨#[126, 126]⟩) (.int .i64 (4 * (p : Int) + 4 * (1 + r))) 45; simpa using this) (by simp [Value.oneCell']) (by unfold maxLen; omega) (by omega) (by have := HLs.out; simp; omega) ?_; intro v' w3 hown' hgrow _; obtain ⟨A', c', rfl, _⟩ := own_slice hown'; have hk3 := grown_keep (World.ownsRow.alloc HO2.out (.cells #[.string ⟨#[126, 126]⟩, .int .i64 (4 * (p : Int) + 4 * (1 + r))] 45)) hgrow ((Below.heap_alloc _ _ w2.heap.size (by simp)).trans HX2.out) (.inl (by decide)); have hcell3 : w3.cell? ⟨w2.heap.size, 2, none⟩ = some (.slice F2 q f2) := (by rw [cell_of_row w3 _ 2 _ _ _ hk3]; rfl); have hfr := not_frozen (i := 2) hk3; have HOwn := Lib.hid hown'; have HGrow := Lib.hid hgrow; clear hown' hgrow hk3)
      go_meet
      exact wr_more (l := [([126, 126], 4 * (p : Int) + 4 * (1 + r))]) HX2.out HO1.out HO2.out HLp.out HLq.out HOwn.out HGrow.out HOk'.out HW.out HLs.out.1 (by have := HLs.out; simp; omega) (by have := HLs.out; omega)
    · have HW := Lib.hid (show (⟨x.words, xm, x.syms ++ [([97, 32, 98], 0)]⟩ : Img).right = false from HM.out ▸ wrong_name x [97, 32, 98] 0 (by decide))
      have HOk' := Lib.hid (okay_syms HOk.out (l := [([97, 32, 98], 0)]) (fun y hy => by simp at hy; subst hy; simp) (by have := HLq.out; simp; omega))
      go_wp2_with (at_builtin; refine wpList_append_own _ rfl (.tmp 21) (.tmp 23) 23 rfl w1.heap.size 45 j0 _ 2 24 Tryz.underlying23 hj hy0 hy1 hy2 rfl (by decide) (.slice F2 q f2) q _ rfl (World.ownsRow.alloc HO2.out _) ⟨w2.heap.size + 1, 0, none⟩ 1 1 [.string ⟨#[97, 32, 98]⟩, .int .i64 0] rfl rfl (by have := two_new (w2.alloc (.cells #[.slice F1 p f1, .int .i64 xm, .slice F2 q f2] 25)) (.string ⟨#[97, 32, 98]⟩) (.int .i64 0) 45; simpa using this) (by simp [Value.oneCell']) (by unfold maxLen; omega) (by omega) (by have := HLs.out; simp; omega) ?_; intro v' w3 hown' hgrow _; obtain ⟨A', c', rfl, _⟩ := own_slice hown'; have hk3 := grown_keep (World.ownsRow.alloc HO2.out (.cells #[.string ⟨#[97, 32, 98]⟩, .int .i64 0] 45)) hgrow ((Below.heap_alloc _ _ w2.heap.size (by simp)).trans HX2.out) (.inl (by decide)); have hcell3 : w3.cell? ⟨w2.heap.size, 2, none⟩ = some (.slice F2 q f2) := (by rw [cell_of_row w3 _ 2 _ _ _ hk3]; rfl); have hfr := not_frozen (i := 2) hk3; have HOwn := Lib.hid hown'; have HGrow := Lib.hid hgrow; clear hown' hgrow hk3)
      go_meet
      exact wr_more (l := [([97, 32, 98], 0)]) HX2.out HO1.out HO2.out HLp.out HLq.out HOwn.out HGrow.out HOk'.out HW.out HLs.out.1 (by have := HLs.out; simp; omega) (by have := HLs.out; omega)
  case rest =>
    obtain ⟨A, p', c, mem, F, q', d, y, hx3, hy3, hym, hyr, hB3⟩ := hcut
    obtain ⟨w3, rfl⟩ : ∃ x, x = wc := ⟨wc, rfl⟩
    have HY := Lib.hid hyr
    subst hym
    have HX3 := Lib.hid hx3
    have HI3 := Lib.hid hy3
    have HB3 := Lib.hid (HB2.out.trans hB3)
    have hfy : y.find [97] = -1 := by rw [Img.find, if_neg (by rw [hyr]; simp)]
    have HFy := Lib.hid hfy
    obtain ⟨ym, hym⟩ : ∃ ym, ym = y.mem := ⟨_, rfl⟩
    have HPn := Lib.hid (fun w' (hi : IsImg w' A p' F q' y) => hym ▸ print_no A p' c F q' d y w' hi HY.out)
    have HRn := Lib.hid (fun w' (hi : IsImg w' A p' F q' y) => hym ▸ HY.out ▸ right_any A p' c F q' d y w' hi)
    have HSn := Lib.hid (fun w' (hi : IsImg w' A p' F q' y) => hym ▸ sumOf_no A p' c F q' d y w' hi HY.out)
    have HFn := Lib.hid (fun w' (hi : IsImg w' A p' F q' y) => hym ▸ HFy.out ▸ find_any A p' c F q' d y [97] w' hi)
    rw [← hym] at HX3
    clear hx3 hy3 hyr hB3 hfy hym t0 t1 t2 g0 g1 g2
    obtain ⟨t0, t1, t2, _⟩ := cells3 HX3.out
    go_wp2_with fail
    refine (HPn.out _ HI3.out).mono ?_
    rintro e w4 ⟨rfl, hb4⟩
    have HB4 := Lib.hid (bT HB3.out hb4)
    have HI4 := Lib.hid (HI3.out.below hb4)
    have HX4 := Lib.hid (box_below HX3.out hb4)
    clear hb4 t0 t1 t2
    obtain ⟨t0, t1, t2, _⟩ := cells3 HX4.out
    go_wp2_with fail
    refine (HRn.out _ HI4.out).mono ?_
    rintro e w5 ⟨rfl, hb5⟩
    have HB5 := Lib.hid (bT HB4.out hb5)
    have HI5 := Lib.hid (HI4.out.below hb5)
    have HX5 := Lib.hid (box_below HX4.out hb5)
    clear hb5 t0 t1 t2
    obtain ⟨t0, t1, t2, _⟩ := cells3 HX5.out
    go_wp2_with fail
    refine (HSn.out _ HI5.out).mono ?_
    rintro e w6 ⟨rfl, hb6⟩
    have HB6 := Lib.hid (bT HB5.out hb6)
    have HI6 := Lib.hid (HI5.out.below hb6)
    have HX6 := Lib.hid (box_below HX5.out hb6)
    clear hb6 t0 t1 t2
    obtain ⟨t0, t1, t2, _⟩ := cells3 HX6.out
    go_wp2_with fail
    refine (HFn.out _ HI6.out).mono ?_
    rintro e w7 ⟨rfl, hb7⟩
    have HB7 := Lib.hid (bT HB6.out hb7)
    clear hb7 t0 t1 t2
    go_wp2
    go_ret
    exact ⟨rfl, HB7.out⟩
end Go.Proofs.YtgajlhejefjhhaaGreatDoor
