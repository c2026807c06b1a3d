/- The statement LitmusSingly, for every input: no condition of ours. -/
import Derived.Test.YtnigadeohmlpiaaGreatDoorC31
import Derived.Test.YtnigadeohmlpiaaGreatDoorC28
import Derived.Test.YtnigadeohmlpiaaGreatDoorC30
import Derived.OpenShut
import Derived.SizedLaws
namespace Go.Proofs.YtnigadeohmlpiaaGreatDoor
open Go.RowKit
attribute [local go_sem] Oper.semAt_some

theorem rising_nodup {L : List (List Int)} (h : Rising L) : L.Nodup := by
  refine List.Pairwise.imp (fun {a b} hab he => ?_) h
  subst he
  rw [cmpL_refl] at hab
  exact absurd hab (by omega)

/-- a list with a fence more -/
def insF (l : List Ev) (k : Nat) (H : Int) : List Ev := l.take k ++ (⟨H, 3, 0, 0⟩ :: l.drop k)
theorem insF_at {l : List Ev} {k : Nat} (hk : k ≤ l.length) (H : Int) : (insF l k H)[k]? = some ⟨H, 3, 0, 0⟩ := by
  unfold insF
  rw [List.getElem?_append_right (by simp; omega)]
  simp [Nat.min_eq_left hk]
theorem insF_erase {l : List Ev} {k : Nat} (hk : k ≤ l.length) (H : Int) : (insF l k H).eraseIdx k = l := by
  unfold insF
  have h1 : (l.take k).length = k := by simp; omega
  rw [List.eraseIdx_append_of_length_le (by omega), h1, Nat.sub_self]
  simp
theorem insF_prog {l : List Ev} {k : Nat} {H : Int} (hH : 0 ≤ H ∧ H < 4) (hl : Prog l) (h5 : l.length ≤ 5) : Prog (insF l k H) := by
  have hmem : ∀ e ∈ insF l k H, e ∈ l ∨ e = ⟨H, 3, 0, 0⟩ := fun e he => by
    unfold insF at he
    rcases List.mem_append.1 he with h | h
    · exact .inl (List.mem_of_mem_take h)
    · rcases List.mem_cons.1 h with h | h
      · exact .inr h
      · exact .inl (List.mem_of_mem_drop h)
  refine ⟨by unfold insF; simp; omega, fun e he => ?_, fun e he hk => ?_⟩
  · rcases hmem e he with h | rfl
    · exact hl.ok e h
    · exact ⟨hH, ⟨by show (1 : Int) ≤ 3; omega, by show (3 : Int) ≤ 3; omega⟩, ⟨by show (0 : Int) ≤ 0; omega, by show (0 : Int) < 4; omega⟩, i32_zero, fun _ => ⟨rfl, rfl⟩⟩
  · rcases hmem e he with h | rfl
    · exact hl.odd e h hk
    · exact absurd hk (by show ¬(3 : Int) = 1; omega)
theorem prog_take {l : List Ev} (hl : Prog l) (k : Nat) : Prog (l.take k) := ⟨by have := hl.few; rw [List.length_take]; omega, fun e he => hl.ok e (List.mem_of_mem_take he), fun e he => hl.odd e (List.mem_of_mem_take he)⟩
theorem evCells_app (l m : List Ev) : evCells (l ++ m) = evCells l ++ evCells m := by simp [evCells]
theorem evCells_drop (l : List Ev) (k : Nat) : evCells (l.drop k) = (evCells l).drop (k * 4) := by
  induction l generalizing k with
  | nil => simp [evCells]
  | cons x l ih =>
    cases k with
    | zero => simp [evCells]
    | succ k =>
      have h : ∀ l : List Ev, evCells (x :: l) = .int .i64 x.h :: .int .i64 x.k :: .int .i64 x.a :: .int .i64 x.n :: evCells l := fun _ => rfl
      rw [List.drop_succ_cons, h, ih, show (k + 1) * 4 = k * 4 + 1 + 1 + 1 + 1 by omega]
      rfl
theorem evs_one (l : List Ev) : ∀ u ∈ evCells l, u.oneCell' = true := evCells_one l

theorem rd_drop {w : World} {g n k c : Nat} {l : List Ev} (h : IsEvs w (some ⟨g, 0, none⟩) n c l) (hk : k ≤ n) : Rd w 4 (if c = k then some ⟨g, 0, none⟩ else some ⟨g, k * 4, none⟩) (n - k) (evCells (l.drop k)) := by
  refine ⟨by rw [evCells_len, List.length_drop, h.len], fun hp => ?_⟩
  have hc := h.cap
  rw [if_neg (by omega)]
  obtain ⟨b, off, k1, k2, k3⟩ := h.row.rd.2 (by omega)
  injection k1 with k1
  injection k1 with k1 k4
  subst k1 k4
  refine ⟨_, k * 4, rfl, k2, fun j u hu => ?_⟩
  rw [evCells_drop, List.getElem?_drop] at hu
  have := k3 (k * 4 + j) u hu
  rwa [Nat.zero_add] at this
theorem rd_drop0 {w : World} {n k c : Nat} {l : List Ev} (h : IsEvs w none n c l) (hk : k ≤ n) : Rd w 4 none (n - k) (evCells (l.drop k)) := by
  refine ⟨by rw [evCells_len, List.length_drop, h.len], fun hp => ?_⟩
  obtain ⟨b, off, k1, _⟩ := h.row.rd.2 (by omega)
  cases k1

set_option maxHeartbeats 16000000 in
set_option maxRecDepth 100000 in
theorem fewer8_any (A : Option Addr) (n c : Nat) (L : List R4) (whr hart : Int) (w : World) (h : IsRaw w A n L) (hn : n ≤ 9223372036854775807) (hw1 : -9223372036854775808 ≤ whr) (hw2 : whr ≤ 9223372036854775807) (hh1 : -9223372036854775808 ≤ hart) (hh2 : hart ≤ 9223372036854775807) (hG : Glob w) :
    Calls Tryz.prog 8 #[.slice A n c, .int .i64 whr, .int .i64 hart] w fun o w' => o = .returned (.bool true) ∧ Below w.heap.size w w' := by
  obtain ⟨i0, hi, hz0, hz1, hz2⟩ := info_parts ev_info
  have HR := Lib.hid h
  have HG := Lib.hid hG
  have HAw := Lib.hid (awake_any w hG)
  have HNn := Lib.hid hn
  have HPk := Lib.hid (fun (wx : World) => pick24_any hart 4 wx (by omega) hh1 hh2)
  obtain ⟨H, hH⟩ : ∃ H, H = pk hart 4 := ⟨_, rfl⟩
  rw [← hH] at HPk
  have HHb := Lib.hid (show 0 ≤ H ∧ H < 4 from by rw [hH]; exact ⟨pk_lo _ _ (by omega), pk_hi _ _ (by omega)⟩)
  clear h hG hH
  go_enter Tryz.func8, Tryz.ntmps8
  go_wp2_with fail
  refine HAw.out.mono ?_
  rintro o w1 ⟨rfl, hb1⟩
  have HB1 := Lib.hid hb1
  have HF := Lib.hid (fit11_any A n c L w1 (HR.out.below hb1) HNn.out)
  have HG1 := Lib.hid (HG.out.below hb1)
  clear hb1
  go_wp2_with fail
  refine HF.out.mono ?_
  rintro o w2 ⟨⟨A2, c2, rfl, hown2, hc2⟩, hb2⟩
  obtain ⟨m, hm⟩ : ∃ m, m = (fitL L).length := ⟨_, rfl⟩
  obtain ⟨n4, hn4⟩ : ∃ q, q = min m 4 := ⟨_, rfl⟩
  obtain ⟨pl, hl⟩ : ∃ l, l = (fitL L).take n4 := ⟨_, rfl⟩
  have hll : pl.length = n4 := by rw [hl, List.length_take]; omega
  have HP := Lib.hid (show Prog pl from hl ▸ prog_take (fitL_prog L) _)
  have h44 : n4 ≤ 4 := by omega
  have hnm : n4 ≤ m := by omega
  rw [← hm] at hown2 hc2 ⊢
  have HE := Lib.hid (show IsEvs w2 A2 n4 c2 pl from ⟨hll, by omega, by
    have h1 := Row.of_own hown2
    have hms := Nat.mul_le_mul_right 4 hnm
    refine ⟨by rw [evCells_len, hll], fun hp => ?_⟩
    obtain ⟨b, off, cur, fz, k1, k2, k3⟩ := h1.2 (by omega)
    refine ⟨b, off, cur, fz, k1, k2, fun j u hu => k3 j u ?_⟩
    rw [hl, evCells_take, List.getElem?_take] at hu
    split at hu
    · exact hu
    · cases hu⟩)
  have HW2 := Lib.hid (bT HB1.out hb2)
  have HG2 := Lib.hid (HG1.out.below hb2)
  have HLl := Lib.hid hll
  have HC2 := Lib.hid (And.intro hnm hc2)
  have HKw := Lib.hid (pick24_any whr ((n4 : Int) + 1) w2 (by omega) hw1 hw2)
  have HKb := Lib.hid (show 0 ≤ pk whr ((n4 : Int) + 1) ∧ pk whr ((n4 : Int) + 1) < (n4 : Int) + 1 from ⟨pk_lo _ _ (by omega), pk_hi _ _ (by omega)⟩)
  -- the cut, for a list without anything and for any other
  have hmin : (min (m : Int) 4) = (n4 : Int) := by omega
  have hA2 : A2 = none ∨ ∃ g, A2 = some ⟨g, 0, none⟩ := by
    rcases own_forms hown2 with ⟨h1, _⟩ | ⟨g, _, h1, _⟩
    · injection h1 with h1 _ _
      exact .inl h1
    · injection h1 with h1 _ _
      exact .inr ⟨g, h1⟩
  clear hm hn4 hl hll hown2 hb2
  have hwr : IntKind.i64.wrap ((n4 : Int) + 1) = (n4 : Int) + 1 := IntWalk.i64_in _ (by omega)
  have hs1 : (n4 : Int) ≤ (c2 : Int) := by omega
  have hs0 : (0 : Int) ≤ (n4 : Int) := by omega
  obtain ⟨k, hk⟩ : ∃ k : Nat, (k : Int) = pk whr ((n4 : Int) + 1) := ⟨(pk whr ((n4 : Int) + 1)).toNat, by have := HKb.out; omega⟩
  have hkn : k ≤ n4 := by have := HKb.out; omega
  rw [← hk] at HKw
  clear hk HKb
  go_wp2_with fail
  refine HKw.out.mono ?_
  rintro o w3 ⟨rfl, rfl⟩
  obtain ⟨wB, rfl⟩ : ∃ x, x = w2 := ⟨w2, rfl⟩
  have hk0 : (0 : Int) ≤ (k : Int) := by omega
  have hkc : (k : Int) ≤ (c2 : Int) := by omega
  have hkn' : (k : Int) ≤ (n4 : Int) := by omega
  have hkN := Lib.hid hkn
  go_upto_region 5 with fail
  clear hs1 hs0 hmin hwr
  have HTk := Lib.hid (show Rd wB 4 A2 k (evCells (pl.take k)) from by
    have hkn := hkN.out
    refine ⟨by rw [evCells_len, List.length_take, HLl.out]; omega, fun hp => ?_⟩
    obtain ⟨b, off, k1, k2, k3⟩ := HE.out.row.rd.2 (by omega)
    refine ⟨b, off, k1, k2, fun j u hu => k3 j u ?_⟩
    rw [evCells_take, List.getElem?_take] at hu
    split at hu
    · exact hu
    · cases hu)
  refine wp_region_det (by kernel_rfl) (fun f => (⟨#[Value.slice A n c, .int .i64 whr, .int .i64 hart, undef, undef, undef, Value.bool false, Value.bool true, Value.slice A2 n4 c2, .int .i64 (k : Int), f 13, undef, undef, undef, undef, undef, Value.bool true, Value.slice A n c, Value.slice A2 m c2, Value.slice A2 m c2, Value.slice A2 m c2, .int .i64 (m : Int), .int .i64 (n4 : Int), Value.slice A2 n4 c2, .int .i64 whr, Value.slice A2 n4 c2, .int .i64 (n4 : Int), .int .i64 ((n4 : Int) + 1), .int .i64 (k : Int), f 0, f 1, f 2, f 3, f 4, f 5, f 6, f 7, f 8, f 9, f 10, f 11, f 12, undef, undef, undef, undef, undef, undef, undef, undef, undef, undef, undef, undef, undef, undef, undef, undef, undef, undef, undef, undef, undef, undef, undef, undef, undef, undef, undef, undef, undef, undef, undef, undef, undef, undef, undef, undef, undef, undef, undef, undef, undef, undef, undef, undef, undef], []⟩ : Act)) (fun (iv : Nat) (lv : Nat → Bool) (fv : Nat → Value) (wx : World) => match iv with | 0 => fv 0 = .slice A2 n4 c2 | 1 => fv 1 = .int .i64 k | 2 => fv 2 = .slice A2 k c2 | 3 => ((lv 8) = false → (lv 12) = false → wx.ownsRow wB.heap.size 44 4 (fv 3) k (evCells (pl.take k))) | 4 => fv 4 = .int .i64 hart | 5 => fv 5 = .int .i64 H | 6 => fv 6 = .agg #[.int .i64 H, .int .i64 3, .int .i64 0, .int .i64 0] | 7 => ∃ b, (fv 7) = .slice (some ⟨b, 0, none⟩) 1 1 ∧ ((lv 8) = false → (lv 12) = false → wx.heap[b]? = some (.cells #[.int .i64 H, .int .i64 3, .int .i64 0, .int .i64 0] 44)) | 8 => ((lv 12) = false → wx.ownsRow wB.heap.size 44 4 (fv 8) (k + 1) (evCells (pl.take k ++ [⟨H, 3, 0, 0⟩]))) | 9 => fv 9 = .slice A2 n4 c2 | 10 => fv 10 = .int .i64 k | 11 => ∃ A3 c3, (fv 11) = .slice A3 (n4 - k) c3 ∧ Rd wB 4 A3 (n4 - k) (evCells (pl.drop k)) | 12 => wx.ownsRow wB.heap.size 44 4 (fv 12) (k + 1 + (n4 - k)) (evCells (pl.take k ++ [⟨H, 3, 0, 0⟩] ++ pl.drop k)) | 13 => (fv 13) = (fv 12) | _ => True) (fun (_ : Nat → Bool) (wx : World) => Below wB.heap.size wB wx) (fun (iv : Nat) (w1 : World) (w2 : World) => (iv = 8 ∨ iv = 12 ∨ Below w1.heap.size w1 w2)) (by kernel_rfl) (fun k => match k with | _ => undef) rfl ?keep (bD (bR wB)) ?steps ?fin
  case keep =>
    intro iv j hij hd l f f' w1 w2 hf hR
    match j with
    | 0 => exact fun h => (hf 0 (Ne.symm hij)).trans h
    | 1 => exact fun h => (hf 1 (Ne.symm hij)).trans h
    | 2 => exact fun h => (hf 2 (Ne.symm hij)).trans h
    | 3 =>
      intro h
      have h : ((l 8) = false → (l 12) = false → w1.ownsRow wB.heap.size 44 4 (f 3) k (evCells (pl.take k))) := h
      show ((decide (8 = iv) || l 8) = false → (decide (12 = iv) || l 12) = false → w2.ownsRow wB.heap.size 44 4 (f' 3) k (evCells (pl.take k)))
      rw [hf 3 (Ne.symm hij)]
      exact fun g8 g12 => hR.elim (fun e => absurd g8 (by simp [e])) fun h2 => h2.elim (fun e => absurd g12 (by simp [e])) fun hb => own_tk (T := []) (h (Bool.or_eq_false_iff.1 g8).2 (Bool.or_eq_false_iff.1 g12).2) (Tk.below hb) (by simp)
    | 4 => exact fun h => (hf 4 (Ne.symm hij)).trans h
    | 5 => exact fun h => (hf 5 (Ne.symm hij)).trans h
    | 6 => exact fun h => (hf 6 (Ne.symm hij)).trans h
    | 7 =>
      intro h
      have h : ∃ b, (f 7) = .slice (some ⟨b, 0, none⟩) 1 1 ∧ ((l 8) = false → (l 12) = false → w1.heap[b]? = some (.cells #[.int .i64 H, .int .i64 3, .int .i64 0, .int .i64 0] 44)) := h
      show ∃ b, (f' 7) = .slice (some ⟨b, 0, none⟩) 1 1 ∧ ((decide (8 = iv) || l 8) = false → (decide (12 = iv) || l 12) = false → w2.heap[b]? = some (.cells #[.int .i64 H, .int .i64 3, .int .i64 0, .int .i64 0] 44))
      rw [hf 7 (Ne.symm hij)]
      exact h.imp fun b h => ⟨h.1, fun g8 g12 => hR.elim (fun e => absurd g8 (by simp [e])) fun h2 => h2.elim (fun e => absurd g12 (by simp [e])) fun hb => blk_below hb (h.2 (Bool.or_eq_false_iff.1 g8).2 (Bool.or_eq_false_iff.1 g12).2)⟩
    | 8 =>
      intro h
      have h : ((l 12) = false → w1.ownsRow wB.heap.size 44 4 (f 8) (k + 1) (evCells (pl.take k ++ [⟨H, 3, 0, 0⟩]))) := h
      show ((decide (12 = iv) || l 12) = false → w2.ownsRow wB.heap.size 44 4 (f' 8) (k + 1) (evCells (pl.take k ++ [⟨H, 3, 0, 0⟩])))
      rw [hf 8 (Ne.symm hij)]
      exact fun g12 => hR.elim (fun e => absurd e hij) fun h2 => h2.elim (fun e => absurd g12 (by simp [e])) fun hb => own_tk (T := []) (h (Bool.or_eq_false_iff.1 g12).2) (Tk.below hb) (by simp)
    | 9 => exact fun h => (hf 9 (Ne.symm hij)).trans h
    | 10 => exact fun h => (hf 10 (Ne.symm hij)).trans h
    | 11 =>
      intro h
      have h : ∃ A3 c3, (f 11) = .slice A3 (n4 - k) c3 ∧ Rd wB 4 A3 (n4 - k) (evCells (pl.drop k)) := h
      show ∃ A3 c3, (f' 11) = .slice A3 (n4 - k) c3 ∧ Rd wB 4 A3 (n4 - k) (evCells (pl.drop k))
      rw [hf 11 (Ne.symm hij)]
      exact h
    | 12 =>
      intro h
      have h : w1.ownsRow wB.heap.size 44 4 (f 12) (k + 1 + (n4 - k)) (evCells (pl.take k ++ [⟨H, 3, 0, 0⟩] ++ pl.drop k)) := h
      show w2.ownsRow wB.heap.size 44 4 (f' 12) (k + 1 + (n4 - k)) (evCells (pl.take k ++ [⟨H, 3, 0, 0⟩] ++ pl.drop k))
      rw [hf 12 (Ne.symm hij)]
      exact hR.elim (fun e => absurd (by rw [e]; exact of_decide_eq_true (by kernel_rfl)) hd) fun h2 => h2.elim (fun e => absurd e hij) fun hb => own_tk (T := []) h (Tk.below hb) (by simp)
    | 13 =>
      intro h
      have h : (f 13) = (f 12) := h
      show (f' 13) = (f' 12)
      rw [hf 13 (Ne.symm hij), hf 12 (fun e => hd (e ▸ of_decide_eq_true (by kernel_rfl)))]
      exact h
    | _ + 14 => exact id
  case steps =>
    refine fun iv hiv => stepsOf_at (k := 0) (n := 14) ?_ iv (Nat.zero_le _) (by rw [Nat.zero_add]; exact hiv)
    refine stepsOf_cons (k := 0) (n := 13) ?_ ?_
    · refine stepOf_run (at0) [] (by kernel_rfl) (fun _ _ => rfl) (fun f wq l hl hun hdn hS hd K' hK => ?_)
      clear hd
      have HK := Lib.hid hK
      clear hK
      have HSS := Lib.hid hS
      clear hS
      go_simp
      exact HK.out _ _ _ rfl rfl HSS.out (.inr (.inr (bR wq)))
    refine stepsOf_cons (k := 1) (n := 12) ?_ ?_
    · refine stepOf_run (atS (at0)) [] (by kernel_rfl) (fun _ _ => rfl) (fun f wq l hl hun hdn hS hd K' hK => ?_)
      clear hd
      have HK := Lib.hid hK
      clear hK
      have HSS := Lib.hid hS
      clear hS
      go_simp
      exact HK.out _ _ _ rfl rfl HSS.out (.inr (.inr (bR wq)))
    refine stepsOf_cons (k := 2) (n := 11) ?_ ?_
    · refine stepOf_run (atS (atS (at0))) [0, 1] (by kernel_rfl) (fun _ _ => rfl) (fun f wq l hl hun hdn hS hd K' hK => ?_)
      obtain ⟨e0, e1, -⟩ := hd
      have e0 : f 0 = .slice A2 n4 c2 := e0
      have e1 : f 1 = .int .i64 k := e1
      have HK := Lib.hid hK
      clear hK
      have HSS := Lib.hid hS
      clear hS
      simp only [e0, e1]
      go_simp
      exact HK.out _ _ _ (by simp only [e0, e1]; rfl) rfl HSS.out (.inr (.inr (bR wq)))
    refine stepsOf_cons (k := 3) (n := 10) ?_ ?_
    · refine stepOf_run (atS (atS (atS (at0)))) [2] (by kernel_rfl) (fun _ _ => rfl) (fun f wq l hl hun hdn hS hd K' hK => ?_)
      obtain ⟨e2, -⟩ := hd
      have e2 : f 2 = .slice A2 k c2 := e2
      have HK := Lib.hid hK
      clear hK
      have hkn := hkN.out
      rw [if_pos (by rfl)]
      refine wp_append_rd _ _ _ 22 rfl wB.heap.size 44 i0 _ 4 32 Tryz.underlying22 hi hz0 hz1 hz2 rfl (by decide) (.slice none 0 0) 0 [] rfl (World.ownsRow_nil _ _ _ _) A2 k c2 (evCells (pl.take k)) (by simp only [e2]; rfl) (HTk.out.below hS) (evs_one _) (by unfold maxLen; omega) (by omega) hS.size ?_
      intro v9 w9 hown9 hg9
      rw [Nat.zero_add] at hown9
      have hb9 : Below wq.heap.size wq w9 := (bR wq).grown hg9 (Nat.le_refl _) (fun r e => by cases e)
      exact HK.out _ _ _ (by first | rfl | (simp only [e2]; rfl)) (fun _ _ => hown9) (bT hS hb9) (.inr (.inr hb9))
    refine stepsOf_cons (k := 4) (n := 9) ?_ ?_
    · refine stepOf_run (atS (atS (atS (atS (at0))))) [] (by kernel_rfl) (fun _ _ => rfl) (fun f wq l hl hun hdn hS hd K' hK => ?_)
      clear hd
      have HK := Lib.hid hK
      clear hK
      have HSS := Lib.hid hS
      clear hS
      go_simp
      exact HK.out _ _ _ rfl rfl HSS.out (.inr (.inr (bR wq)))
    refine stepsOf_cons (k := 5) (n := 8) ?_ ?_
    · refine stepOf_run (atS (atS (atS (atS (atS (at0)))))) [3, 4] (by kernel_rfl) (fun _ _ => rfl) (fun f wq l hl hun hdn hS hd K' hK => ?_)
      obtain ⟨e3, e4, -⟩ := hd
      have e3 : ((l 8) = false → (l 12) = false → wq.ownsRow wB.heap.size 44 4 (f 3) k (evCells (pl.take k))) := e3
      have e4 : f 4 = .int .i64 hart := e4
      have HK := Lib.hid hK
      clear hK
      have HSS := Lib.hid hS
      clear hS
      simp only [e4]
      have HCz := Lib.hid (HPk.out wq)
      go_simp
      go_wp2_with fail
      refine HCz.out.mono ?_
      rintro e w9 ⟨rfl, rfl⟩
      exact HK.out _ _ _ (by simp only [e4]; rfl) rfl HSS.out (.inr (.inr (bR wq)))
    refine stepsOf_cons (k := 6) (n := 7) ?_ ?_
    · refine stepOf_run (atS (atS (atS (atS (atS (atS (at0))))))) [5] (by kernel_rfl) (fun _ _ => rfl) (fun f wq l hl hun hdn hS hd K' hK => ?_)
      obtain ⟨e5, -⟩ := hd
      have e5 : f 5 = .int .i64 H := e5
      have HK := Lib.hid hK
      clear hK
      have HSS := Lib.hid hS
      clear hS
      simp only [e5]
      go_simp
      exact HK.out _ _ _ (by simp only [e5]; rfl) rfl HSS.out (.inr (.inr (bR wq)))
    refine stepsOf_cons (k := 7) (n := 6) ?_ ?_
    · refine stepOf_run (atS (atS (atS (atS (atS (atS (atS (at0)))))))) [6] (by kernel_rfl) (fun _ _ => rfl) (fun f wq l hl hun hdn hS hd K' hK => ?_)
      obtain ⟨e6, -⟩ := hd
      have e6 : f 6 = .agg #[.int .i64 H, .int .i64 3, .int .i64 0, .int .i64 0] := e6
      have HK := Lib.hid hK
      clear hK
      have HSS := Lib.hid hS
      clear hS
      simp only [e6]
      go_simp
      exact HK.out _ _ _ (by simp only [e6]; rfl) ⟨_, rfl, fun _ _ => heap_alloc_new wq _⟩ (bA HSS.out) (.inr (.inr (bA (bR wq))))
    refine stepsOf_cons (k := 8) (n := 5) ?_ ?_
    · refine stepOf_run (atS (atS (atS (atS (atS (atS (atS (atS (at0))))))))) [3, 5, 7] (by kernel_rfl) (fun _ _ => rfl) (fun f wq l hl hun hdn hS hd K' hK => ?_)
      obtain ⟨e3, e5, e7, -⟩ := hd
      have e3 : ((l 8) = false → (l 12) = false → wq.ownsRow wB.heap.size 44 4 (f 3) k (evCells (pl.take k))) := e3
      have e5 : f 5 = .int .i64 H := e5
      have e7 : ∃ b, (f 7) = .slice (some ⟨b, 0, none⟩) 1 1 ∧ ((l 8) = false → (l 12) = false → wq.heap[b]? = some (.cells #[.int .i64 H, .int .i64 3, .int .i64 0, .int .i64 0] 44)) := e7
      have HK := Lib.hid hK
      clear hK
      have hkn := hkN.out
      have h12 := hun 12 (of_decide_eq_true (by kernel_rfl))
      have e3 := e3 hl h12
      obtain ⟨b, hv7, hg⟩ := e7
      have hg := hg hl h12
      rw [if_pos (by rfl)]
      refine wp_append_rd _ _ _ 22 rfl wB.heap.size 44 i0 _ 4 32 Tryz.underlying22 hi hz0 hz1 hz2 rfl (by decide) (f 3) k (evCells (pl.take k)) rfl e3 (some ⟨b, 0, none⟩) 1 1 [.int .i64 H, .int .i64 3, .int .i64 0, .int .i64 0] (by rw [← hv7]; rfl) ⟨rfl, fun _ => ⟨b, 0, rfl, blk_lt hg, fun j u hu => by rw [cell_of_row _ _ _ _ _ _ hg, Nat.zero_add, ← hu]; simp⟩⟩ (by simp [Value.oneCell']) (by unfold maxLen; omega) (by omega) hS.size ?_
      intro v9 w9 hown9 hg9
      have hS9 := hS.grown hg9 hS.size (fun r e => (e3.lt r e).1)
      have hown9 : w9.ownsRow wB.heap.size 44 4 v9 (k + 1) (evCells (pl.take k ++ [⟨H, 3, 0, 0⟩])) := by rw [evCells_app]; exact hown9
      exact HK.out _ _ _ (by first | rfl | (simp only [e5]; rfl)) (fun _ => hown9) hS9 (.inl rfl)
    refine stepsOf_cons (k := 9) (n := 4) ?_ ?_
    · refine stepOf_run (atS (atS (atS (atS (atS (atS (atS (atS (atS (at0)))))))))) [] (by kernel_rfl) (fun _ _ => rfl) (fun f wq l hl hun hdn hS hd K' hK => ?_)
      clear hd
      have HK := Lib.hid hK
      clear hK
      have HSS := Lib.hid hS
      clear hS
      go_simp
      exact HK.out _ _ _ rfl rfl HSS.out (.inr (.inr (bR wq)))
    refine stepsOf_cons (k := 10) (n := 3) ?_ ?_
    · refine stepOf_run (atS (atS (atS (atS (atS (atS (atS (atS (atS (atS (at0))))))))))) [] (by kernel_rfl) (fun _ _ => rfl) (fun f wq l hl hun hdn hS hd K' hK => ?_)
      clear hd
      have HK := Lib.hid hK
      clear hK
      have HSS := Lib.hid hS
      clear hS
      go_simp
      exact HK.out _ _ _ rfl rfl HSS.out (.inr (.inr (bR wq)))
    refine stepsOf_cons (k := 11) (n := 2) ?_ ?_
    · refine stepOf_run (atS (atS (atS (atS (atS (atS (atS (atS (atS (atS (atS (at0)))))))))))) [9, 10] (by kernel_rfl) (fun _ _ => rfl) (fun f wq l hl hun hdn hS hd K' hK => ?_)
      obtain ⟨e9, e10, -⟩ := hd
      have e9 : f 9 = .slice A2 n4 c2 := e9
      have e10 : f 10 = .int .i64 k := e10
      have HK := Lib.hid hK
      clear hK
      have hkn := hkN.out
      obtain ⟨e9q, e10q⟩ : f 9 = .slice A2 n4 c2 ∧ f 10 = .int .i64 k := ⟨e9, e10⟩
      have HSS := Lib.hid hS
      clear hS
      simp only [e9q, e10q]
      rcases hA2 with rfl | ⟨g, rfl⟩
      · go_simp
        exact HK.out (.slice none (n4 - k) (c2 - k)) _ _ (by simp only [e9q, e10q]; rfl) ⟨_, _, rfl, rd_drop0 HE.out hkn⟩ HSS.out (.inr (.inr (bR wq)))
      · go_simp
        exact HK.out (.slice (if c2 = k then some ⟨g, 0, none⟩ else some ⟨g, k * 4, none⟩) (n4 - k) (c2 - k)) _ _ (by simp only [e9q, e10q]; rfl) ⟨_, _, rfl, rd_drop HE.out hkn⟩ HSS.out (.inr (.inr (bR wq)))
    refine stepsOf_cons (k := 12) (n := 1) ?_ ?_
    · refine stepOf_run (atS (atS (atS (atS (atS (atS (atS (atS (atS (atS (atS (atS (at0))))))))))))) [8, 11] (by kernel_rfl) (fun _ _ => rfl) (fun f wq l hl hun hdn hS hd K' hK => ?_)
      obtain ⟨e8, e11, -⟩ := hd
      have e8 : ((l 12) = false → wq.ownsRow wB.heap.size 44 4 (f 8) (k + 1) (evCells (pl.take k ++ [⟨H, 3, 0, 0⟩]))) := e8
      have e11 : ∃ A3 c3, (f 11) = .slice A3 (n4 - k) c3 ∧ Rd wB 4 A3 (n4 - k) (evCells (pl.drop k)) := e11
      have HK := Lib.hid hK
      clear hK
      have hkn := hkN.out
      have e8 := e8 hl
      obtain ⟨A3, c3, hv11, hrd⟩ := e11
      rw [if_pos (by rfl)]
      refine wp_append_rd _ _ _ 22 rfl wB.heap.size 44 i0 _ 4 32 Tryz.underlying22 hi hz0 hz1 hz2 rfl (by decide) (f 8) (k + 1) (evCells (pl.take k ++ [⟨H, 3, 0, 0⟩])) rfl e8 A3 (n4 - k) c3 (evCells (pl.drop k)) (by rw [← hv11]; rfl) (hrd.below hS) (evs_one _) (by unfold maxLen; omega) (by omega) hS.size ?_
      intro v9 w9 hown9 hg9
      have hS9 := hS.grown hg9 hS.size (fun r e => (e8.lt r e).1)
      have hown9 : w9.ownsRow wB.heap.size 44 4 v9 (k + 1 + (n4 - k)) (evCells (pl.take k ++ [⟨H, 3, 0, 0⟩] ++ pl.drop k)) := by rw [evCells_app]; exact hown9
      exact HK.out _ _ _ rfl hown9 hS9 (.inr (.inl rfl))
    refine stepsOf_cons (k := 13) (n := 0) ?_ ?_
    · refine stepOf_run (atS (atS (atS (atS (atS (atS (atS (atS (atS (atS (atS (atS (atS (at0)))))))))))))) [0, 1, 2, 3, 4, 5, 6, 7, 8, 9, 10, 11, 12] (by kernel_rfl) (fun _ _ => rfl) (fun f wq l hl hun hdn hS hd K' hK => ?_)
      obtain ⟨e0, e1, e2, e3, e4, e5, e6, e7, e8, e9, e10, e11, e12, -⟩ := hd
      have e0 : f 0 = .slice A2 n4 c2 := e0
      have e1 : f 1 = .int .i64 k := e1
      have e2 : f 2 = .slice A2 k c2 := e2
      have e3 : ((l 8) = false → (l 12) = false → wq.ownsRow wB.heap.size 44 4 (f 3) k (evCells (pl.take k))) := e3
      have e4 : f 4 = .int .i64 hart := e4
      have e5 : f 5 = .int .i64 H := e5
      have e6 : f 6 = .agg #[.int .i64 H, .int .i64 3, .int .i64 0, .int .i64 0] := e6
      have e7 : ∃ b, (f 7) = .slice (some ⟨b, 0, none⟩) 1 1 ∧ ((l 8) = false → (l 12) = false → wq.heap[b]? = some (.cells #[.int .i64 H, .int .i64 3, .int .i64 0, .int .i64 0] 44)) := e7
      have e8 : ((l 12) = false → wq.ownsRow wB.heap.size 44 4 (f 8) (k + 1) (evCells (pl.take k ++ [⟨H, 3, 0, 0⟩]))) := e8
      have e9 : f 9 = .slice A2 n4 c2 := e9
      have e10 : f 10 = .int .i64 k := e10
      have e11 : ∃ A3 c3, (f 11) = .slice A3 (n4 - k) c3 ∧ Rd wB 4 A3 (n4 - k) (evCells (pl.drop k)) := e11
      have e12 : wq.ownsRow wB.heap.size 44 4 (f 12) (k + 1 + (n4 - k)) (evCells (pl.take k ++ [⟨H, 3, 0, 0⟩] ++ pl.drop k)) := e12
      have HK := Lib.hid hK
      clear hK
      have HSS := Lib.hid hS
      clear hS
      clear e3 e7 e8 e11 e12
      simp only [e0, e1, e2, e4, e5, e6, e9, e10]
      go_simp
      exact HK.out _ _ _ (by simp only [e0, e1, e2, e4, e5, e6, e9, e10]; rfl) rfl HSS.out (.inr (.inr (bR wq)))
    exact trivial
  case fin =>
    intro fo wz lo hl hall hS
    have a0 : fo 0 = .slice A2 n4 c2 := hall 0 (by decide)
    have a1 : fo 1 = .int .i64 k := hall 1 (by decide)
    have a2 : fo 2 = .slice A2 k c2 := hall 2 (by decide)
    have a3 : ((lo 8) = false → (lo 12) = false → wz.ownsRow wB.heap.size 44 4 (fo 3) k (evCells (pl.take k))) := hall 3 (by decide)
    have a4 : fo 4 = .int .i64 hart := hall 4 (by decide)
    have a5 : fo 5 = .int .i64 H := hall 5 (by decide)
    have a6 : fo 6 = .agg #[.int .i64 H, .int .i64 3, .int .i64 0, .int .i64 0] := hall 6 (by decide)
    have a7 : ∃ b, (fo 7) = .slice (some ⟨b, 0, none⟩) 1 1 ∧ ((lo 8) = false → (lo 12) = false → wz.heap[b]? = some (.cells #[.int .i64 H, .int .i64 3, .int .i64 0, .int .i64 0] 44)) := hall 7 (by decide)
    have a8 : ((lo 12) = false → wz.ownsRow wB.heap.size 44 4 (fo 8) (k + 1) (evCells (pl.take k ++ [⟨H, 3, 0, 0⟩]))) := hall 8 (by decide)
    have a9 : fo 9 = .slice A2 n4 c2 := hall 9 (by decide)
    have a10 : fo 10 = .int .i64 k := hall 10 (by decide)
    have a11 : ∃ A3 c3, (fo 11) = .slice A3 (n4 - k) c3 ∧ Rd wB 4 A3 (n4 - k) (evCells (pl.drop k)) := hall 11 (by decide)
    have a12 : wz.ownsRow wB.heap.size 44 4 (fo 12) (k + 1 + (n4 - k)) (evCells (pl.take k ++ [⟨H, 3, 0, 0⟩] ++ pl.drop k)) := hall 12 (by decide)
    have a13 : (fo 13) = (fo 12) := hall 13 (by decide)
    clear hall
    clear a0 a1 a2 a3 a4 a5 a6 a7 a8 a9 a10 a11 hl
    obtain ⟨wE, rfl⟩ : ∃ x, x = wz := ⟨wz, rfl⟩
    obtain ⟨n5, hn5⟩ : ∃ q, q = k + 1 + (n4 - k) := ⟨_, rfl⟩
    have hn54 : n5 = n4 + 1 := by have := hkN.out; omega
    obtain ⟨ml, hml⟩ : ∃ q, q = insF pl k H := ⟨_, rfl⟩
    rw [← hn5, show pl.take k ++ [⟨H, 3, 0, 0⟩] ++ pl.drop k = ml from by rw [hml]; unfold insF; simp] at a12
    obtain ⟨A9, c9, hv12, hc9, _⟩ := own_slice a12
    rw [hv12] at a13
    simp only [a13, hv12]
    rw [hv12] at a12
    have HEm := Lib.hid (show IsEvs wE A9 n5 c9 ml from ⟨by rw [hml, hn54]; unfold insF; have := hkN.out; have := HLl.out; simp; omega, hc9, Row.of_own a12⟩)
    have HPm := Lib.hid (show Prog ml from by rw [hml]; exact insF_prog HHb.out HP.out (by have := HLl.out; omega))
    have HEl := Lib.hid (HE.out.sees (Below.sees hS))
    have HGE := Lib.hid (HG2.out.below hS)
    have HBE := Lib.hid (bT HW2.out hS)
    have HSub := Lib.hid (show ∀ z, (∃ xs, playP ml xs = some z) → ∃ xs, playP pl xs = some z from fun z hz => by
      have h1 := fewer_out HPm.out (by rw [hml]; exact insF_at (by rw [HLl.out]; exact hkN.out) H) rfl hz
      rw [hml, insF_erase (by rw [HLl.out]; exact hkN.out)] at h1
      exact h1)
    have HQ1 := Lib.hid (plays_any A2 n4 c2 pl wE HEl.out HP.out HGE.out)
    clear a12 a13 hv12 hc9 hml hn5 hn54 hS
    go_wp2_with fail
    refine HQ1.out.mono ?_
    rintro o w5 ⟨⟨v5, R1, rfl, hs5, hr5, hm5⟩, hb5⟩
    obtain ⟨A5, c5, rfl⟩ : ∃ A c, v5 = .slice A R1.length c := by
      obtain ⟨cs, h1, _⟩ := hs5
      obtain ⟨A5, c5, h, _⟩ := own_slice h1
      exact ⟨A5, c5, h⟩
    have hN1 : R1.length ≤ 9223372036854775807 := by
      obtain ⟨cs, h1, _⟩ := hs5
      obtain ⟨_, _, _, h5, h6⟩ := own_slice h1
      unfold maxLen at h6
      omega
    obtain ⟨N1, hN1e⟩ : ∃ q, q = R1.length := ⟨_, rfl⟩
    have HR1 := Lib.hid (RR.of_ss hs5 (fun z hz => by
      obtain ⟨xs, hp⟩ := (hm5 z).1 hz
      have h5 := playP_len hp
      have h6 := HP.out.few
      omega))
    rw [← hN1e] at HR1 hN1 ⊢
    have HM1 := Lib.hid hm5
    have HL1 := Lib.hid hN1e
    have HB5 := Lib.hid hb5
    have HQ2 := Lib.hid (plays_any A9 n5 c9 ml w5 (HEm.out.sees (Below.sees hb5)) HPm.out (HGE.out.below hb5))
    clear hs5 hr5 hm5 hb5 hN1e
    go_wp2_with fail
    refine HQ2.out.mono ?_
    rintro o w6 ⟨⟨v6, R2, rfl, hs6, hr6, hm6⟩, hb6⟩
    obtain ⟨A6, c6, rfl⟩ : ∃ A c, v6 = .slice A R2.length c := by
      obtain ⟨cs, h1, _⟩ := hs6
      obtain ⟨A6, c6, h, _⟩ := own_slice h1
      exact ⟨A6, c6, h⟩
    have HIn := Lib.hid (show ∀ z ∈ R2, z ∈ R1 from fun z hz => (HM1.out z).2 (HSub.out z ((hm6 z).1 hz)))
    have hlen : R2.length ≤ N1 := by
      rw [HL1.out]
      exact nodup_len (rising_nodup hr6) HIn.out
    have hpos : 0 < R2.length := by
      obtain ⟨xs, z, hp⟩ := some_outcome HPm.out
      exact List.length_pos_of_mem ((hm6 z).2 ⟨xs, hp⟩)
    obtain ⟨N2, hN2e⟩ : ∃ q, q = R2.length := ⟨_, rfl⟩
    have HR2 := Lib.hid (RR.of_ss hs6 (fun z hz => by
      obtain ⟨xs, hp⟩ := (hm6 z).1 hz
      have h5 := playP_len hp
      have h6 := HPm.out.few
      omega))
    rw [← hN2e] at HR2 hlen hpos ⊢
    have HL2 := Lib.hid hN2e
    have HR1' := Lib.hid (HR1.out.below hb6)
    have HB6 := Lib.hid (bT HBE.out (bT HB5.out hb6))
    clear hs6 hr6 hm6 hb6 hN2e
    go_wp2_with fail
    go_loopw [13, 14, 15] (fun vi vh vj wr => ∃ i : Nat, i ≤ N2 ∧ vi = .int .i64 i ∧ Below w6.heap.size w6 wr) (fun vi _ _ _ => N2 - (intOf vi).toNat)
    case atStart => exact ⟨0, by omega, rfl, bR w6⟩
    case round =>
      obtain ⟨i, hi, rfl, hbw⟩ := hrel
      obtain ⟨wo, rfl⟩ : ∃ x, x = wr := ⟨wr, rfl⟩
      have HBW := Lib.hid hbw
      clear hbw
      by_cases hlt : i < N2
      · have hlb : decide ((i : Int) < (N2 : Int)) = true := by simp; omega
        obtain ⟨zb, hzb⟩ : ∃ z, R2[i]? = some z := ⟨_, List.getElem?_eq_getElem (by have := HL2.out; omega)⟩
        have HZb := Lib.hid hzb
        have HZin := Lib.hid (HIn.out zb (List.mem_of_getElem? hzb))
        clear hzb
        go_wp2_with fail
        go_loopw [14, 15] (fun vh vj wq => ∃ j : Nat, j ≤ N1 ∧ vj = .int .i64 j ∧ vh = .bool (decide (zb ∈ R1.take j)) ∧ Below wo.heap.size wo wq) (fun _ vj _ => N1 - (intOf vj).toNat)
        case atStart => exact ⟨0, by omega, rfl, by simp, bR wo⟩
        case round =>
          obtain ⟨j, hj, rfl, rfl, hbq⟩ := hrel
          obtain ⟨wi, rfl⟩ : ∃ x, x = wr := ⟨wr, rfl⟩
          have HBQ := Lib.hid hbq
          clear hbq
          by_cases hjt : j < N1
          · have hjb : decide ((j : Int) < (N1 : Int)) = true := by simp; omega
            have hiN : (i : Int) < (N2 : Int) := by omega
            have hjN : (j : Int) < (N1 : Int) := by omega
            have hi0 : decide ((i : Int) < 0) = false := by simp
            have hj0 : decide ((j : Int) < 0) = false := by simp
            obtain ⟨g1, o1, za, B1, d1, hA1, hz1, hc1, hr1, hl1⟩ := ((HR1'.out.below HBW.out).below HBQ.out).at2 hjt
            obtain ⟨g2, o2, zb', B2, d2, hA2', hz2, hc2, hr2, hl2⟩ := ((HR2.out.below HBW.out).below HBQ.out).at2 hlt
            obtain rfl : zb' = zb := Option.some.inj (hz2.symm.trans HZb.out)
            have HTk1 := Lib.hid (show decide (zb' ∈ R1.take (j + 1)) = (decide (zb' ∈ R1.take j) || decide (za = zb')) from by
              rw [List.take_add_one, hz1]
              simp [List.mem_append, eq_comm])
            by_cases hmem : zb' ∈ R1.take j
            · have hmb : decide (zb' ∈ R1.take j) = true := by simpa using hmem
              rw [hmb] at HTk1
              have HT2 := Lib.hid (HTk1.out.trans (Bool.true_or _))
              simp only [hmb]
              clear hmem hmb hz1 hz2 hr1 hr2 hl1 hl2 hc1 hc2 hA1 hA2'
              go_upto_region 15 with fail
              go_quiet (fail)
              obtain ⟨WE, hWE⟩ : ∃ X, X = wi.drewN nq := ⟨_, rfl⟩
              rw [← hWE]
              have HBE2 := Lib.hid (show Below wi.heap.size wi WE from hWE ▸ bN (bR wi))
              clear hWE
              go_wp2_with fail
              go_roundw
              case rel => exact ⟨j + 1, by omega, by go_num, by rw [HT2.out], bT HBQ.out HBE2.out⟩
              case measure => simp [intOf]; omega
            · have hmb : decide (zb' ∈ R1.take j) = false := by simpa using hmem
              rw [hmb] at HTk1
              have HT2 := Lib.hid (HTk1.out.trans (Bool.false_or _))
              simp only [hmb]
              subst hA1
              subst hA2'
              obtain ⟨m1, hm1⟩ : ∃ q, q = za.length := ⟨_, rfl⟩
              obtain ⟨m2, hm2⟩ : ∃ q, q = zb'.length := ⟨_, rfl⟩
              rw [← hm1] at hc1
              rw [← hm2] at hc2
              have HC := Lib.hid (fun (wx : World) (hb : Below wi.heap.size wi wx) => And.intro ((hb.cell (cell_lt hc1)).trans hc1) ((hb.cell (cell_lt hc2)).trans hc2))
              have HRw := Lib.hid (fun (wx : World) (hb : Below wi.heap.size wi wx) => And.intro (hr1.below hb) (hr2.below hb))
              have HM12 := Lib.hid (show (m1 = za.length ∧ m2 = zb'.length) ∧ (za.length ≤ 1000000 ∧ za.length ≤ d1) ∧ (zb'.length ≤ 1000000 ∧ zb'.length ≤ d2) from ⟨⟨hm1, hm2⟩, hl1, hl2⟩)
              clear hmem hmb hz1 hz2 hr1 hr2 hl1 hl2 hc1 hc2 hm1 hm2
              go_upto_region 15 with fail
              have rr : ∀ (wx : World), Below wx.heap.size wx wx := fun wx => bR wx
              refine wp_region_detf (by kernel_rfl) (fun f => (⟨#[Value.slice A n c, .int .i64 whr, .int .i64 hart, undef, undef, undef, u6, Value.bool true, Value.slice A2 n4 c2, .int .i64 (k : Int), Value.slice A9 n5 c9, Value.slice (some ⟨g1, o1, none⟩) N1 c5, Value.slice (some ⟨g2, o2, none⟩) N2 c6, .int .i64 (i : Int), f 14, .int .i64 (j : Int), Value.bool true, Value.slice A n c, Value.slice A2 m c2, Value.slice A2 m c2, Value.slice A2 m c2, .int .i64 (m : Int), .int .i64 (n4 : Int), Value.slice A2 n4 c2, .int .i64 whr, Value.slice A2 n4 c2, .int .i64 (n4 : Int), .int .i64 ((n4 : Int) + 1), .int .i64 (k : Int), fo 0, fo 1, fo 2, fo 3, fo 4, fo 5, fo 6, fo 7, fo 8, fo 9, fo 10, fo 11, Value.slice A9 n5 c9, Value.slice A2 n4 c2, Value.slice (some ⟨g1, o1, none⟩) N1 c5, Value.slice A9 n5 c9, Value.slice (some ⟨g2, o2, none⟩) N2 c6, .int .i64 (i : Int), Value.slice (some ⟨g2, o2, none⟩) N2 c6, .int .i64 (N2 : Int), Value.bool true, u50, u51, .int .i64 (j : Int), Value.slice (some ⟨g1, o1, none⟩) N1 c5, .int .i64 (N1 : Int), Value.bool true, u56, u57, f 0, f 1, f 2, f 3, f 4, f 5, f 6, f 7, f 8, f 9, f 10, f 11, f 12, f 13, u72, u73, undef, undef, undef, undef, undef, undef, undef, undef, undef, undef, undef, undef, undef], []⟩ : Act)) (fun (iv : Nat) (lv : Nat → Bool) (fv : Nat → Value) (wx : World) => match iv with | 0 => fv 0 = .bool false | 1 => fv 1 = .bool false | 2 => fv 2 = .slice (some ⟨g1, o1, none⟩) N1 c5 | 3 => fv 3 = .int .i64 j | 4 => fv 4 = .pointer (some ⟨g1, o1 + j, none⟩) | 5 => fv 5 = .slice B1 m1 d1 | 6 => ∃ b, (fv 6) = .slice (some ⟨b, 0, none⟩) 1 1 ∧ wx.heap[b]? = some (.cells #[.slice B1 m1 d1] 32) | 7 => fv 7 = .slice (some ⟨g2, o2, none⟩) N2 c6 | 8 => fv 8 = .int .i64 i | 9 => fv 9 = .pointer (some ⟨g2, o2 + i, none⟩) | 10 => fv 10 = .slice B2 m2 d2 | 11 => ∃ b, (fv 11) = .slice (some ⟨b, 0, none⟩) 1 1 ∧ wx.heap[b]? = some (.cells #[.slice B2 m2 d2] 32) | 12 => fv 12 = .bool (decide (za = zb')) | 13 => fv 13 = .bool (decide (za = zb')) | 14 => fv 14 = .bool (decide (za = zb')) | _ => True) (fun (lv : Nat → Bool) (fv : Nat → Value) (wx : World) => (lv 14 = false → fv 14 = .bool false) ∧ Below wi.heap.size wi wx) (fun _ w1 w2 => Below w1.heap.size w1 w2) (by kernel_rfl) (fun k => match k with | 0 => u58 | 1 => u59 | 2 => u60 | 3 => u61 | 4 => u62 | 5 => u63 | 6 => u64 | 7 => u65 | 8 => u66 | 9 => u67 | 10 => u68 | 11 => u69 | 12 => u70 | 13 => u71 | 14 => Value.bool false | _ => undef) rfl ?keep ⟨fun _ => rfl, bD (bR wi)⟩ ?steps ?fin
              case keep =>
                intro iv j hij hd l f f' w1 w2 hf hR
                match j with
                | 0 => exact fun h => (hf 0 (Ne.symm hij)).trans h
                | 1 => exact fun h => (hf 1 (Ne.symm hij)).trans h
                | 2 => exact fun h => (hf 2 (Ne.symm hij)).trans h
                | 3 => exact fun h => (hf 3 (Ne.symm hij)).trans h
                | 4 => exact fun h => (hf 4 (Ne.symm hij)).trans h
                | 5 => exact fun h => (hf 5 (Ne.symm hij)).trans h
                | 6 =>
                  intro h
                  have h : ∃ b, (f 6) = .slice (some ⟨b, 0, none⟩) 1 1 ∧ w1.heap[b]? = some (.cells #[.slice B1 m1 d1] 32) := h
                  show ∃ b, (f' 6) = .slice (some ⟨b, 0, none⟩) 1 1 ∧ w2.heap[b]? = some (.cells #[.slice B1 m1 d1] 32)
                  rw [hf 6 (Ne.symm hij)]
                  exact h.imp fun b h => ⟨h.1, blk_below hR h.2⟩
                | 7 => exact fun h => (hf 7 (Ne.symm hij)).trans h
                | 8 => exact fun h => (hf 8 (Ne.symm hij)).trans h
                | 9 => exact fun h => (hf 9 (Ne.symm hij)).trans h
                | 10 => exact fun h => (hf 10 (Ne.symm hij)).trans h
                | 11 =>
                  intro h
                  have h : ∃ b, (f 11) = .slice (some ⟨b, 0, none⟩) 1 1 ∧ w1.heap[b]? = some (.cells #[.slice B2 m2 d2] 32) := h
                  show ∃ b, (f' 11) = .slice (some ⟨b, 0, none⟩) 1 1 ∧ w2.heap[b]? = some (.cells #[.slice B2 m2 d2] 32)
                  rw [hf 11 (Ne.symm hij)]
                  exact h.imp fun b h => ⟨h.1, blk_below hR h.2⟩
                | 12 => exact fun h => (hf 12 (Ne.symm hij)).trans h
                | 13 => exact fun h => (hf 13 (Ne.symm hij)).trans h
                | 14 => exact fun h => (hf 14 (Ne.symm hij)).trans h
                | _ + 15 => exact id
              case steps =>
                refine fun iv hiv => stepsOff_at (k := 0) (n := 15) ?_ iv (Nat.zero_le _) (by rw [Nat.zero_add]; exact hiv)
                refine stepsOff_cons (k := 0) (n := 14) ?_ ?_
                · refine stepOff_run (at0) [] (by kernel_rfl) (fun _ _ => rfl) (fun f wq l hl hun hdn hS hd K' hK => ?_)
                  clear hd
                  have HK := Lib.hid hK
                  clear hK
                  have e14 := hS.1 (hun 14 (of_decide_eq_true (by kernel_rfl)))
                  have HSS := Lib.hid hS
                  clear hS
                  simp only [e14]
                  go_simp
                  exact HK.out _ _ _ (by simp only [e14]; rfl) rfl ⟨fun h => HSS.out.1 (Bool.or_eq_false_iff.1 h).2, HSS.out.2⟩ (rr _)
                refine stepsOff_cons (k := 1) (n := 13) ?_ ?_
                · refine stepOff_run (atS (at0)) [0] (by kernel_rfl) (fun _ _ => rfl) (fun f wq l hl hun hdn hS hd K' hK => ?_)
                  obtain ⟨e0, -⟩ := hd
                  have e0 : f 0 = .bool false := e0
                  have HK := Lib.hid hK
                  clear hK
                  have HSS := Lib.hid hS
                  clear hS
                  simp only [e0]
                  go_simp
                  exact HK.out _ _ _ (by simp only [e0]; rfl) rfl ⟨fun h => HSS.out.1 (Bool.or_eq_false_iff.1 h).2, HSS.out.2⟩ (rr _)
                refine stepsOff_cons (k := 2) (n := 12) ?_ ?_
                · refine stepOff_run (atS (atS (at0))) [1] (by kernel_rfl) (fun _ _ => rfl) (fun f wq l hl hun hdn hS hd K' hK => ?_)
                  obtain ⟨e1, -⟩ := hd
                  have e1 : f 1 = .bool false := e1
                  have HK := Lib.hid hK
                  clear hK
                  have HSS := Lib.hid hS
                  clear hS
                  simp only [e1]
                  go_simp
                  exact HK.out _ _ _ (by simp only [e1]; rfl) rfl ⟨fun h => HSS.out.1 (Bool.or_eq_false_iff.1 h).2, HSS.out.2⟩ (rr _)
                refine stepsOff_cons (k := 3) (n := 11) ?_ ?_
                · refine stepOff_run (atS (atS (atS (at0)))) [1] (by kernel_rfl) (fun _ _ => rfl) (fun f wq l hl hun hdn hS hd K' hK => ?_)
                  obtain ⟨e1, -⟩ := hd
                  have e1 : f 1 = .bool false := e1
                  have HK := Lib.hid hK
                  clear hK
                  have HSS := Lib.hid hS
                  clear hS
                  simp only [e1]
                  go_simp
                  exact HK.out _ _ _ (by simp only [e1]; rfl) rfl ⟨fun h => HSS.out.1 (Bool.or_eq_false_iff.1 h).2, HSS.out.2⟩ (rr _)
                refine stepsOff_cons (k := 4) (n := 10) ?_ ?_
                · refine stepOff_run (atS (atS (atS (atS (at0))))) [1, 2, 3] (by kernel_rfl) (fun _ _ => rfl) (fun f wq l hl hun hdn hS hd K' hK => ?_)
                  obtain ⟨e1, e2, e3, -⟩ := hd
                  have e1 : f 1 = .bool false := e1
                  have e2 : f 2 = .slice (some ⟨g1, o1, none⟩) N1 c5 := e2
                  have e3 : f 3 = .int .i64 j := e3
                  have HK := Lib.hid hK
                  clear hK
                  have HSS := Lib.hid hS
                  clear hS
                  simp only [e1, e2, e3]
                  go_simp
                  exact HK.out _ _ _ (by simp only [e1, e2, e3]; rfl) rfl ⟨fun h => HSS.out.1 (Bool.or_eq_false_iff.1 h).2, HSS.out.2⟩ (rr _)
                refine stepsOff_cons (k := 5) (n := 9) ?_ ?_
                · refine stepOff_run (atS (atS (atS (atS (atS (at0)))))) [1, 4] (by kernel_rfl) (fun _ _ => rfl) (fun f wq l hl hun hdn hS hd K' hK => ?_)
                  obtain ⟨e1, e4, -⟩ := hd
                  have e1 : f 1 = .bool false := e1
                  have e4 : f 4 = .pointer (some ⟨g1, o1 + j, none⟩) := e4
                  have HK := Lib.hid hK
                  clear hK
                  have hc := (HC.out wq hS.2).1
                  have HSS := Lib.hid hS
                  clear hS
                  simp only [e1, e4]
                  go_simp
                  exact HK.out _ _ _ (by simp only [e1, e4]; rfl) rfl ⟨fun h => HSS.out.1 (Bool.or_eq_false_iff.1 h).2, HSS.out.2⟩ (rr _)
                refine stepsOff_cons (k := 6) (n := 8) ?_ ?_
                · refine stepOff_run (atS (atS (atS (atS (atS (atS (at0))))))) [1, 5] (by kernel_rfl) (fun _ _ => rfl) (fun f wq l hl hun hdn hS hd K' hK => ?_)
                  obtain ⟨e1, e5, -⟩ := hd
                  have e1 : f 1 = .bool false := e1
                  have e5 : f 5 = .slice B1 m1 d1 := e5
                  have HK := Lib.hid hK
                  clear hK
                  have HSS := Lib.hid hS
                  clear hS
                  simp only [e1, e5]
                  go_simp
                  exact HK.out _ _ _ (by simp only [e1, e5]; rfl) ⟨_, rfl, heap_alloc_new wq _⟩ ⟨fun h => HSS.out.1 (Bool.or_eq_false_iff.1 h).2, bA HSS.out.2⟩ (bA (bR wq))
                refine stepsOff_cons (k := 7) (n := 7) ?_ ?_
                · refine stepOff_run (atS (atS (atS (atS (atS (atS (atS (at0)))))))) [1] (by kernel_rfl) (fun _ _ => rfl) (fun f wq l hl hun hdn hS hd K' hK => ?_)
                  obtain ⟨e1, -⟩ := hd
                  have e1 : f 1 = .bool false := e1
                  have HK := Lib.hid hK
                  clear hK
                  have HSS := Lib.hid hS
                  clear hS
                  simp only [e1]
                  go_simp
                  exact HK.out _ _ _ (by simp only [e1]; rfl) rfl ⟨fun h => HSS.out.1 (Bool.or_eq_false_iff.1 h).2, HSS.out.2⟩ (rr _)
                refine stepsOff_cons (k := 8) (n := 6) ?_ ?_
                · refine stepOff_run (atS (atS (atS (atS (atS (atS (atS (atS (at0))))))))) [1] (by kernel_rfl) (fun _ _ => rfl) (fun f wq l hl hun hdn hS hd K' hK => ?_)
                  obtain ⟨e1, -⟩ := hd
                  have e1 : f 1 = .bool false := e1
                  have HK := Lib.hid hK
                  clear hK
                  have HSS := Lib.hid hS
                  clear hS
                  simp only [e1]
                  go_simp
                  exact HK.out _ _ _ (by simp only [e1]; rfl) rfl ⟨fun h => HSS.out.1 (Bool.or_eq_false_iff.1 h).2, HSS.out.2⟩ (rr _)
                refine stepsOff_cons (k := 9) (n := 5) ?_ ?_
                · refine stepOff_run (atS (atS (atS (atS (atS (atS (atS (atS (atS (at0)))))))))) [1, 7, 8] (by kernel_rfl) (fun _ _ => rfl) (fun f wq l hl hun hdn hS hd K' hK => ?_)
                  obtain ⟨e1, e7, e8, -⟩ := hd
                  have e1 : f 1 = .bool false := e1
                  have e7 : f 7 = .slice (some ⟨g2, o2, none⟩) N2 c6 := e7
                  have e8 : f 8 = .int .i64 i := e8
                  have HK := Lib.hid hK
                  clear hK
                  have HSS := Lib.hid hS
                  clear hS
                  simp only [e1, e7, e8]
                  go_simp
                  exact HK.out _ _ _ (by simp only [e1, e7, e8]; rfl) rfl ⟨fun h => HSS.out.1 (Bool.or_eq_false_iff.1 h).2, HSS.out.2⟩ (rr _)
                refine stepsOff_cons (k := 10) (n := 4) ?_ ?_
                · refine stepOff_run (atS (atS (atS (atS (atS (atS (atS (atS (atS (atS (at0))))))))))) [1, 9] (by kernel_rfl) (fun _ _ => rfl) (fun f wq l hl hun hdn hS hd K' hK => ?_)
                  obtain ⟨e1, e9, -⟩ := hd
                  have e1 : f 1 = .bool false := e1
                  have e9 : f 9 = .pointer (some ⟨g2, o2 + i, none⟩) := e9
                  have HK := Lib.hid hK
                  clear hK
                  have hc := (HC.out wq hS.2).2
                  have HSS := Lib.hid hS
                  clear hS
                  simp only [e1, e9]
                  go_simp
                  exact HK.out _ _ _ (by simp only [e1, e9]; rfl) rfl ⟨fun h => HSS.out.1 (Bool.or_eq_false_iff.1 h).2, HSS.out.2⟩ (rr _)
                refine stepsOff_cons (k := 11) (n := 3) ?_ ?_
                · refine stepOff_run (atS (atS (atS (atS (atS (atS (atS (atS (atS (atS (atS (at0)))))))))))) [1, 10] (by kernel_rfl) (fun _ _ => rfl) (fun f wq l hl hun hdn hS hd K' hK => ?_)
                  obtain ⟨e1, e10, -⟩ := hd
                  have e1 : f 1 = .bool false := e1
                  have e10 : f 10 = .slice B2 m2 d2 := e10
                  have HK := Lib.hid hK
                  clear hK
                  have HSS := Lib.hid hS
                  clear hS
                  simp only [e1, e10]
                  go_simp
                  exact HK.out _ _ _ (by simp only [e1, e10]; rfl) ⟨_, rfl, heap_alloc_new wq _⟩ ⟨fun h => HSS.out.1 (Bool.or_eq_false_iff.1 h).2, bA HSS.out.2⟩ (bA (bR wq))
                refine stepsOff_cons (k := 12) (n := 2) ?_ ?_
                · refine stepOff_run (atS (atS (atS (atS (atS (atS (atS (atS (atS (atS (atS (atS (at0))))))))))))) [1, 6, 11] (by kernel_rfl) (fun _ _ => rfl) (fun f wq l hl hun hdn hS hd K' hK => ?_)
                  obtain ⟨e1, e6, e11, -⟩ := hd
                  have e1 : f 1 = .bool false := e1
                  have e6 : ∃ b, (f 6) = .slice (some ⟨b, 0, none⟩) 1 1 ∧ wq.heap[b]? = some (.cells #[.slice B1 m1 d1] 32) := e6
                  have e11 : ∃ b, (f 11) = .slice (some ⟨b, 0, none⟩) 1 1 ∧ wq.heap[b]? = some (.cells #[.slice B2 m2 d2] 32) := e11
                  have HK := Lib.hid hK
                  clear hK
                  obtain ⟨b6, hv6, hg6⟩ := e6
                  obtain ⟨b11, hv11, hg11⟩ := e11
                  obtain ⟨hr1, hr2⟩ := HRw.out wq hS.2
                  obtain ⟨⟨hm1, hm2⟩, ⟨hl1, hl1b⟩, hl2, hl2b⟩ := HM12.out
                  have HCz := Lib.hid (same16_any (some ⟨b6, 0, none⟩) (some ⟨b11, 0, none⟩) 1 1 1 1 [za] [zb'] wq (rr_one (by rw [← hm1]; exact hg6) hl1b hr1 hl1) (rr_one (by rw [← hm2]; exact hg11) hl2b hr2 hl2) (by omega))
                  have HDz := Lib.hid (show decide ([za] = [zb']) = decide (za = zb') from by simp)
                  rw [HDz.out] at HCz
                  have HV := Lib.hid (And.intro hv6 hv11)
                  clear hg6 hg11 hr1 hr2 hm1 hm2 hl1 hl1b hl2 hl2b hv6 hv11
                  have HSS := Lib.hid hS
                  clear hS
                  simp only [e1, HV.out.1, HV.out.2]
                  go_simp
                  go_wp2_with fail
                  refine HCz.out.mono ?_
                  rintro e w9 ⟨rfl, hb9⟩
                  exact HK.out _ _ _ (by simp only [e1, HV.out.1, HV.out.2]; rfl) rfl ⟨fun h => HSS.out.1 (Bool.or_eq_false_iff.1 h).2, bT HSS.out.2 hb9⟩ hb9
                refine stepsOff_cons (k := 13) (n := 1) ?_ ?_
                · refine stepOff_run (atS (atS (atS (atS (atS (atS (atS (atS (atS (atS (atS (atS (atS (at0)))))))))))))) [1, 12] (by kernel_rfl) (fun _ _ => rfl) (fun f wq l hl hun hdn hS hd K' hK => ?_)
                  obtain ⟨e1, e12, -⟩ := hd
                  have e1 : f 1 = .bool false := e1
                  have e12 : f 12 = .bool (decide (za = zb')) := e12
                  have HK := Lib.hid hK
                  clear hK
                  have HSS := Lib.hid hS
                  clear hS
                  simp only [e1, e12]
                  go_simp
                  exact HK.out _ _ _ (by simp only [e1, e12]; rfl) rfl ⟨fun h => HSS.out.1 (Bool.or_eq_false_iff.1 h).2, HSS.out.2⟩ (rr _)
                refine stepsOff_cons (k := 14) (n := 0) ?_ ?_
                · refine stepOff_run (atS (atS (atS (atS (atS (atS (atS (atS (atS (atS (atS (atS (atS (atS (at0))))))))))))))) [0, 1, 2, 3, 4, 5, 6, 7, 8, 9, 10, 11, 12, 13] (by kernel_rfl) (fun _ _ => rfl) (fun f wq l hl hun hdn hS hd K' hK => ?_)
                  obtain ⟨e0, e1, e2, e3, e4, e5, e6, e7, e8, e9, e10, e11, e12, e13, -⟩ := hd
                  have e0 : f 0 = .bool false := e0
                  have e1 : f 1 = .bool false := e1
                  have e2 : f 2 = .slice (some ⟨g1, o1, none⟩) N1 c5 := e2
                  have e3 : f 3 = .int .i64 j := e3
                  have e4 : f 4 = .pointer (some ⟨g1, o1 + j, none⟩) := e4
                  have e5 : f 5 = .slice B1 m1 d1 := e5
                  have e6 : ∃ b, (f 6) = .slice (some ⟨b, 0, none⟩) 1 1 ∧ wq.heap[b]? = some (.cells #[.slice B1 m1 d1] 32) := e6
                  have e7 : f 7 = .slice (some ⟨g2, o2, none⟩) N2 c6 := e7
                  have e8 : f 8 = .int .i64 i := e8
                  have e9 : f 9 = .pointer (some ⟨g2, o2 + i, none⟩) := e9
                  have e10 : f 10 = .slice B2 m2 d2 := e10
                  have e11 : ∃ b, (f 11) = .slice (some ⟨b, 0, none⟩) 1 1 ∧ wq.heap[b]? = some (.cells #[.slice B2 m2 d2] 32) := e11
                  have e12 : f 12 = .bool (decide (za = zb')) := e12
                  have e13 : f 13 = .bool (decide (za = zb')) := e13
                  have HK := Lib.hid hK
                  clear hK
                  clear e6 e11
                  have HSS := Lib.hid hS
                  clear hS
                  simp only [e0, e1, e2, e3, e4, e5, e7, e8, e9, e10, e12, e13]
                  go_simp
                  exact HK.out _ _ _ (by simp only [e0, e1, e2, e3, e4, e5, e7, e8, e9, e10, e12, e13]; rfl) rfl ⟨fun h => absurd h (by simp), HSS.out.2⟩ (rr _)
                exact trivial
              case fin =>
                intro fo2 wz lo2 hl hall hS
                have a0 : fo2 0 = .bool false := hall 0 (by decide)
                have a1 : fo2 1 = .bool false := hall 1 (by decide)
                have a2 : fo2 2 = .slice (some ⟨g1, o1, none⟩) N1 c5 := hall 2 (by decide)
                have a3 : fo2 3 = .int .i64 j := hall 3 (by decide)
                have a4 : fo2 4 = .pointer (some ⟨g1, o1 + j, none⟩) := hall 4 (by decide)
                have a5 : fo2 5 = .slice B1 m1 d1 := hall 5 (by decide)
                have a6 : ∃ b, (fo2 6) = .slice (some ⟨b, 0, none⟩) 1 1 ∧ wz.heap[b]? = some (.cells #[.slice B1 m1 d1] 32) := hall 6 (by decide)
                have a7 : fo2 7 = .slice (some ⟨g2, o2, none⟩) N2 c6 := hall 7 (by decide)
                have a8 : fo2 8 = .int .i64 i := hall 8 (by decide)
                have a9 : fo2 9 = .pointer (some ⟨g2, o2 + i, none⟩) := hall 9 (by decide)
                have a10 : fo2 10 = .slice B2 m2 d2 := hall 10 (by decide)
                have a11 : ∃ b, (fo2 11) = .slice (some ⟨b, 0, none⟩) 1 1 ∧ wz.heap[b]? = some (.cells #[.slice B2 m2 d2] 32) := hall 11 (by decide)
                have a12 : fo2 12 = .bool (decide (za = zb')) := hall 12 (by decide)
                have a13 : fo2 13 = .bool (decide (za = zb')) := hall 13 (by decide)
                have a14 : fo2 14 = .bool (decide (za = zb')) := hall 14 (by decide)
                clear hall
                simp only [a14]
                clear a0 a1 a2 a3 a4 a5 a6 a7 a8 a9 a10 a11 a12 a13 a14 rr hl
                have hS := hS.2
                obtain ⟨WE, rfl⟩ : ∃ x, x = wz := ⟨wz, rfl⟩
                have HBE2 := Lib.hid hS
                clear hS
                go_wp2_with fail
                go_roundw
                case rel => exact ⟨j + 1, by omega, by go_num, by rw [HT2.out], bT HBQ.out HBE2.out⟩
                case measure => simp [intOf]; omega
          · have hjb : decide ((j : Int) < (N1 : Int)) = false := by simp; omega
            have hfin : decide (zb ∈ R1.take j) = true := by
              rw [show j = N1 by omega, List.take_of_length_le (by have := HL1.out; omega)]
              simpa using HZin.out
            simp only [hfin]
            go_wp2_with fail
            go_roundw
            case rel => exact ⟨i + 1, by omega, by go_num, bT HBW.out HBQ.out⟩
            case measure => simp [intOf]; omega
      · have hlb : decide ((i : Int) < (N2 : Int)) = false := by simp; omega
        have hp0 : decide ((0 : Int) < (N2 : Int)) = true := by simp; omega
        have hp1 : decide ((N2 : Int) ≤ (N1 : Int)) = true := by simp; omega
        go_wp2_with fail
        go_ret
        exact ⟨rfl, bT HB6.out HBW.out⟩
end Go.Proofs.YtnigadeohmlpiaaGreatDoor

namespace Go.Proofs.YtnigadeohmlpiaaGreatDoor
open Go.RowKit
attribute [local go_sem] Oper.semAt_some

def b8 (D : Nat → Bool) : Array Value := #[.bool (D 0), .bool (D 1), .bool (D 2), .bool (D 3), .bool (D 4), .bool (D 5), .bool (D 6), .bool (D 7)]
def i4 (M : Nat → Int) : Array Value := #[.int .i64 (M 0), .int .i64 (M 1), .int .i64 (M 2), .int .i64 (M 3)]
def i8 (T : Nat → Int) : Array Value := #[.int .i64 (T 0), .int .i64 (T 1), .int .i64 (T 2), .int .i64 (T 3), .int .i64 (T 4), .int .i64 (T 5), .int .i64 (T 6), .int .i64 (T 7)]
theorem b8_at {w : World} {b k : Nat} {t : TypeId} {D : Nat → Bool} (hk : k < 8) (h : w.heap[b]? = some (.cells (b8 D) t)) : w.cell? ⟨b, k, none⟩ = some (.bool (D k)) := by
  rw [cell_of_row w b _ _ _ _ h]
  match k, hk with
  | 0, _ | 1, _ | 2, _ | 3, _ | 4, _ | 5, _ | 6, _ | 7, _ => rfl
theorem i8_at {w : World} {b k : Nat} {t : TypeId} {T : Nat → Int} (hk : k < 8) (h : w.heap[b]? = some (.cells (i8 T) t)) : w.cell? ⟨b, k, none⟩ = some (.int .i64 (T k)) := by
  rw [cell_of_row w b _ _ _ _ h]
  match k, hk with
  | 0, _ | 1, _ | 2, _ | 3, _ | 4, _ | 5, _ | 6, _ | 7, _ => rfl
theorem i4_at {w : World} {b k : Nat} {t : TypeId} {M : Nat → Int} (hk : k < 4) (h : w.heap[b]? = some (.cells (i4 M) t)) : w.cell? ⟨b, k, none⟩ = some (.int .i64 (M k)) := by
  rw [cell_of_row w b _ _ _ _ h]
  match k, hk with
  | 0, _ | 1, _ | 2, _ | 3, _ => rfl
theorem b8_all {w : World} {b : Nat} {t : TypeId} {F : Nat → Bool} (h : w.heap[b]? = some (.cells (b8 F) t)) : w.cell? ⟨b, 0, none⟩ = some (.bool (F 0)) ∧ w.cell? ⟨b, 1, none⟩ = some (.bool (F 1)) ∧ w.cell? ⟨b, 2, none⟩ = some (.bool (F 2)) ∧ w.cell? ⟨b, 3, none⟩ = some (.bool (F 3)) ∧ w.cell? ⟨b, 4, none⟩ = some (.bool (F 4)) ∧ w.cell? ⟨b, 5, none⟩ = some (.bool (F 5)) ∧ w.cell? ⟨b, 6, none⟩ = some (.bool (F 6)) ∧ w.cell? ⟨b, 7, none⟩ = some (.bool (F 7)) :=
  ⟨b8_at (by decide) h, b8_at (by decide) h, b8_at (by decide) h, b8_at (by decide) h, b8_at (by decide) h, b8_at (by decide) h, b8_at (by decide) h, b8_at (by decide) h⟩
theorem i8_all {w : World} {b : Nat} {t : TypeId} {F : Nat → Int} (h : w.heap[b]? = some (.cells (i8 F) t)) : w.cell? ⟨b, 0, none⟩ = some (.int .i64 (F 0)) ∧ w.cell? ⟨b, 1, none⟩ = some (.int .i64 (F 1)) ∧ w.cell? ⟨b, 2, none⟩ = some (.int .i64 (F 2)) ∧ w.cell? ⟨b, 3, none⟩ = some (.int .i64 (F 3)) ∧ w.cell? ⟨b, 4, none⟩ = some (.int .i64 (F 4)) ∧ w.cell? ⟨b, 5, none⟩ = some (.int .i64 (F 5)) ∧ w.cell? ⟨b, 6, none⟩ = some (.int .i64 (F 6)) ∧ w.cell? ⟨b, 7, none⟩ = some (.int .i64 (F 7)) :=
  ⟨i8_at (by decide) h, i8_at (by decide) h, i8_at (by decide) h, i8_at (by decide) h, i8_at (by decide) h, i8_at (by decide) h, i8_at (by decide) h, i8_at (by decide) h⟩
theorem i4_all {w : World} {b : Nat} {t : TypeId} {F : Nat → Int} (h : w.heap[b]? = some (.cells (i4 F) t)) : w.cell? ⟨b, 0, none⟩ = some (.int .i64 (F 0)) ∧ w.cell? ⟨b, 1, none⟩ = some (.int .i64 (F 1)) ∧ w.cell? ⟨b, 2, none⟩ = some (.int .i64 (F 2)) ∧ w.cell? ⟨b, 3, none⟩ = some (.int .i64 (F 3)) :=
  ⟨i4_at (by decide) h, i4_at (by decide) h, i4_at (by decide) h, i4_at (by decide) h⟩
/-- one of them is another one -/
def upd {α : Type} (F : Nat → α) (k : Nat) (x : α) : Nat → α := fun i => if i = k then x else F i
theorem b8_set {D : Nat → Bool} {k : Nat} (hk : k < 8) (x : Bool) : (b8 D).setIfInBounds k (.bool x) = b8 (upd D k x) := by
  match k, hk with
  | 0, _ | 1, _ | 2, _ | 3, _ | 4, _ | 5, _ | 6, _ | 7, _ => rfl
theorem i8_set {T : Nat → Int} {k : Nat} (hk : k < 8) (x : Int) : (i8 T).setIfInBounds k (.int .i64 x) = i8 (upd T k x) := by
  match k, hk with
  | 0, _ | 1, _ | 2, _ | 3, _ | 4, _ | 5, _ | 6, _ | 7, _ => rfl
theorem i4_set {M : Nat → Int} {k : Nat} (hk : k < 4) (x : Int) : (i4 M).setIfInBounds k (.int .i64 x) = i4 (upd M k x) := by
  match k, hk with
  | 0, _ | 1, _ | 2, _ | 3, _ => rfl
theorem set8 {w : World} {b : Nat} {c0 c1 c2 c3 c4 c5 c6 c7 x0 x1 x2 x3 x4 x5 x6 x7 : Value} {t : TypeId} (h : w.heap[b]? = some (.cells #[c0, c1, c2, c3, c4, c5, c6, c7] t)) :
    ((((((((w.setCell ⟨b, 0, none⟩ x0).setCell ⟨b, 1, none⟩ x1).setCell ⟨b, 2, none⟩ x2).setCell ⟨b, 3, none⟩ x3).setCell ⟨b, 4, none⟩ x4).setCell ⟨b, 5, none⟩ x5).setCell ⟨b, 6, none⟩ x6).setCell ⟨b, 7, none⟩ x7).heap[b]? = some (.cells #[x0, x1, x2, x3, x4, x5, x6, x7] t) := by
  have h4 : ((((w.setCell ⟨b, 0, none⟩ x0).setCell ⟨b, 1, none⟩ x1).setCell ⟨b, 2, none⟩ x2).setCell ⟨b, 3, none⟩ x3).heap[b]? = some (.cells #[x0, x1, x2, x3, c4, c5, c6, c7] t) := set_same (set_same (set_same (set_same h x0) x1) x2) x3
  exact set_same (set_same (set_same (set_same h4 x4) x5) x6) x7
theorem set4v {w : World} {b : Nat} {c0 c1 c2 c3 x0 x1 x2 x3 : Value} {t : TypeId} (h : w.heap[b]? = some (.cells #[c0, c1, c2, c3] t)) :
    ((((w.setCell ⟨b, 0, none⟩ x0).setCell ⟨b, 1, none⟩ x1).setCell ⟨b, 2, none⟩ x2).setCell ⟨b, 3, none⟩ x3).heap[b]? = some (.cells #[x0, x1, x2, x3] t) :=
  set_same (set_same (set_same (set_same h x0) x1) x2) x3

/-- what comes of the first harts' turns -/
def turnsL (l : List Ev) (f : Nat) (s : St) (h : Nat) : List (List Int) := (List.range h).flatMap fun (h : Nat) => match s.due l (h : Int) with
  | some i => match l[i]? with
    | some e => singP l f (s.once e i)
    | none => []
  | none => []
theorem turns_none {l : List Ev} {f : Nat} {s : St} {h : Nat} (hd : s.due l (h : Int) = none) : turnsL l f s (h + 1) = turnsL l f s h := by
  unfold turnsL
  rw [List.range_succ, List.flatMap_append, List.flatMap_cons, hd]
  simp
theorem turns_some {l : List Ev} {f : Nat} {s : St} {h i : Nat} {e : Ev} (hd : s.due l (h : Int) = some i) (he : l[i]? = some e) : turnsL l f s (h + 1) = turnsL l f s h ++ singP l f (s.once e i) := by
  unfold turnsL
  rw [List.range_succ, List.flatMap_append, List.flatMap_cons, hd]
  dsimp only
  rw [he]
  simp
theorem singP_turns {l : List Ev} {f : Nat} {s : St} (ho : s.outcome l = none) : singP l (f + 1) s = turnsL l f s 4 := by
  rw [singP, ho]
  rfl
theorem singP_end {l : List Ev} {f : Nat} {s : St} (hd : ∀ i, s.dn i = true) : singP l f s = [toldL l s.told] := by
  cases f with
  | zero => rfl
  | succ f => rw [singP, outcome_eq hd]
theorem turns_len {l : List Ev} {f c : Nat} {s : St} (hc : ∀ i e, l[i]? = some e → (singP l f (s.once e i)).length ≤ c) : ∀ h, (turnsL l f s h).length ≤ h * c
  | 0 => by simp [turnsL]
  | h + 1 => by
    have ih := turns_len hc h
    cases hd : s.due l (h : Int) with
    | none =>
      rw [turns_none hd, Nat.succ_mul]
      omega
    | some i =>
      obtain ⟨e, he, _⟩ := St.due_parts hd
      rw [turns_some hd he, List.length_append, Nat.succ_mul]
      have := hc i e he
      omega
theorem singP_len (l : List Ev) : ∀ (f : Nat) (s : St), (singP l f s).length ≤ 4 ^ f
  | 0, s => by simp [singP]
  | f + 1, s => by
    cases ho : s.outcome l with
    | some z =>
      rw [singP, ho]
      exact Nat.succ_le_of_lt (Nat.pow_pos (by omega))
    | none =>
      rw [singP_turns ho, Nat.pow_succ, Nat.mul_comm]
      exact turns_len (fun i e _ => singP_len l f _) 4
/-- some hart has an event left -/
def anyDue (l : List Ev) (s : St) (h : Nat) : Bool := (List.range h).any fun (h : Nat) => (s.due l (h : Int)).isSome
theorem anyDue_succ (l : List Ev) (s : St) (h : Nat) : anyDue l s (h + 1) = (anyDue l s h || (s.due l (h : Int)).isSome) := by
  unfold anyDue
  rw [List.range_succ, List.any_append]
  simp
theorem anyDue_no {l : List Ev} {s : St} (hl : Prog l) (hs : s.Ok l.length) (h : anyDue l s 4 = false) : ∀ i, s.dn i = true := by
  refine fun i => Classical.byContradiction fun hc => ?_
  have hc : s.dn i = false := by simpa using hc
  obtain ⟨j, hj, hmin⟩ : ∃ i, s.dn i = false ∧ ∀ j, j < i → s.dn j = true := by
    have hi := hc
    induction i using Nat.strongRecOn with
    | _ i ihi =>
      by_cases h : ∃ j, j < i ∧ s.dn j = false
      · obtain ⟨j, hj, h⟩ := h
        exact ihi j hj (by simp [h]) h h
      · exact ⟨i, hi, fun j hj => by
          cases hd : s.dn j with
          | true => rfl
          | false => exact absurd ⟨j, hj, hd⟩ h⟩
  have hjl : j < l.length := by
    rcases Nat.lt_or_ge j l.length with h | h
    · exact h
    · unfold St.dn at hj
      rw [List.getD_eq_getElem?_getD, List.getElem?_eq_none (by rw [hs.d]; exact h)] at hj
      cases hj
  have he : l[j]? = some l[j] := List.getElem?_eq_getElem hjl
  have hok := (hl.ok _ (List.mem_of_getElem? he)).h
  have hd : s.due l l[j].h = some j := St.due_iff.2 ⟨_, he, rfl, hj, fun q eq hq _ _ => hmin q hq⟩
  unfold anyDue at h
  rw [List.any_eq_false] at h
  have := h l[j].h.toNat (List.mem_range.2 (by omega))
  rw [Int.toNat_of_nonneg hok.1, hd] at this
  simp at this
theorem anyDue_yes {l : List Ev} {s : St} {h : Nat} (hd : anyDue l s h = true) : s.outcome l = none := by
  unfold anyDue at hd
  obtain ⟨x, _, hx⟩ := List.any_eq_true.1 hd
  obtain ⟨i, hi⟩ := Option.isSome_iff_exists.1 hx
  cases ho : s.outcome l with
  | none => rfl
  | some z =>
    obtain ⟨_, _, _, hn, _⟩ := St.due_iff.1 hi
    rw [(outcome_parts ho).1 i] at hn
    cases hn

/-- the three arrays are what a state says -/
structure ArrOk (n : Nat) (s : St) (D : Nat → Bool) (M T : Nat → Int) : Prop where
  d : ∀ i, i < n → D i = s.dn i
  m : ∀ a : Nat, a < 4 → M a = s.m.words.getD a 0
  t : ∀ i : Nat, i < n → T i = s.told.getD i 0
theorem ArrOk.done {n k : Nat} {s : St} {D : Nat → Bool} {M T : Nat → Int} (h : ArrOk n s D M T) (e : Ev) (hk : k < s.done.length) : ∀ i, i < n → upd D k true i = (s.once e k).dn i := fun i hi => by
  rw [once_dn hk, ← h.d i hi]
  unfold upd
  by_cases hik : i = k <;> simp [hik]
theorem ArrOk.store {n k aN : Nat} {s : St} {D : Nat → Bool} {M T : Nat → Int} {e : Ev} (h : ArrOk n s D M T) (hs : s.Ok n) (hk : k < n) (h2 : e.k = 2) (ha : e.a = aN) (h4 : aN < 4) : ArrOk n (s.once e k) (upd D k true) (upd M aN e.n) T := by
  refine ⟨h.done e (by rw [hs.d]; exact hk), fun a h5 => ?_, fun i hi => ?_⟩
  · have : (s.once e k).m.words = s.m.words.set aN e.n := by
      unfold St.once
      rw [if_neg (by omega), if_pos h2, ha]
      rfl
    rw [this, List.getD_eq_getElem?_getD, List.getElem?_set]
    unfold upd
    by_cases haa : a = aN
    · subst haa
      simp [hs.m.lw, h4]
    · rw [if_neg haa, if_neg (fun e => haa e.symm), ← List.getD_eq_getElem?_getD, h.m a h5]
  · have : (s.once e k).told = s.told := by
      unfold St.once
      rw [if_neg (by omega), if_pos h2]
    rw [this, h.t i hi]
theorem ArrOk.load {n k aN : Nat} {s : St} {D : Nat → Bool} {M T : Nat → Int} {e : Ev} (h : ArrOk n s D M T) (hs : s.Ok n) (hk : k < n) (h1 : e.k = 1) (ha : e.a = aN) (h4 : aN < 4) : ArrOk n (s.once e k) (upd D k true) M (upd T k (M aN)) := by
  refine ⟨h.done e (by rw [hs.d]; exact hk), fun a h5 => ?_, fun i hi => ?_⟩
  · have : (s.once e k).m = s.m := by
      unfold St.once
      rw [if_pos h1]
    rw [this, h.m a h5]
  · have : (s.once e k).told = s.told.set k (M aN) := by
      unfold St.once
      rw [if_pos h1, ha, h.m aN h4]
      rfl
    rw [this, List.getD_eq_getElem?_getD, List.getElem?_set]
    unfold upd
    by_cases hik : i = k
    · subst hik
      simp [hs.t, hk]
    · rw [if_neg hik, if_neg (fun e => hik e.symm), ← List.getD_eq_getElem?_getD, h.t i hi]
theorem ArrOk.fence {n k : Nat} {s : St} {D : Nat → Bool} {M T : Nat → Int} {e : Ev} (h : ArrOk n s D M T) (hs : s.Ok n) (hk : k < n) (h1 : e.k ≠ 1) (h2 : e.k ≠ 2) : ArrOk n (s.once e k) (upd D k true) M T := by
  have he : s.once e k = ⟨s.m, s.done.set k true, s.told⟩ := by
    unfold St.once
    rw [if_neg h1, if_neg h2]
  refine ⟨h.done e (by rw [hs.d]; exact hk), fun a h5 => ?_, fun i hi => ?_⟩
  · rw [he]
    exact h.m a h5
  · rw [he]
    exact h.t i hi

set_option maxHeartbeats 16000000 in
set_option maxRecDepth 100000 in
theorem singly26_any (A : Option Addr) (n c : Nat) (l : List Ev) (hl : Prog l) (hln : l.length = n) : ∀ (f : Nat) (s : St) (D : Nat → Bool) (M T : Nat → Int) (O : List (List Int)) (v : Value) (base : Nat) (w : World), s.done.count false ≤ f → IsEvs w A n c l → s.Ok n → ArrOk n s D M T → SS w base v O → base ≤ w.heap.size → O.length + 4 ^ f ≤ 1000000 →
    Calls Tryz.prog 26 #[.slice A n c, .agg (b8 D), .agg (i4 M), .agg (i8 T), v] w fun o w' => (∃ v', o = .returned v' ∧ SS w' base v' (O ++ singP l f s)) ∧ Tk [32] w w' ∧ Below base w w' := by
  have hn6 : n ≤ 6 := hln ▸ hl.few
  obtain ⟨i0, hi, hz0, hz1, hz2⟩ := info_parts int_info
  intro f
  induction f using Nat.strongRecOn with
  | _ f ih =>
    intro s D M T O v base w hcnt he hs hD hO hb hOl
    have HIH := Lib.hid ih
    clear ih
    obtain ⟨b6, hb6⟩ : ∃ b, b = w.heap.size := ⟨_, rfl⟩
    obtain ⟨b7, hb7⟩ : ∃ b, b = b6 + 1 := ⟨_, rfl⟩
    obtain ⟨bb8, hb8⟩ : ∃ b, b = b7 + 1 := ⟨_, rfl⟩
    obtain ⟨X1, hX1⟩ : ∃ X, X = w.alloc (.cells (b8 D) 49) := ⟨_, rfl⟩
    obtain ⟨X2, hX2⟩ : ∃ X, X = X1.alloc (.cells (i4 M) 50) := ⟨_, rfl⟩
    obtain ⟨W, hW⟩ : ∃ X, X = X2.alloc (.cells (i8 T) 51) := ⟨_, rfl⟩
    have s1 : X1.heap.size = b6 + 1 := by rw [hX1, World.size_alloc, hb6]
    have s2 : X2.heap.size = b6 + 1 + 1 := by rw [hX2, World.size_alloc, s1]
    have k2 : Below X2.heap.size X2 W := hW ▸ bA (bR X2)
    have k1 : Below X1.heap.size X1 W := bT (hX2 ▸ bA (bR X1)) k2
    have k0 : Below w.heap.size w W := bT (hX1 ▸ bA (bR w)) k1
    have H6 := Lib.hid (show W.heap[b6]? = some (.cells (b8 D) 49) from blk_below k1 (by rw [hX1, hb6]; exact heap_alloc_new w _))
    have H7 := Lib.hid (show W.heap[b7]? = some (.cells (i4 M) 50) from blk_below k2 (by rw [hX2, hb7, ← s1]; exact heap_alloc_new X1 _))
    have H8 := Lib.hid (show W.heap[bb8]? = some (.cells (i8 T) 51) from by rw [hW, hb8, hb7, ← s2]; exact heap_alloc_new X2 _)
    have hWW : W = ((w.alloc (.cells (b8 D) 49)).alloc (.cells (i4 M) 50)).alloc (.cells (i8 T) 51) := by rw [hW, hX2, hX1]
    have HE := Lib.hid (he.sees (Below.sees k0))
    have HS := Lib.hid hs
    have HD := Lib.hid hD
    have HO := Lib.hid (show SS W base v O from by
      obtain ⟨cs, h1, h2⟩ := hO
      exact ⟨cs, own_tk (T := []) h1 (Tk.below k0) (by simp), h2.below k0⟩)
    have HB := Lib.hid (show Below base w W from k0.mono hb)
    have HT0 := Lib.hid (show Tk [32] w W from Tk.below k0)
    have HBs := Lib.hid (show base ≤ W.heap.size from Nat.le_trans hb k0.size)
    have HOl := Lib.hid hOl
    have HCn := Lib.hid hcnt
    have HP := Lib.hid hl
    have HLn := Lib.hid hln
    clear s1 s2 k0 k1 k2 hX1 hX2 hW he hs hD hO hb hOl hcnt
    go_enter Tryz.func26, Tryz.ntmps26
    go_wp2_with fail
    rw [← hb6, ← hb7, ← hb8, ← hWW]
    have HLt := Lib.hid (show b6 = w.heap.size ∧ b7 = b6 + 1 ∧ bb8 = b7 + 1 from ⟨hb6, hb7, hb8⟩)
    clear hb6 hb7 hb8 hWW
    go_loopw [4, 11, 12] (fun v4 vl vh wr => ∃ (h : Nat), h ≤ 4 ∧ vh = .int .i64 h ∧ vl = .bool (anyDue l s h) ∧ SS wr base v4 (O ++ turnsL l (f - 1) s h) ∧ Tk [32] W wr ∧ Below base w wr) (fun _ _ vh _ => 4 - (intOf vh).toNat)
    case atStart => exact ⟨0, by omega, rfl, rfl, by simpa [turnsL] using HO.out, Tk.below (bR W), HB.out⟩
    case round =>
      obtain ⟨h, hh, rfl, rfl, hss, htk, hbw⟩ := hrel
      obtain ⟨wo, rfl⟩ : ∃ x, x = wr := ⟨wr, rfl⟩
      have HSS := Lib.hid hss
      have HTk := Lib.hid htk
      have HBW := Lib.hid hbw
      have H6o := Lib.hid (htk.at_ (by decide) H6.out)
      have H7o := Lib.hid (htk.at_ (by decide) H7.out)
      have H8o := Lib.hid (htk.at_ (by decide) H8.out)
      have HEo := Lib.hid (HE.out.tk htk (by decide))
      clear hss htk hbw
      by_cases hlt : h < 4
      · have hlb : decide ((h : Int) < 4) = true := by simp; omega
        obtain ⟨ad, had⟩ : ∃ q, q = anyDue l s h := ⟨_, rfl⟩
        rw [← had]
        have HAd := Lib.hid had
        clear had
        go_wp2_with fail
        go_loopw [13] (fun vk wq => ∃ k : Nat, k ≤ n ∧ vk = .int .i64 k ∧ (∀ (j : Nat) (ej : Ev), j < k → l[j]? = some ej → ej.h = (h : Int) → s.dn j = true) ∧ wq = wo) (fun vk _ => n - (intOf vk).toNat)
        case atStart => exact ⟨0, by omega, rfl, fun j ej hj => absurd hj (Nat.not_lt_zero _), rfl⟩
        case round =>
          obtain ⟨k, hk, rfl, hall, hwr⟩ := hrel
          subst hwr
          have HAl := Lib.hid hall
          clear hall
          by_cases hkt : k < n
          · have hkb : decide ((k : Int) < (n : Int)) = true := by simp; omega
            have hke : ((k : Int) == (n : Int)) = false := by simp; omega
            have hkn : (k : Int) < (n : Int) := by omega
            have hk0 : decide ((k : Int) < 0) = false := by simp
            obtain ⟨g, o, e, hA, hek, hc0, hc1, hc2, hc3⟩ := HEo.out.at_ hkt
            subst hA
            have HX := Lib.hid hek
            obtain ⟨eh, heh⟩ : ∃ q, q = e.h := ⟨_, rfl⟩
            rw [← heh] at hc0
            have HEh := Lib.hid heh
            have hd6 := b8_at (by omega : k < 8) H6o.out
            rw [HD.out.d k hkt] at hd6
            have hk8 : (k : Int) < 8 := by omega
            have HCs := Lib.hid (And.intro hc1 (And.intro hc2 hc3))
            clear hek heh hc1 hc2 hc3
            by_cases hhe : eh = (h : Int)
            · have hne : (eh != (h : Int)) = false := by simp [hhe]
              cases hdn : s.dn k with
              | true =>
                rw [hdn] at hd6
                have HN := Lib.hid (show ∀ (j : Nat) (ej : Ev), j < k + 1 → l[j]? = some ej → ej.h = (h : Int) → s.dn j = true from fun j ej hj hx hxh => by
                  rcases Nat.lt_or_ge j k with h1 | h1
                  · exact HAl.out j ej h1 hx hxh
                  · rw [show j = k by omega]
                    exact hdn)
                clear hhe hdn
                go_wp2_with fail
                go_roundw
                case rel => exact ⟨k + 1, by omega, by go_num, HN.out, by first | trivial | rfl⟩
                case measure => simp [intOf]; omega
              | false =>
                rw [hdn] at hd6
                have HDue := Lib.hid (show s.due l (h : Int) = some k from St.due_iff.2 ⟨e, HX.out, HEh.out.symm.trans hhe, hdn, HAl.out⟩)
                have HDn := Lib.hid hdn
                clear hdn
                obtain ⟨wo, rfl⟩ : ∃ x, x = wr := ⟨wr, rfl⟩
                go_upto_region 10 with fail
                clear hd6
                obtain ⟨q0, q1, q2, q3, q4, q5, q6, q7⟩ := b8_all H6o.out
                go_upto_region 11 with fail
                obtain ⟨b14, hb14⟩ : ∃ b, b = wo.heap.size := ⟨_, rfl⟩
                obtain ⟨b15, hb15⟩ : ∃ b, b = b14 + 1 := ⟨_, rfl⟩
                obtain ⟨b16, hb16⟩ : ∃ b, b = b15 + 1 := ⟨_, rfl⟩
                obtain ⟨Y1, hY1⟩ : ∃ X, X = wo.alloc (.cells (b8 D) 49) := ⟨_, rfl⟩
                obtain ⟨Y2, hY2⟩ : ∃ X, X = Y1.alloc (.cells (i4 M) 50) := ⟨_, rfl⟩
                obtain ⟨Y3, hY3⟩ : ∃ X, X = Y2.alloc (.cells (i8 T) 51) := ⟨_, rfl⟩
                have y1 : Y1.heap.size = b14 + 1 := by rw [hY1, World.size_alloc, hb14]
                have y2 : Y2.heap.size = b14 + 1 + 1 := by rw [hY2, World.size_alloc, y1]
                have j1 : Below wo.heap.size wo Y1 := hY1 ▸ bA (bR wo)
                have j2 : Below Y1.heap.size Y1 Y2 := hY2 ▸ bA (bR Y1)
                have j3 : Below Y2.heap.size Y2 Y3 := hY3 ▸ bA (bR Y2)
                have J02 := Lib.hid (bT j1 j2)
                have J03 := Lib.hid (bT (bT j1 j2) j3)
                have K14 := Lib.hid (show Y3.heap[b14]? = some (.cells (b8 D) 49) from blk_below (bT j2 j3) (by rw [hY1, hb14]; exact heap_alloc_new wo _))
                have K15 := Lib.hid (show Y3.heap[b15]? = some (.cells (i4 M) 50) from blk_below j3 (by rw [hY2, hb15, ← y1]; exact heap_alloc_new Y1 _))
                have K16 := Lib.hid (show Y3.heap[b16]? = some (.cells (i8 T) 51) from by rw [hY3, hb16, hb15, ← y2]; exact heap_alloc_new Y2 _)
                have HY := Lib.hid (And.intro hY1 (And.intro hY2 hY3))
                have HYs := Lib.hid (And.intro y1 y2)
                have HLb := Lib.hid (show b14 = wo.heap.size ∧ b15 = b14 + 1 ∧ b16 = b15 + 1 from ⟨hb14, hb15, hb16⟩)
                rw [← show Y1 = wo.alloc (.cells #[.bool (D 0), .bool (D 1), .bool (D 2), .bool (D 3), .bool (D 4), .bool (D 5), .bool (D 6), .bool (D 7)] 49) from hY1, ← hb14]
                clear hY1 hY2 hY3 y1 y2 hb14 hb15 hb16 q0 q1 q2 q3 q4 q5 q6 q7
                obtain ⟨q0, q1, q2, q3⟩ := i4_all (blk_below j1 H7o.out)
                go_upto_region 12 with fail
                rw [← show Y2 = Y1.alloc (.cells #[.int .i64 (M 0), .int .i64 (M 1), .int .i64 (M 2), .int .i64 (M 3)] 50) from HY.out.2.1, HYs.out.1, ← HLb.out.2.1]
                clear q0 q1 q2 q3
                obtain ⟨q0, q1, q2, q3, q4, q5, q6, q7⟩ := i8_all (blk_below J02.out H8o.out)
                go_upto_region 13 with fail
                rw [← show Y3 = Y2.alloc (.cells #[.int .i64 (T 0), .int .i64 (T 1), .int .i64 (T 2), .int .i64 (T 3), .int .i64 (T 4), .int .i64 (T 5), .int .i64 (T 6), .int .i64 (T 7)] 51) from HY.out.2.2, HYs.out.2, show b14 + 1 + 1 = b16 from by rw [HLb.out.2.2, HLb.out.2.1]]
                clear q0 q1 q2 q3 q4 q5 q6 q7 j1 j2 j3
                obtain ⟨_, q1⟩ : True ∧ Y3.cell? ⟨b14, k, none⟩ = some (.bool (D k)) := ⟨trivial, b8_at (by omega) K14.out⟩
                have hfz := not_frozen (i := k) K14.out
                go_upto_region 14 with fail
                obtain ⟨W13, hW13⟩ : ∃ X, X = Y3.setCell ⟨b14, k, none⟩ (.bool true) := ⟨_, rfl⟩
                rw [← hW13]
                have HGe := Lib.hid (show wo.heap.size ≤ b14 ∧ wo.heap.size ≤ b15 ∧ wo.heap.size ≤ b16 from by have := HLb.out; omega)
                have J13 := Lib.hid (show Below wo.heap.size wo W13 from hW13 ▸ bS J03.out HGe.out.1)
                have L14 := Lib.hid (show W13.heap[b14]? = some (.cells (b8 (upd D k true)) 49) from by rw [hW13, set_same K14.out, b8_set (by omega)])
                have L15 := Lib.hid (show W13.heap[b15]? = some (.cells (i4 M) 50) from by rw [hW13, set_other _ (by have := HLb.out; omega)]; exact K15.out)
                have L16 := Lib.hid (show W13.heap[b16]? = some (.cells (i8 T) 51) from by rw [hW13, set_other _ (by have := HLb.out; omega)]; exact K16.out)
                clear hW13 q1 hfz
                have HEo' := Lib.hid (HP.out.ok e (List.mem_of_getElem? HX.out))
                obtain ⟨ek, hek⟩ : ∃ q, q = e.k := ⟨_, rfl⟩
                obtain ⟨aN, haN⟩ : ∃ q : Nat, e.a = q := ⟨e.a.toNat, by have := HEo'.out.a; omega⟩
                obtain ⟨en, hen⟩ : ∃ q, q = e.n := ⟨_, rfl⟩
                have ha4 : aN < 4 := by have := HEo'.out.a; omega
                have haz : (aN : Int) < 4 := by omega
                rw [← hek, haN, ← hen] at HCs
                have HEe := Lib.hid (show ek = e.k ∧ e.a = (aN : Int) ∧ en = e.n from ⟨hek, haN, hen⟩)
                clear hek haN hen
                have q1 := (J13.out.cell (cell_lt HCs.out.1)).trans HCs.out.1
                have q2 := (J13.out.cell (cell_lt HCs.out.2.1)).trans HCs.out.2.1
                have HPos := Lib.hid (show 0 < f ∧ (s.done.set k true).count false ≤ f - 1 from by
                  have h1 := count_set_false (getD_false HDn.out)
                  have h2 := HCn.out
                  omega)
                have HLe := Lib.hid (show (O ++ turnsL l (f - 1) s h).length + 4 ^ (f - 1) ≤ 1000000 from by
                  have h1 := turns_len (l := l) (f := f - 1) (c := 4 ^ (f - 1)) (s := s) (fun i e _ => singP_len l _ _) h
                  have h2 := HOl.out
                  have h3 : 4 ^ f = 4 * 4 ^ (f - 1) := by
                    rw [← Nat.pow_succ']
                    congr 1
                    have := HPos.out.1
                    omega
                  have h4 := Nat.mul_le_mul_right (4 ^ (f - 1)) (show h ≤ 3 by omega)
                  rw [List.length_append]
                  omega)
                by_cases h2 : ek = 2
                · have h2b : (ek == 2) = true := by simpa using h2
                  have h1b : (ek == 1) = false := by simp; omega
                  have HK2 := Lib.hid (show e.k = 2 from HEe.out.1.symm.trans h2)
                  clear h2
                  go_upto_region 15 with fail
                  have hq : ∀ (k : Nat) (l : Nat → Bool) (wx : World), ((l 11 = false → Below W13.heap.size W13 wx)) → (((decide (11 = k) || l 11) = false → Below W13.heap.size W13 wx)) := fun k l wx h => fun g => h (Bool.or_eq_false_iff.1 g).2
                  have rr : ∀ {iv : Nat} (wx : World), (iv = 11 ∨ wx = wx) := fun _ => .inr rfl
                  refine wp_region_det (by kernel_rfl) (fun f => (⟨#[Value.slice (some ⟨g, o, none⟩) n c, Value.agg (b8 D), Value.agg (i4 M), Value.agg (i8 T), u4, undef, Value.pointer (some ⟨b6, 0, none⟩), Value.pointer (some ⟨b7, 0, none⟩), Value.pointer (some ⟨bb8, 0, none⟩), undef, Value.slice none 0 0, Value.bool true, .int .i64 (h : Int), .int .i64 (k : Int), Value.pointer (some ⟨b14, 0, none⟩), Value.pointer (some ⟨b15, 0, none⟩), Value.pointer (some ⟨b16, 0, none⟩), undef, undef, .int .i64 (h : Int), Value.bool true, u21, u22, .int .i64 (k : Int), Value.slice (some ⟨g, o, none⟩) n c, .int .i64 (n : Int), Value.bool true, Value.bool true, Value.slice (some ⟨g, o, none⟩) n c, .int .i64 (k : Int), Value.pointer (some ⟨g, o + k * 4, none⟩), Value.pointer (some ⟨g, o + k * 4, none⟩), .int .i64 (h : Int), .int .i64 (h : Int), Value.bool false, Value.bool false, .int .i64 (k : Int), Value.pointer (some ⟨b6, k, none⟩), Value.bool false, Value.bool false, Value.bool false, u41, u42, .int .i64 (k : Int), Value.slice (some ⟨g, o, none⟩) n c, .int .i64 (n : Int), Value.bool false, Value.agg #[Value.bool (D 0), Value.bool (D 1), Value.bool (D 2), Value.bool (D 3), Value.bool (D 4), Value.bool (D 5), Value.bool (D 6), Value.bool (D 7)], Value.agg #[.int .i64 (M 0), .int .i64 (M 1), .int .i64 (M 2), .int .i64 (M 3)], Value.agg #[.int .i64 (T 0), .int .i64 (T 1), .int .i64 (T 2), .int .i64 (T 3), .int .i64 (T 4), .int .i64 (T 5), .int .i64 (T 6), .int .i64 (T 7)], .int .i64 (k : Int), Value.pointer (some ⟨b14, k, none⟩), Value.slice (some ⟨g, o, none⟩) n c, .int .i64 (k : Int), Value.pointer (some ⟨g, o + k * 4, none⟩), Value.pointer (some ⟨g, o + k * 4 + 1, none⟩), .int .i64 ek, Value.bool true, f 0, f 1, f 2, f 3, f 4, f 5, f 6, f 7, f 8, f 9, f 10, u69, u70, u71, u72, u73, u74, u75, u76, u77, u78, u79, u80, u81, u82, u83, u84, u85, u86, u87, u88, u89, undef, undef, undef, undef, undef, undef, undef, undef, undef, undef, undef, undef, undef, undef, undef, undef, undef, undef, undef, undef, undef, undef, undef, undef], []⟩ : Act)) (fun (iv : Nat) (lv : Nat → Bool) (fv : Nat → Value) (wx : World) => match iv with | 0 => fv 0 = .slice (some ⟨g, o, none⟩) n c | 1 => fv 1 = .int .i64 k | 2 => fv 2 = .pointer (some ⟨g, o + k * 4, none⟩) | 3 => fv 3 = .pointer (some ⟨g, o + k * 4 + 2, none⟩) | 4 => fv 4 = .int .i64 aN | 5 => fv 5 = .slice (some ⟨g, o, none⟩) n c | 6 => fv 6 = .int .i64 k | 7 => fv 7 = .pointer (some ⟨g, o + k * 4, none⟩) | 8 => fv 8 = .pointer (some ⟨g, o + k * 4 + 3, none⟩) | 9 => fv 9 = .int .i64 en | 10 => fv 10 = .pointer (some ⟨b15, aN, none⟩) | 11 => ∃ w9, Below W13.heap.size W13 w9 ∧ wx = w9.setCell ⟨b15, aN, none⟩ (.int .i64 en) | _ => True) (fun (lv : Nat → Bool) (wx : World) => (lv 11 = false → Below W13.heap.size W13 wx)) (fun (iv : Nat) (w1 : World) (w2 : World) => (iv = 11 ∨ w1 = w2)) (by kernel_rfl) (fun k => match k with | 0 => u58 | 1 => u59 | 2 => u60 | 3 => u61 | 4 => u62 | 5 => u63 | 6 => u64 | 7 => u65 | 8 => u66 | 9 => u67 | 10 => u68 | _ => undef) rfl ?keep (fun _ => bD (bR W13)) ?steps ?fin
                  case keep =>
                    intro iv j hij hd l f f' w1 w2 hf hR
                    match j with
                    | 0 => exact fun h => (hf 0 (Ne.symm hij)).trans h
                    | 1 => exact fun h => (hf 1 (Ne.symm hij)).trans h
                    | 2 => exact fun h => (hf 2 (Ne.symm hij)).trans h
                    | 3 => exact fun h => (hf 3 (Ne.symm hij)).trans h
                    | 4 => exact fun h => (hf 4 (Ne.symm hij)).trans h
                    | 5 => exact fun h => (hf 5 (Ne.symm hij)).trans h
                    | 6 => exact fun h => (hf 6 (Ne.symm hij)).trans h
                    | 7 => exact fun h => (hf 7 (Ne.symm hij)).trans h
                    | 8 => exact fun h => (hf 8 (Ne.symm hij)).trans h
                    | 9 => exact fun h => (hf 9 (Ne.symm hij)).trans h
                    | 10 => exact fun h => (hf 10 (Ne.symm hij)).trans h
                    | 11 =>
                      intro h
                      have h : ∃ w9, Below W13.heap.size W13 w9 ∧ w1 = w9.setCell ⟨b15, aN, none⟩ (.int .i64 en) := h
                      show ∃ w9, Below W13.heap.size W13 w9 ∧ w2 = w9.setCell ⟨b15, aN, none⟩ (.int .i64 en)
                      exact hR.elim (fun e => absurd e hij) fun e => e ▸ h
                    | _ + 12 => exact id
                  case steps =>
                    refine fun iv hiv => stepsOf_at (k := 0) (n := 12) ?_ iv (Nat.zero_le _) (by rw [Nat.zero_add]; exact hiv)
                    refine stepsOf_cons (k := 0) (n := 11) ?_ ?_
                    · refine stepOf_run (at0) [] (by kernel_rfl) (fun _ _ => rfl) (fun f wq l hl hun hdn hS hd K' hK => ?_)
                      clear hd
                      have HK := Lib.hid hK
                      clear hK
                      have HSS := Lib.hid hS
                      clear hS
                      go_simp
                      exact HK.out _ _ _ rfl rfl (hq 0 l _ HSS.out) (rr _)
                    refine stepsOf_cons (k := 1) (n := 10) ?_ ?_
                    · refine stepOf_run (atS (at0)) [] (by kernel_rfl) (fun _ _ => rfl) (fun f wq l hl hun hdn hS hd K' hK => ?_)
                      clear hd
                      have HK := Lib.hid hK
                      clear hK
                      have HSS := Lib.hid hS
                      clear hS
                      go_simp
                      exact HK.out _ _ _ rfl rfl (hq 1 l _ HSS.out) (rr _)
                    refine stepsOf_cons (k := 2) (n := 9) ?_ ?_
                    · refine stepOf_run (atS (atS (at0))) [0, 1] (by kernel_rfl) (fun _ _ => rfl) (fun f wq l hl hun hdn hS hd K' hK => ?_)
                      obtain ⟨e0, e1, -⟩ := hd
                      have e0 : f 0 = .slice (some ⟨g, o, none⟩) n c := e0
                      have e1 : f 1 = .int .i64 k := e1
                      have HK := Lib.hid hK
                      clear hK
                      have HSS := Lib.hid hS
                      clear hS
                      simp only [e0, e1]
                      go_simp
                      exact HK.out _ _ _ (by simp only [e0, e1]; rfl) rfl (hq 2 l _ HSS.out) (rr _)
                    refine stepsOf_cons (k := 3) (n := 8) ?_ ?_
                    · refine stepOf_run (atS (atS (atS (at0)))) [2] (by kernel_rfl) (fun _ _ => rfl) (fun f wq l hl hun hdn hS hd K' hK => ?_)
                      obtain ⟨e2, -⟩ := hd
                      have e2 : f 2 = .pointer (some ⟨g, o + k * 4, none⟩) := e2
                      have HK := Lib.hid hK
                      clear hK
                      have HSS := Lib.hid hS
                      clear hS
                      simp only [e2]
                      go_simp
                      exact HK.out _ _ _ (by simp only [e2]; rfl) rfl (hq 3 l _ HSS.out) (rr _)
                    refine stepsOf_cons (k := 4) (n := 7) ?_ ?_
                    · refine stepOf_run (atS (atS (atS (atS (at0))))) [3] (by kernel_rfl) (fun _ _ => rfl) (fun f wq l hl hun hdn hS hd K' hK => ?_)
                      obtain ⟨e3, -⟩ := hd
                      have e3 : f 3 = .pointer (some ⟨g, o + k * 4 + 2, none⟩) := e3
                      have HK := Lib.hid hK
                      clear hK
                      have hbq := hS (hun 11 (of_decide_eq_true (by kernel_rfl)))
                      have hc := ((bT J13.out hbq).cell (cell_lt HCs.out.2.1)).trans HCs.out.2.1
                      clear hbq
                      have HSS := Lib.hid hS
                      clear hS
                      simp only [e3]
                      go_simp
                      exact HK.out _ _ _ (by simp only [e3]; rfl) rfl (hq 4 l _ HSS.out) (rr _)
                    refine stepsOf_cons (k := 5) (n := 6) ?_ ?_
                    · refine stepOf_run (atS (atS (atS (atS (atS (at0)))))) [] (by kernel_rfl) (fun _ _ => rfl) (fun f wq l hl hun hdn hS hd K' hK => ?_)
                      clear hd
                      have HK := Lib.hid hK
                      clear hK
                      have HSS := Lib.hid hS
                      clear hS
                      go_simp
                      exact HK.out _ _ _ rfl rfl (hq 5 l _ HSS.out) (rr _)
                    refine stepsOf_cons (k := 6) (n := 5) ?_ ?_
                    · refine stepOf_run (atS (atS (atS (atS (atS (atS (at0))))))) [] (by kernel_rfl) (fun _ _ => rfl) (fun f wq l hl hun hdn hS hd K' hK => ?_)
                      clear hd
                      have HK := Lib.hid hK
                      clear hK
                      have HSS := Lib.hid hS
                      clear hS
                      go_simp
                      exact HK.out _ _ _ rfl rfl (hq 6 l _ HSS.out) (rr _)
                    refine stepsOf_cons (k := 7) (n := 4) ?_ ?_
                    · refine stepOf_run (atS (atS (atS (atS (atS (atS (atS (at0)))))))) [5, 6] (by kernel_rfl) (fun _ _ => rfl) (fun f wq l hl hun hdn hS hd K' hK => ?_)
                      obtain ⟨e5, e6, -⟩ := hd
                      have e5 : f 5 = .slice (some ⟨g, o, none⟩) n c := e5
                      have e6 : f 6 = .int .i64 k := e6
                      have HK := Lib.hid hK
                      clear hK
                      have HSS := Lib.hid hS
                      clear hS
                      simp only [e5, e6]
                      go_simp
                      exact HK.out _ _ _ (by simp only [e5, e6]; rfl) rfl (hq 7 l _ HSS.out) (rr _)
                    refine stepsOf_cons (k := 8) (n := 3) ?_ ?_
                    · refine stepOf_run (atS (atS (atS (atS (atS (atS (atS (atS (at0))))))))) [7] (by kernel_rfl) (fun _ _ => rfl) (fun f wq l hl hun hdn hS hd K' hK => ?_)
                      obtain ⟨e7, -⟩ := hd
                      have e7 : f 7 = .pointer (some ⟨g, o + k * 4, none⟩) := e7
                      have HK := Lib.hid hK
                      clear hK
                      have HSS := Lib.hid hS
                      clear hS
                      simp only [e7]
                      go_simp
                      exact HK.out _ _ _ (by simp only [e7]; rfl) rfl (hq 8 l _ HSS.out) (rr _)
                    refine stepsOf_cons (k := 9) (n := 2) ?_ ?_
                    · refine stepOf_run (atS (atS (atS (atS (atS (atS (atS (atS (atS (at0)))))))))) [8] (by kernel_rfl) (fun _ _ => rfl) (fun f wq l hl hun hdn hS hd K' hK => ?_)
                      obtain ⟨e8, -⟩ := hd
                      have e8 : f 8 = .pointer (some ⟨g, o + k * 4 + 3, none⟩) := e8
                      have HK := Lib.hid hK
                      clear hK
                      have hbq := hS (hun 11 (of_decide_eq_true (by kernel_rfl)))
                      have hc := ((bT J13.out hbq).cell (cell_lt HCs.out.2.2)).trans HCs.out.2.2
                      clear hbq
                      have HSS := Lib.hid hS
                      clear hS
                      simp only [e8]
                      go_simp
                      exact HK.out _ _ _ (by simp only [e8]; rfl) rfl (hq 9 l _ HSS.out) (rr _)
                    refine stepsOf_cons (k := 10) (n := 1) ?_ ?_
                    · refine stepOf_run (atS (atS (atS (atS (atS (atS (atS (atS (atS (atS (at0))))))))))) [0, 1, 2, 3, 4, 5, 6, 7, 8, 9] (by kernel_rfl) (fun _ _ => rfl) (fun f wq l hl hun hdn hS hd K' hK => ?_)
                      obtain ⟨e0, e1, e2, e3, e4, e5, e6, e7, e8, e9, -⟩ := hd
                      have e0 : f 0 = .slice (some ⟨g, o, none⟩) n c := e0
                      have e1 : f 1 = .int .i64 k := e1
                      have e2 : f 2 = .pointer (some ⟨g, o + k * 4, none⟩) := e2
                      have e3 : f 3 = .pointer (some ⟨g, o + k * 4 + 2, none⟩) := e3
                      have e4 : f 4 = .int .i64 aN := e4
                      have e5 : f 5 = .slice (some ⟨g, o, none⟩) n c := e5
                      have e6 : f 6 = .int .i64 k := e6
                      have e7 : f 7 = .pointer (some ⟨g, o + k * 4, none⟩) := e7
                      have e8 : f 8 = .pointer (some ⟨g, o + k * 4 + 3, none⟩) := e8
                      have e9 : f 9 = .int .i64 en := e9
                      have HK := Lib.hid hK
                      clear hK
                      have HSS := Lib.hid hS
                      clear hS
                      simp only [e0, e1, e2, e3, e4, e5, e6, e7, e8, e9]
                      go_simp
                      exact HK.out _ _ _ (by simp only [e0, e1, e2, e3, e4, e5, e6, e7, e8, e9]; rfl) rfl (hq 10 l _ HSS.out) (rr _)
                    refine stepsOf_cons (k := 11) (n := 0) ?_ ?_
                    · refine stepOf_run (atS (atS (atS (atS (atS (atS (atS (atS (atS (atS (atS (at0)))))))))))) [0, 1, 2, 3, 4, 5, 6, 7, 8, 9, 10] (by kernel_rfl) (fun _ _ => rfl) (fun f wq l hl hun hdn hS hd K' hK => ?_)
                      obtain ⟨e0, e1, e2, e3, e4, e5, e6, e7, e8, e9, e10, -⟩ := hd
                      have e0 : f 0 = .slice (some ⟨g, o, none⟩) n c := e0
                      have e1 : f 1 = .int .i64 k := e1
                      have e2 : f 2 = .pointer (some ⟨g, o + k * 4, none⟩) := e2
                      have e3 : f 3 = .pointer (some ⟨g, o + k * 4 + 2, none⟩) := e3
                      have e4 : f 4 = .int .i64 aN := e4
                      have e5 : f 5 = .slice (some ⟨g, o, none⟩) n c := e5
                      have e6 : f 6 = .int .i64 k := e6
                      have e7 : f 7 = .pointer (some ⟨g, o + k * 4, none⟩) := e7
                      have e8 : f 8 = .pointer (some ⟨g, o + k * 4 + 3, none⟩) := e8
                      have e9 : f 9 = .int .i64 en := e9
                      have e10 : f 10 = .pointer (some ⟨b15, aN, none⟩) := e10
                      have HK := Lib.hid hK
                      clear hK
                      have hbq := hS hl
                      have hc := i4_at ha4 (blk_below hbq L15.out)
                      have hfz := not_frozen (i := aN) (blk_below hbq L15.out)
                      have HBq := Lib.hid hbq
                      clear hbq
                      have HSS := Lib.hid hS
                      clear hS
                      simp only [e0, e1, e2, e3, e4, e5, e6, e7, e8, e9, e10]
                      go_simp
                      exact HK.out undef _ _ (by simp only [e0, e1, e2, e3, e4, e5, e6, e7, e8, e9, e10]; rfl) ⟨_, HBq.out, rfl⟩ (fun g => absurd g (by simp)) (.inl rfl)
                    exact trivial
                  case fin =>
                    intro fo wz lo hl hall hS
                    have a0 : fo 0 = .slice (some ⟨g, o, none⟩) n c := hall 0 (by decide)
                    have a1 : fo 1 = .int .i64 k := hall 1 (by decide)
                    have a2 : fo 2 = .pointer (some ⟨g, o + k * 4, none⟩) := hall 2 (by decide)
                    have a3 : fo 3 = .pointer (some ⟨g, o + k * 4 + 2, none⟩) := hall 3 (by decide)
                    have a4 : fo 4 = .int .i64 aN := hall 4 (by decide)
                    have a5 : fo 5 = .slice (some ⟨g, o, none⟩) n c := hall 5 (by decide)
                    have a6 : fo 6 = .int .i64 k := hall 6 (by decide)
                    have a7 : fo 7 = .pointer (some ⟨g, o + k * 4, none⟩) := hall 7 (by decide)
                    have a8 : fo 8 = .pointer (some ⟨g, o + k * 4 + 3, none⟩) := hall 8 (by decide)
                    have a9 : fo 9 = .int .i64 en := hall 9 (by decide)
                    have a10 : fo 10 = .pointer (some ⟨b15, aN, none⟩) := hall 10 (by decide)
                    have a11 : ∃ w9, Below W13.heap.size W13 w9 ∧ wz = w9.setCell ⟨b15, aN, none⟩ (.int .i64 en) := hall 11 (by decide)
                    clear hall
                    obtain ⟨w9, hb9, hwz⟩ := a11
                    simp only [a0]
                    clear a0 a1 a2 a3 a4 a5 a6 a7 a8 a9 a10 hq rr hl hS q1 q2
                    obtain ⟨wE, rfl⟩ : ∃ x, x = wz := ⟨wz, rfl⟩
                    have M14 := Lib.hid (show wE.heap[b14]? = some (.cells (b8 (upd D k true)) 49) from by rw [hwz, set_other _ (by have := HLb.out; omega)]; exact blk_below hb9 L14.out)
                    have M15 := Lib.hid (show wE.heap[b15]? = some (.cells (i4 (upd M aN en)) 50) from by rw [hwz, set_same (blk_below hb9 L15.out), i4_set ha4])
                    have M16 := Lib.hid (show wE.heap[b16]? = some (.cells (i8 T) 51) from by rw [hwz, set_other _ (by have := HLb.out; omega)]; exact blk_below hb9 L16.out)
                    have JE := Lib.hid (show Below wo.heap.size wo wE from by rw [hwz]; exact bS (bT J13.out hb9) HGe.out.2.1)
                    have q1 := (JE.out.cell (cell_lt HCs.out.1)).trans HCs.out.1
                    clear hwz hb9
                    have HAr := Lib.hid (show ArrOk n (s.once e k) (upd D k true) (upd M aN en) (T) from by rw [HEe.out.2.2]; exact HD.out.store HS.out hkt HK2.out HEe.out.2.1 ha4)
                    obtain ⟨p0, p1, p2, p3, p4, p5, p6, p7⟩ := b8_all M14.out
                    obtain ⟨r0, r1, r2, r3⟩ := i4_all M15.out
                    obtain ⟨s0, s1, s2, s3, s4, s5, s6, s7⟩ := i8_all M16.out
                    have HTo := Lib.hid (tk_trans HTk.out (Tk.below (T := [32]) JE.out))
                    have HCl := Lib.hid (HIH.out (f - 1) (by have := HPos.out; omega) (s.once e k) (upd D k true) (upd M aN en) (T) (O ++ turnsL l (f - 1) s h) _ base wE (by rw [once_done]; exact HPos.out.2) (HEo.out.sees (Below.sees JE.out)) (by have h1 := once_ok HP.out (by rw [HLn.out]; exact HS.out) HX.out HDn.out; rw [HLn.out] at h1; exact h1) HAr.out (HSS.out.below JE.out) (Nat.le_trans (Nat.le_trans HBs.out HTk.out.1) JE.out.size) HLe.out)
                    go_wp2_with fail
                    refine HCl.out.mono ?_
                    rintro o w9 ⟨⟨v9, rfl, hss9⟩, htk9, hb9⟩
                    have HS9 := Lib.hid hss9
                    have HT9 := Lib.hid (tk_trans HTo.out htk9)
                    have HB9 := Lib.hid ((HBW.out.trans (JE.out.mono (Nat.le_trans HBs.out HTk.out.1))).trans hb9)
                    clear hss9 htk9 hb9 p0 p1 p2 p3 p4 p5 p6 p7 r0 r1 r2 r3 s0 s1 s2 s3 s4 s5 s6 s7
                    go_wp2_with fail
                    go_roundw
                    case rel => exact ⟨h + 1, by omega, by go_num, by rw [anyDue_succ, HDue.out]; simp, by rw [turns_some HDue.out HX.out, ← List.append_assoc]; exact HS9.out, HT9.out, HB9.out⟩
                    case measure => simp [intOf]; omega
                · have h2b : (ek == 2) = false := by simpa using h2
                  by_cases h1 : ek = 1
                  · have h1b : (ek == 1) = true := by simpa using h1
                    have HK1 := Lib.hid (show e.k = 1 from HEe.out.1.symm.trans h1)
                    clear h1 h2
                    have q7 := i4_at ha4 (blk_below J13.out H7o.out)
                    have q8 := i8_at (by omega : k < 8) L16.out
                    have hfz := not_frozen (i := k) L16.out
                    go_upto_region 18 with fail
                    obtain ⟨wE, hwE⟩ : ∃ X, X = W13.setCell ⟨b16, k, none⟩ (.int .i64 (M aN)) := ⟨_, rfl⟩
                    rw [← hwE]
                    have M14 := Lib.hid (show wE.heap[b14]? = some (.cells (b8 (upd D k true)) 49) from by rw [hwE, set_other _ (by have := HLb.out; omega)]; exact L14.out)
                    have M15 := Lib.hid (show wE.heap[b15]? = some (.cells (i4 M) 50) from by rw [hwE, set_other _ (by have := HLb.out; omega)]; exact L15.out)
                    have M16 := Lib.hid (show wE.heap[b16]? = some (.cells (i8 (upd T k (M aN))) 51) from by rw [hwE, set_same L16.out, i8_set (by omega)])
                    have JE := Lib.hid (show Below wo.heap.size wo wE from by rw [hwE]; exact bS J13.out HGe.out.2.2)
                    clear hwE q1 q2 q7 q8 hfz
                    have HAr := Lib.hid (show ArrOk n (s.once e k) (upd D k true) (M) (upd T k (M aN)) from HD.out.load HS.out hkt HK1.out HEe.out.2.1 ha4)
                    obtain ⟨p0, p1, p2, p3, p4, p5, p6, p7⟩ := b8_all M14.out
                    obtain ⟨r0, r1, r2, r3⟩ := i4_all M15.out
                    obtain ⟨s0, s1, s2, s3, s4, s5, s6, s7⟩ := i8_all M16.out
                    have HTo := Lib.hid (tk_trans HTk.out (Tk.below (T := [32]) JE.out))
                    have HCl := Lib.hid (HIH.out (f - 1) (by have := HPos.out; omega) (s.once e k) (upd D k true) (M) (upd T k (M aN)) (O ++ turnsL l (f - 1) s h) _ base wE (by rw [once_done]; exact HPos.out.2) (HEo.out.sees (Below.sees JE.out)) (by have h1 := once_ok HP.out (by rw [HLn.out]; exact HS.out) HX.out HDn.out; rw [HLn.out] at h1; exact h1) HAr.out (HSS.out.below JE.out) (Nat.le_trans (Nat.le_trans HBs.out HTk.out.1) JE.out.size) HLe.out)
                    go_wp2_with fail
                    refine HCl.out.mono ?_
                    rintro o w9 ⟨⟨v9, rfl, hss9⟩, htk9, hb9⟩
                    have HS9 := Lib.hid hss9
                    have HT9 := Lib.hid (tk_trans HTo.out htk9)
                    have HB9 := Lib.hid ((HBW.out.trans (JE.out.mono (Nat.le_trans HBs.out HTk.out.1))).trans hb9)
                    clear hss9 htk9 hb9 p0 p1 p2 p3 p4 p5 p6 p7 r0 r1 r2 r3 s0 s1 s2 s3 s4 s5 s6 s7
                    go_wp2_with fail
                    go_roundw
                    case rel => exact ⟨h + 1, by omega, by go_num, by rw [anyDue_succ, HDue.out]; simp, by rw [turns_some HDue.out HX.out, ← List.append_assoc]; exact HS9.out, HT9.out, HB9.out⟩
                    case measure => simp [intOf]; omega
                  · have h1b : (ek == 1) = false := by simpa using h1
                    have HK3 := Lib.hid (show e.k ≠ 1 ∧ e.k ≠ 2 from ⟨fun h => h1 (HEe.out.1.trans h), fun h => h2 (HEe.out.1.trans h)⟩)
                    clear h1 h2
                    have HAr := Lib.hid (show ArrOk n (s.once e k) (upd D k true) (M) (T) from HD.out.fence HS.out hkt HK3.out.1 HK3.out.2)
                    obtain ⟨p0, p1, p2, p3, p4, p5, p6, p7⟩ := b8_all L14.out
                    obtain ⟨r0, r1, r2, r3⟩ := i4_all L15.out
                    obtain ⟨s0, s1, s2, s3, s4, s5, s6, s7⟩ := i8_all L16.out
                    have HTo := Lib.hid (tk_trans HTk.out (Tk.below (T := [32]) J13.out))
                    have HCl := Lib.hid (HIH.out (f - 1) (by have := HPos.out; omega) (s.once e k) (upd D k true) (M) (T) (O ++ turnsL l (f - 1) s h) _ base W13 (by rw [once_done]; exact HPos.out.2) (HEo.out.sees (Below.sees J13.out)) (by have h1 := once_ok HP.out (by rw [HLn.out]; exact HS.out) HX.out HDn.out; rw [HLn.out] at h1; exact h1) HAr.out (HSS.out.below J13.out) (Nat.le_trans (Nat.le_trans HBs.out HTk.out.1) J13.out.size) HLe.out)
                    go_wp2_with fail
                    refine HCl.out.mono ?_
                    rintro o w9 ⟨⟨v9, rfl, hss9⟩, htk9, hb9⟩
                    have HS9 := Lib.hid hss9
                    have HT9 := Lib.hid (tk_trans HTo.out htk9)
                    have HB9 := Lib.hid ((HBW.out.trans (J13.out.mono (Nat.le_trans HBs.out HTk.out.1))).trans hb9)
                    clear hss9 htk9 hb9 p0 p1 p2 p3 p4 p5 p6 p7 r0 r1 r2 r3 s0 s1 s2 s3 s4 s5 s6 s7
                    go_wp2_with fail
                    go_roundw
                    case rel => exact ⟨h + 1, by omega, by go_num, by rw [anyDue_succ, HDue.out]; simp, by rw [turns_some HDue.out HX.out, ← List.append_assoc]; exact HS9.out, HT9.out, HB9.out⟩
                    case measure => simp [intOf]; omega
            · have hne : (eh != (h : Int)) = true := by simpa using hhe
              have HN := Lib.hid (show ∀ (j : Nat) (ej : Ev), j < k + 1 → l[j]? = some ej → ej.h = (h : Int) → s.dn j = true from fun j ej hj hx hxh => by
                rcases Nat.lt_or_ge j k with h1 | h1
                · exact HAl.out j ej h1 hx hxh
                · obtain rfl : j = k := by omega
                  have := HX.out
                  rw [hx] at this
                  obtain rfl := Option.some.inj this
                  exact absurd (HEh.out.trans hxh) hhe)
              clear hhe hd6
              go_wp2_with fail
              go_roundw
              case rel => exact ⟨k + 1, by omega, by go_num, HN.out, by first | trivial | rfl⟩
              case measure => simp [intOf]; omega
          · have hkb : decide ((k : Int) < (n : Int)) = false := by simp; omega
            have hke : ((k : Int) == (n : Int)) = true := by simp; omega
            have HNo := Lib.hid (show s.due l (h : Int) = none from by
              cases hd : s.due l (h : Int) with
              | none => rfl
              | some i =>
                obtain ⟨e, he, h1, h2, _⟩ := St.due_iff.1 hd
                rw [HAl.out i e (by have := (List.getElem?_eq_some_iff.1 he).1; have := HLn.out; omega) he h1] at h2
                cases h2)
            go_wp2_with fail
            go_roundw
            case rel => exact ⟨h + 1, by omega, by go_num, by rw [anyDue_succ, HNo.out, ← HAd.out]; simp, by rw [turns_none HNo.out]; exact HSS.out, HTk.out, HBW.out⟩
            case measure => simp [intOf]; omega
      · have hlb : decide ((h : Int) < 4) = false := by simp; omega
        have HH := Lib.hid (show h = 4 by omega)
        cases had : anyDue l s h with
        | true =>
          have HRes := Lib.hid (show SS wo base _ (O ++ singP l f s) from by
            have ho := anyDue_yes had
            have hex : ∃ i, s.dn i = false := by
              refine Classical.byContradiction fun hno => ?_
              have : ∀ i, s.dn i = true := fun i => by
                cases hd : s.dn i with
                | true => rfl
                | false => exact absurd ⟨i, hd⟩ hno
              rw [outcome_eq this] at ho
              cases ho
            obtain ⟨i, hi⟩ := hex
            have h1 := count_set_false (getD_false hi)
            have h2 := HCn.out
            rw [show f = (f - 1) + 1 by omega, singP_turns ho, ← HH.out]
            exact HSS.out)
          clear had
          go_wp2_with fail
          go_ret
          exact ⟨⟨_, rfl, HRes.out⟩, tk_trans HT0.out HTk.out, HBW.out⟩
        | false =>
          have hall := anyDue_no HP.out (by rw [HLn.out]; exact HS.out) (by rw [← HH.out]; exact had)
          have htn : turnsL l (f - 1) s h = [] := by
            have h1 : ∀ h : Nat, turnsL l (f - 1) s h = [] := fun h => by
              induction h with
              | zero => rfl
              | succ h ihh =>
                rw [turns_none, ihh]
                cases hd : s.due l (h : Int) with
                | none => rfl
                | some i =>
                  obtain ⟨_, _, _, h3, _⟩ := St.due_iff.1 hd
                  rw [hall i] at h3
                  cases h3
            exact h1 h
          rw [htn, List.append_nil] at HSS
          have HSn := Lib.hid (show singP l f s = [outK l s n] from by
            rw [singP_end hall]
            have h1 := outcome_eq (l := l) hall
            rw [outK_all HLn.out (fun j hj => by
              have h2 := hall j
              unfold St.dn at h2
              rw [List.getD_eq_getElem?_getD, List.getElem?_eq_getElem (by rw [HS.out.d]; exact hj)] at h2
              rw [List.getElem?_eq_getElem (by rw [HS.out.d]; exact hj)]
              exact congrArg some h2) HS.out.d] at h1
            rw [Option.some.inj h1])
          clear had hall htn
          go_wp2_with fail
          go_loopw [17, 18] (fun v17 vi wq => ∃ k : Nat, k ≤ n ∧ vi = .int .i64 k ∧ wq.ownsRow wo.heap.size 3 1 v17 (outK l s k).length (ints (outK l s k)) ∧ Below wo.heap.size wo wq) (fun _ vi _ => n - (intOf vi).toNat)
          case atStart => exact ⟨0, Nat.zero_le _, rfl, World.ownsRow_nil _ _ _ _, bR wo⟩
          case round =>
            obtain ⟨k, hk, rfl, hown, hbq⟩ := hrel
            obtain ⟨wi, rfl⟩ : ∃ x, x = wr := ⟨wr, rfl⟩
            have HOw := Lib.hid hown
            have HBQ := Lib.hid hbq
            clear hown hbq
            by_cases hkt : k < n
            · have hkb : decide ((k : Int) < (n : Int)) = true := by simp; omega
              have hkn : (k : Int) < (n : Int) := by omega
              have hk0 : decide ((k : Int) < 0) = false := by simp
              obtain ⟨g, o, e, hA, hek, hc0, hc1, hc2, hc3⟩ := (HEo.out.sees (Below.sees HBQ.out)).at_ hkt
              subst hA
              have hz : s.told[k]? = some (T k) := by
                rw [HD.out.t k hkt, List.getD_eq_getElem?_getD, List.getElem?_eq_getElem (by rw [HS.out.t]; exact hkt)]
                rfl
              have HKs := Lib.hid (outK_succ hek hz)
              have h8t := i8_at (by omega : k < 8) (blk_below HBQ.out H8o.out)
              have hk8 : (k : Int) < 8 := by omega
              obtain ⟨ek, hekk⟩ : ∃ q, q = e.k := ⟨_, rfl⟩
              rw [← hekk] at hc1 HKs
              have hlen := outK_len l s k
              obtain ⟨zs, hzs⟩ : ∃ zs, zs = outK l s k := ⟨_, rfl⟩
              rw [← hzs] at HOw HKs hlen
              obtain ⟨Ao, co, hvo, hco, _⟩ := own_slice HOw.out
              subst hvo
              clear hek hz hc0 hc2 hc3 hekk hzs
              by_cases h1 : ek = 1
              · have h1b : (ek == 1) = true := by simpa using h1
                rw [if_pos h1] at HKs
                obtain ⟨zt, hzt⟩ : ∃ q, q = T k := ⟨_, rfl⟩
                rw [← hzt] at h8t HKs
                have HOl := Lib.hid (own_tk (T := []) HOw.out (Tk.below (bA (o := .cells #[.int .i64 zt] 3) (bR wi))) (by simp))
                have HNw := Lib.hid (heap_alloc_new wi (.cells #[.int .i64 zt] 3))
                have HBa := Lib.hid (bA (o := .cells #[.int .i64 zt] 3) HBQ.out)
                clear h1 hzt
                go_wp2_with (at_builtin; refine wpList_append_rd _ rfl (.tmp 104) (.tmp 108) 32 rfl wo.heap.size 3 i0 _ 1 8 Tryz.underlying32 hi hz0 hz1 hz2 rfl (by decide) (.slice Ao zs.length co) zs.length _ rfl HOl.out (some ⟨wi.heap.size, 0, none⟩) 1 1 [.int .i64 zt] rfl ⟨rfl, fun _ => ⟨wi.heap.size, 0, rfl, blk_lt HNw.out, fun j u hu => one_cell HNw.out hu⟩⟩ (by simp [Value.oneCell']) (by unfold maxLen; omega) (by omega) HBa.out.size ?_; intro v' w3 hown' hgrow)
                go_roundw
                case rel =>
                  refine ⟨k + 1, by omega, by go_num, ?_, HBa.out.grown hgrow HBa.out.size (fun r e => (HOl.out.lt r e).1)⟩
                  rw [HKs.out, List.length_append]
                  simpa [ints] using hown'
                case measure => simp [intOf]; omega
              · have h1b : (ek == 1) = false := by simpa using h1
                rw [if_neg h1] at HKs
                clear h1
                go_wp2_with fail
                go_roundw
                case rel => exact ⟨k + 1, by omega, by go_num, by rw [HKs.out]; exact HOw.out, HBQ.out⟩
                case measure => simp [intOf]; omega
            · have hkb : decide ((k : Int) < (n : Int)) = false := by simp; omega
              obtain rfl : k = n := by omega
              obtain ⟨i1, hj, hy0, hy1, hy2⟩ := info_parts rows_info
              have hlen := outK_len l s k
              obtain ⟨zs, hzs⟩ : ∃ zs, zs = outK l s k := ⟨_, rfl⟩
              rw [← hzs] at HOw HSn hlen
              obtain ⟨Ao, co, hvo, hco, _⟩ := own_slice HOw.out
              subst hvo
              have HRo := Lib.hid (Row.of_own HOw.out)
              have HCo := Lib.hid hco
              obtain ⟨cs, hown, hcts⟩ := HSS.out
              obtain ⟨A4, c4, hv4, _, _⟩ := own_slice hown
              subst hv4
              obtain ⟨wX, hwX⟩ : ∃ X, X = wi.alloc (.cells #[.slice Ao zs.length co] 32) := ⟨_, rfl⟩
              have JX := Lib.hid (show Below wo.heap.size wo wX from hwX ▸ bA HBQ.out)
              have HOX := Lib.hid (own_tk (T := []) hown (Tk.below JX.out) (by simp))
              have HCX := Lib.hid (hcts.below JX.out)
              have HRX := Lib.hid (HRo.out.below (show Below wi.heap.size wi wX from hwX ▸ bA (bR wi)))
              have HNw := Lib.hid (show wX.heap[wi.heap.size]? = some (.cells #[.slice Ao zs.length co] 32) from hwX ▸ heap_alloc_new wi _)
              have HOlen := Lib.hid (show O.length ≤ 1000000 from Nat.le_trans (Nat.le_add_right _ _) HOl.out)
              have HbX := Lib.hid (show base ≤ wX.heap.size from Nat.le_trans (Nat.le_trans HBs.out HTk.out.1) JX.out.size)
              have hm := HOlen.out
              have HwX := Lib.hid hwX
              clear hown hcts hwX hzs hco
              go_wp2_with (at_builtin; (try rw [← HwX.out]); refine wpList_append_rd _ rfl (.tmp 110) (.tmp 112) 36 rfl base 32 i1 _ 1 24 Tryz.underlying36 hj hy0 hy1 hy2 rfl (by decide) (.slice A4 O.length c4) O.length cs rfl HOX.out (some ⟨wi.heap.size, 0, none⟩) 1 1 [.slice Ao zs.length co] rfl ⟨rfl, fun _ => ⟨wi.heap.size, 0, rfl, blk_lt HNw.out, fun j u hu => one_cell HNw.out hu⟩⟩ (by simp [Value.oneCell']) (by unfold maxLen; omega) (by omega) HbX.out ?_; intro v' w3 hown' hgrow)
              go_ret
              have hT3 := tk_grown HOX.out hgrow
              refine ⟨⟨_, rfl, ?_⟩, ?_, ?_⟩
              · rw [HSn.out]
                exact SS.snoc HCX.out HRX.out HCo.out hown' hT3
              · exact tk_trans (tk_trans (tk_trans HT0.out HTk.out) (Tk.below JX.out)) hT3
              · exact (HBW.out.trans (JX.out.mono (Nat.le_trans HBs.out HTk.out.1))).grown hgrow HbX.out (fun r e => (HOX.out.lt r e).1)
end Go.Proofs.YtnigadeohmlpiaaGreatDoor

namespace Go.Proofs.YtnigadeohmlpiaaGreatDoor
open Go.RowKit
attribute [local go_sem] Oper.semAt_some

/-- events with fences between all -/
def fenL (l : List Ev) : List Ev := l.flatMap fun e => [e, ⟨e.h, 3, 0, 0⟩]
theorem fenL_len (l : List Ev) : (fenL l).length = l.length * 2 := by
  induction l with
  | nil => rfl
  | cons e l ih =>
    have : fenL (e :: l) = [e, ⟨e.h, 3, 0, 0⟩] ++ fenL l := rfl
    rw [this, List.length_append, ih]
    simp
    omega
theorem fenL_succ {l : List Ev} {k : Nat} {e : Ev} (he : l[k]? = some e) : fenL (l.take (k + 1)) = fenL (l.take k) ++ [e, ⟨e.h, 3, 0, 0⟩] := by
  unfold fenL
  rw [List.take_add_one, he, List.flatMap_append]
  rfl
theorem fenL_prog {l : List Ev} (hl : Prog l) (h3 : l.length ≤ 3) : Prog (fenL l) := by
  have key : ∀ x ∈ fenL l, ∃ e ∈ l, x = e ∨ x = ⟨e.h, 3, 0, 0⟩ := fun x hx => by
    obtain ⟨e, he, h⟩ := List.mem_flatMap.1 hx
    simp at h
    exact ⟨e, he, h⟩
  refine ⟨by rw [fenL_len]; omega, fun x hx => ?_, fun x hx hk => ?_⟩
  · obtain ⟨e, he, rfl | rfl⟩ := key x hx
    · exact hl.ok _ he
    · exact ⟨(hl.ok e he).h, ⟨by show (1 : Int) ≤ 3; omega, by show (3 : Int) ≤ 3; omega⟩, ⟨by show (0 : Int) ≤ 0; omega, by show (0 : Int) < 4; omega⟩, i32_zero, fun _ => ⟨rfl, rfl⟩⟩
  · obtain ⟨e, he, rfl | rfl⟩ := key x hx
    · exact hl.odd _ he hk
    · exact absurd hk (by show ¬(3 : Int) = 1; omega)
theorem fenL_fenced : ∀ l : List Ev, Fenced (fenL l)
  | [], i, e, h, _ => by simp [fenL] at h
  | x :: l, i, e, h, h2 => by
    have hc : fenL (x :: l) = x :: ⟨x.h, 3, 0, 0⟩ :: fenL l := rfl
    rw [hc] at h ⊢
    match i with
    | 0 =>
      obtain rfl : x = e := Option.some.inj h
      exact ⟨_, rfl, rfl, rfl⟩
    | 1 =>
      have h : some (⟨x.h, 3, 0, 0⟩ : Ev) = some e := h
      obtain rfl := Option.some.inj h
      exact absurd h2 (by show ¬(3 : Int) = 2; omega)
    | i + 2 => exact fenL_fenced l i e h h2

theorem arr_first (n : Nat) : ArrOk n (St.first n) (fun _ => false) (fun _ => 0) (fun _ => 0) := by
  refine ⟨fun i hi => ?_, fun a ha => ?_, fun i hi => ?_⟩
  · unfold St.dn St.first
    simp [List.getD_eq_getElem?_getD, hi]
  · match a, ha with
    | 0, _ | 1, _ | 2, _ | 3, _ => rfl
  · simp [St.first, List.getD_eq_getElem?_getD, hi]
/-- the outcomes of events that are done one by one, from the beginning -/
def singL (l : List Ev) : List (List Int) := singP l 6 (St.first l.length)
theorem singly_first (A : Option Addr) (n c : Nat) (l : List Ev) (hl : Prog l) (w : World) (he : IsEvs w A n c l) :
    Calls Tryz.prog 26 #[.slice A n c, .agg (b8 fun _ => false), .agg (i4 fun _ => 0), .agg (i8 fun _ => 0), .slice none 0 0] w fun o w' => (∃ v', o = .returned v' ∧ SS w' w.heap.size v' (singL l)) ∧ Below w.heap.size w w' := by
  have hn := he.len
  refine (singly26_any A n c l hl hn 6 (St.first n) _ _ _ [] _ w.heap.size w ?_ he (St.first_ok n) (arr_first n) (SS.nil _ _) (Nat.le_refl _) (by decide)).mono ?_
  · rw [first_count]
    have := hl.few
    omega
  · rintro o w' ⟨⟨v', rfl, h1⟩, _, h2⟩
    refine ⟨⟨v', rfl, ?_⟩, h2⟩
    unfold singL
    rw [hn]
    exact h1
theorem singL_played {l : List Ev} (hl : Prog l) : ∀ z ∈ singL l, ∃ xs, playP l xs = some z := singly_played hl hl.few
theorem singL_fenced {l : List Ev} (hl : Prog l) (h3 : l.length ≤ 3) {z : List Int} (hp : ∃ xs, playP (fenL l) xs = some z) : z ∈ singL (fenL l) := by
  obtain ⟨xs, hp⟩ := hp
  exact fenced_singly (fenL_prog hl h3) (fenL_fenced l) (fenL_prog hl h3).few hp

set_option maxHeartbeats 16000000 in
set_option maxRecDepth 100000 in
theorem singly7_any (A : Option Addr) (n c : Nat) (L : List R4) (w : World) (h : IsRaw w A n L) (hn : n ≤ 9223372036854775807) (hG : Glob w) :
    Calls Tryz.prog 7 #[.slice A n c] w fun o w' => o = .returned (.bool true) ∧ Below w.heap.size w w' := by
  obtain ⟨i0, hi, hz0, hz1, hz2⟩ := info_parts ev_info
  have HR := Lib.hid h
  have HG := Lib.hid hG
  have HAw := Lib.hid (awake_any w hG)
  have HNn := Lib.hid hn
  clear h hG
  go_enter Tryz.func7, Tryz.ntmps7
  go_wp2_with fail
  refine HAw.out.mono ?_
  rintro o w1 ⟨rfl, hb1⟩
  have HB1 := Lib.hid hb1
  have HF := Lib.hid (fit11_any A n c L w1 (HR.out.below hb1) HNn.out)
  have HG1 := Lib.hid (HG.out.below hb1)
  clear hb1
  go_wp2_with fail
  refine HF.out.mono ?_
  rintro o w2 ⟨⟨A2, c2, rfl, hown2, hc2⟩, hb2⟩
  obtain ⟨pl, hpl⟩ : ∃ l, l = fitL L := ⟨_, rfl⟩
  obtain ⟨m, hm⟩ : ∃ m, m = (fitL L).length := ⟨_, rfl⟩
  obtain ⟨n4, hn4⟩ : ∃ q, q = min m 3 := ⟨_, rfl⟩
  obtain ⟨p3, hp3⟩ : ∃ l, l = (fitL L).take n4 := ⟨_, rfl⟩
  have hll : p3.length = n4 := by rw [hp3, List.length_take]; omega
  have HP := Lib.hid (show Prog pl from hpl ▸ fitL_prog L)
  have HP3 := Lib.hid (show Prog p3 from hp3 ▸ prog_take (fitL_prog L) _)
  have h44 : n4 ≤ 3 := by omega
  have hnm : n4 ≤ m := by omega
  rw [← hm] at hown2 hc2 ⊢
  rw [← hpl] at hown2 hm
  have HEl := Lib.hid (show IsEvs w2 A2 m c2 pl from ⟨hm.symm, hc2, Row.of_own hown2⟩)
  have HE := Lib.hid (show IsEvs w2 A2 n4 c2 p3 from ⟨hll, by omega, by
    have h1 := Row.of_own hown2
    have hms := Nat.mul_le_mul_right 4 hnm
    refine ⟨by rw [evCells_len, hll], fun hp => ?_⟩
    obtain ⟨b, off, cur, fz, k1, k2, k3⟩ := h1.2 (by omega)
    refine ⟨b, off, cur, fz, k1, k2, fun j u hu => k3 j u ?_⟩
    rw [hp3, ← hpl, evCells_take, List.getElem?_take] at hu
    split at hu
    · exact hu
    · cases hu⟩)
  have HW2 := Lib.hid (bT HB1.out hb2)
  have HG2 := Lib.hid (HG1.out.below hb2)
  have HLl := Lib.hid hll
  have hmin : (min (m : Int) 3) = (n4 : Int) := by omega
  have hs1 : (n4 : Int) ≤ (c2 : Int) := by omega
  have hs0 : (0 : Int) ≤ (n4 : Int) := by omega
  clear hpl hm hn4 hp3 hll hown2 hb2 hc2 hnm
  go_wp2_with fail
  clear hmin hs1 hs0
  obtain ⟨wB, rfl⟩ : ∃ x, x = w2 := ⟨w2, rfl⟩
  go_loopw [6, 7] (fun v6 vi wr => ∃ k : Nat, k ≤ n4 ∧ vi = .int .i64 k ∧ wr.ownsRow wB.heap.size 44 4 v6 (fenL (p3.take k)).length (evCells (fenL (p3.take k))) ∧ Below wB.heap.size wB wr) (fun _ vi _ => n4 - (intOf vi).toNat)
  case atStart => exact ⟨0, by omega, rfl, World.ownsRow_nil _ _ _ _, bR wB⟩
  case round =>
    obtain ⟨k, hk, rfl, hown, hbw⟩ := hrel
    obtain ⟨wo, rfl⟩ : ∃ x, x = wr := ⟨wr, rfl⟩
    have HO := Lib.hid hown
    have HBW := Lib.hid hbw
    clear hown hbw
    by_cases hlt : k < n4
    · have hlb : decide ((k : Int) < (n4 : Int)) = true := by simp; omega
      have hkn : (k : Int) < (n4 : Int) := by omega
      have hk0 : decide ((k : Int) < 0) = false := by simp
      obtain ⟨g, o, e, hA, hek, hc0, hc1, hc2, hc3⟩ := (show IsEvs wo A2 n4 c2 p3 from HE.out.sees (Below.sees HBW.out)).at_ hlt
      subst hA
      have HX := Lib.hid hek
      obtain ⟨eh, heh⟩ : ∃ q, q = e.h := ⟨_, rfl⟩
      rw [← heh] at hc0
      have HEh := Lib.hid heh
      have HCs := Lib.hid (show ∀ wx : World, Below wB.heap.size wB wx → wx.cell? ⟨g, o + k * 4, none⟩ = some (.int .i64 eh) ∧ wx.cell? ⟨g, o + k * 4 + 1, none⟩ = some (.int .i64 e.k) ∧ wx.cell? ⟨g, o + k * 4 + 2, none⟩ = some (.int .i64 e.a) ∧ wx.cell? ⟨g, o + k * 4 + 3, none⟩ = some (.int .i64 e.n) from fun wx hb => by
        obtain ⟨g', o', e', hA', hek', k0, k1, k2, k3⟩ := (show IsEvs wx (some ⟨g, o, none⟩) n4 c2 p3 from HE.out.sees (Below.sees hb)).at_ hlt
        simp only [Option.some.injEq, Addr.mk.injEq, and_true] at hA'
        obtain ⟨rfl, rfl⟩ := hA'
        obtain rfl : e' = e := Option.some.inj (hek'.symm.trans hek)
        rw [← heh] at k0
        exact ⟨k0, k1, k2, k3⟩)
      obtain ⟨q, hq⟩ : ∃ q, q = (fenL (p3.take k)).length := ⟨_, rfl⟩
      have hq6 : q ≤ 6 := by rw [hq, fenL_len, List.length_take]; omega
      rw [← hq] at HO
      have HQ := Lib.hid hq
      obtain ⟨A6, c6, hv6, _, _⟩ := own_slice HO.out
      subst hv6
      clear hek heh hc0 hc1 hc2 hc3 hq
      go_upto_region 8 with fail
      refine wp_region_detf (by kernel_rfl) (fun f => (⟨#[Value.slice A n c, undef, Value.bool false, Value.bool true, Value.slice (some ⟨g, o, none⟩) m c2, Value.slice (some ⟨g, o, none⟩) n4 c2, f 13, .int .i64 (k : Int), undef, undef, undef, undef, undef, undef, undef, undef, undef, undef, undef, undef, Value.bool true, Value.slice A n c, Value.slice (some ⟨g, o, none⟩) m c2, Value.slice (some ⟨g, o, none⟩) m c2, Value.slice (some ⟨g, o, none⟩) m c2, .int .i64 (m : Int), .int .i64 (n4 : Int), Value.slice (some ⟨g, o, none⟩) n4 c2, .int .i64 (k : Int), Value.slice (some ⟨g, o, none⟩) n4 c2, .int .i64 (n4 : Int), Value.bool true, u32, u33, f 0, f 1, f 2, f 3, f 4, f 5, f 6, f 7, f 8, f 9, f 10, f 11, f 12, undef, undef, undef, undef, undef, undef, undef, undef, undef, undef, undef, undef, undef, undef, undef, undef, undef, undef, undef, undef, undef, undef, undef, undef, undef, undef, undef, undef, undef, undef, undef, undef, undef, undef, undef, undef, undef, undef, undef, undef, undef, undef, undef, undef, undef, undef, undef, undef, undef, undef, undef, undef, undef, undef, undef, undef, undef, undef, undef, undef, undef, undef, undef, undef, undef, undef, undef, undef, undef, undef, undef, undef, undef, undef, undef, undef, undef, undef, undef, undef], []⟩ : Act)) (fun (iv : Nat) (lv : Nat → Bool) (fv : Nat → Value) (wx : World) => match iv with | 0 => fv 0 = .slice A6 q c6 | 1 => fv 1 = .slice (some ⟨g, o, none⟩) n4 c2 | 2 => fv 2 = .int .i64 k | 3 => fv 3 = .pointer (some ⟨g, o + k * 4, none⟩) | 4 => fv 4 = .agg #[.int .i64 eh, .int .i64 e.k, .int .i64 e.a, .int .i64 e.n] | 5 => fv 5 = .slice (some ⟨g, o, none⟩) n4 c2 | 6 => fv 6 = .int .i64 k | 7 => fv 7 = .pointer (some ⟨g, o + k * 4, none⟩) | 8 => fv 8 = .pointer (some ⟨g, o + k * 4, none⟩) | 9 => fv 9 = .int .i64 eh | 10 => fv 10 = .agg #[.int .i64 eh, .int .i64 3, .int .i64 0, .int .i64 0] | 11 => ∃ b, (fv 11) = .slice (some ⟨b, 0, none⟩) 2 2 ∧ ((lv 12) = false → wx.heap[b]? = some (.cells #[.int .i64 eh, .int .i64 e.k, .int .i64 e.a, .int .i64 e.n, .int .i64 eh, .int .i64 3, .int .i64 0, .int .i64 0] 44)) | 12 => wx.ownsRow wB.heap.size 44 4 (fv 12) (q + 2) (evCells (fenL (p3.take k)) ++ [.int .i64 eh, .int .i64 e.k, .int .i64 e.a, .int .i64 e.n, .int .i64 eh, .int .i64 3, .int .i64 0, .int .i64 0]) | 13 => (fv 13) = (fv 12) | _ => True) (fun (lv : Nat → Bool) (fv : Nat → Value) (wx : World) => (lv 13 = false → fv 13 = .slice A6 q c6) ∧ Below wB.heap.size wB wx ∧ (lv 12 = false → Below wo.heap.size wo wx)) (fun (iv : Nat) (w1 : World) (w2 : World) => (iv = 12 ∨ Below w1.heap.size w1 w2)) (by kernel_rfl) (fun k => match k with | 0 => u34 | 1 => u35 | 2 => u36 | 3 => u37 | 4 => u38 | 5 => u39 | 6 => u40 | 7 => u41 | 8 => u42 | 9 => u43 | 10 => u44 | 11 => u45 | 12 => u46 | 13 => Value.slice A6 q c6 | _ => undef) rfl ?keep ⟨fun _ => rfl, bD HBW.out, fun _ => bD (bR wo)⟩ ?steps ?fin
      case keep =>
        intro iv j hij hd l f f' w1 w2 hf hR
        match j with
        | 0 => exact fun h => (hf 0 (Ne.symm hij)).trans h
        | 1 => exact fun h => (hf 1 (Ne.symm hij)).trans h
        | 2 => exact fun h => (hf 2 (Ne.symm hij)).trans h
        | 3 => exact fun h => (hf 3 (Ne.symm hij)).trans h
        | 4 => exact fun h => (hf 4 (Ne.symm hij)).trans h
        | 5 => exact fun h => (hf 5 (Ne.symm hij)).trans h
        | 6 => exact fun h => (hf 6 (Ne.symm hij)).trans h
        | 7 => exact fun h => (hf 7 (Ne.symm hij)).trans h
        | 8 => exact fun h => (hf 8 (Ne.symm hij)).trans h
        | 9 => exact fun h => (hf 9 (Ne.symm hij)).trans h
        | 10 => exact fun h => (hf 10 (Ne.symm hij)).trans h
        | 11 =>
          intro h
          have h : ∃ b, (f 11) = .slice (some ⟨b, 0, none⟩) 2 2 ∧ ((l 12) = false → w1.heap[b]? = some (.cells #[.int .i64 eh, .int .i64 e.k, .int .i64 e.a, .int .i64 e.n, .int .i64 eh, .int .i64 3, .int .i64 0, .int .i64 0] 44)) := h
          show ∃ b, (f' 11) = .slice (some ⟨b, 0, none⟩) 2 2 ∧ ((decide (12 = iv) || l 12) = false → w2.heap[b]? = some (.cells #[.int .i64 eh, .int .i64 e.k, .int .i64 e.a, .int .i64 e.n, .int .i64 eh, .int .i64 3, .int .i64 0, .int .i64 0] 44))
          rw [hf 11 (Ne.symm hij)]
          exact h.imp fun b h => ⟨h.1, fun g12 => hR.elim (fun e => absurd g12 (by simp [e])) fun hb => blk_below hb (h.2 (Bool.or_eq_false_iff.1 g12).2)⟩
        | 12 =>
          intro h
          have h : w1.ownsRow wB.heap.size 44 4 (f 12) (q + 2) (evCells (fenL (p3.take k)) ++ [.int .i64 eh, .int .i64 e.k, .int .i64 e.a, .int .i64 e.n, .int .i64 eh, .int .i64 3, .int .i64 0, .int .i64 0]) := h
          show w2.ownsRow wB.heap.size 44 4 (f' 12) (q + 2) (evCells (fenL (p3.take k)) ++ [.int .i64 eh, .int .i64 e.k, .int .i64 e.a, .int .i64 e.n, .int .i64 eh, .int .i64 3, .int .i64 0, .int .i64 0])
          rw [hf 12 (Ne.symm hij)]
          exact hR.elim (fun e => absurd e hij) fun hb => own_tk (T := []) h (Tk.below hb) (by simp)
        | 13 =>
          intro h
          have h : (f 13) = (f 12) := h
          show (f' 13) = (f' 12)
          rw [hf 13 (Ne.symm hij), hf 12 (fun e => hd (e ▸ of_decide_eq_true (by kernel_rfl)))]
          exact h
        | _ + 14 => exact id
      case steps =>
        refine fun iv hiv => stepsOff_at (k := 0) (n := 14) ?_ iv (Nat.zero_le _) (by rw [Nat.zero_add]; exact hiv)
        refine stepsOff_cons (k := 0) (n := 13) ?_ ?_
        · refine stepOff_run (at0) [] (by kernel_rfl) (fun _ _ => rfl) (fun f wq l hl hun hdn hS hd K' hK => ?_)
          clear hd
          have HK := Lib.hid hK
          clear hK
          have e13 := hS.1 (hun 13 (of_decide_eq_true (by kernel_rfl)))
          have HSS := Lib.hid hS
          clear hS
          simp only [e13]
          go_simp
          exact HK.out _ _ _ (by simp only [e13]; rfl) rfl ⟨fun h => HSS.out.1 (Bool.or_eq_false_iff.1 h).2, HSS.out.2.1, fun h => HSS.out.2.2 (Bool.or_eq_false_iff.1 h).2⟩ (.inr (bR wq))
        refine stepsOff_cons (k := 1) (n := 12) ?_ ?_
        · refine stepOff_run (atS (at0)) [] (by kernel_rfl) (fun _ _ => rfl) (fun f wq l hl hun hdn hS hd K' hK => ?_)
          clear hd
          have HK := Lib.hid hK
          clear hK
          have HSS := Lib.hid hS
          clear hS
          go_simp
          exact HK.out _ _ _ rfl rfl ⟨fun h => HSS.out.1 (Bool.or_eq_false_iff.1 h).2, HSS.out.2.1, fun h => HSS.out.2.2 (Bool.or_eq_false_iff.1 h).2⟩ (.inr (bR wq))
        refine stepsOff_cons (k := 2) (n := 11) ?_ ?_
        · refine stepOff_run (atS (atS (at0))) [] (by kernel_rfl) (fun _ _ => rfl) (fun f wq l hl hun hdn hS hd K' hK => ?_)
          clear hd
          have HK := Lib.hid hK
          clear hK
          have HSS := Lib.hid hS
          clear hS
          go_simp
          exact HK.out _ _ _ rfl rfl ⟨fun h => HSS.out.1 (Bool.or_eq_false_iff.1 h).2, HSS.out.2.1, fun h => HSS.out.2.2 (Bool.or_eq_false_iff.1 h).2⟩ (.inr (bR wq))
        refine stepsOff_cons (k := 3) (n := 10) ?_ ?_
        · refine stepOff_run (atS (atS (atS (at0)))) [1, 2] (by kernel_rfl) (fun _ _ => rfl) (fun f wq l hl hun hdn hS hd K' hK => ?_)
          obtain ⟨e1, e2, -⟩ := hd
          have e1 : f 1 = .slice (some ⟨g, o, none⟩) n4 c2 := e1
          have e2 : f 2 = .int .i64 k := e2
          have HK := Lib.hid hK
          clear hK
          have HSS := Lib.hid hS
          clear hS
          simp only [e1, e2]
          go_simp
          exact HK.out _ _ _ (by simp only [e1, e2]; rfl) rfl ⟨fun h => HSS.out.1 (Bool.or_eq_false_iff.1 h).2, HSS.out.2.1, fun h => HSS.out.2.2 (Bool.or_eq_false_iff.1 h).2⟩ (.inr (bR wq))
        refine stepsOff_cons (k := 4) (n := 9) ?_ ?_
        · refine stepOff_run (atS (atS (atS (atS (at0))))) [3] (by kernel_rfl) (fun _ _ => rfl) (fun f wq l hl hun hdn hS hd K' hK => ?_)
          obtain ⟨e3, -⟩ := hd
          have e3 : f 3 = .pointer (some ⟨g, o + k * 4, none⟩) := e3
          have HK := Lib.hid hK
          clear hK
          obtain ⟨z0, z1, z2, z3⟩ := HCs.out wq hS.2.1
          have HSS := Lib.hid hS
          clear hS
          simp only [e3]
          go_simp
          exact HK.out _ _ _ (by simp only [e3]; rfl) rfl ⟨fun h => HSS.out.1 (Bool.or_eq_false_iff.1 h).2, HSS.out.2.1, fun h => HSS.out.2.2 (Bool.or_eq_false_iff.1 h).2⟩ (.inr (bR wq))
        refine stepsOff_cons (k := 5) (n := 8) ?_ ?_
        · refine stepOff_run (atS (atS (atS (atS (atS (at0)))))) [] (by kernel_rfl) (fun _ _ => rfl) (fun f wq l hl hun hdn hS hd K' hK => ?_)
          clear hd
          have HK := Lib.hid hK
          clear hK
          have HSS := Lib.hid hS
          clear hS
          go_simp
          exact HK.out _ _ _ rfl rfl ⟨fun h => HSS.out.1 (Bool.or_eq_false_iff.1 h).2, HSS.out.2.1, fun h => HSS.out.2.2 (Bool.or_eq_false_iff.1 h).2⟩ (.inr (bR wq))
        refine stepsOff_cons (k := 6) (n := 7) ?_ ?_
        · refine stepOff_run (atS (atS (atS (atS (atS (atS (at0))))))) [] (by kernel_rfl) (fun _ _ => rfl) (fun f wq l hl hun hdn hS hd K' hK => ?_)
          clear hd
          have HK := Lib.hid hK
          clear hK
          have HSS := Lib.hid hS
          clear hS
          go_simp
          exact HK.out _ _ _ rfl rfl ⟨fun h => HSS.out.1 (Bool.or_eq_false_iff.1 h).2, HSS.out.2.1, fun h => HSS.out.2.2 (Bool.or_eq_false_iff.1 h).2⟩ (.inr (bR wq))
        refine stepsOff_cons (k := 7) (n := 6) ?_ ?_
        · refine stepOff_run (atS (atS (atS (atS (atS (atS (atS (at0)))))))) [5, 6] (by kernel_rfl) (fun _ _ => rfl) (fun f wq l hl hun hdn hS hd K' hK => ?_)
          obtain ⟨e5, e6, -⟩ := hd
          have e5 : f 5 = .slice (some ⟨g, o, none⟩) n4 c2 := e5
          have e6 : f 6 = .int .i64 k := e6
          have HK := Lib.hid hK
          clear hK
          have HSS := Lib.hid hS
          clear hS
          simp only [e5, e6]
          go_simp
          exact HK.out _ _ _ (by simp only [e5, e6]; rfl) rfl ⟨fun h => HSS.out.1 (Bool.or_eq_false_iff.1 h).2, HSS.out.2.1, fun h => HSS.out.2.2 (Bool.or_eq_false_iff.1 h).2⟩ (.inr (bR wq))
        refine stepsOff_cons (k := 8) (n := 5) ?_ ?_
        · refine stepOff_run (atS (atS (atS (atS (atS (atS (atS (atS (at0))))))))) [7] (by kernel_rfl) (fun _ _ => rfl) (fun f wq l hl hun hdn hS hd K' hK => ?_)
          obtain ⟨e7, -⟩ := hd
          have e7 : f 7 = .pointer (some ⟨g, o + k * 4, none⟩) := e7
          have HK := Lib.hid hK
          clear hK
          have HSS := Lib.hid hS
          clear hS
          simp only [e7]
          go_simp
          exact HK.out _ _ _ (by simp only [e7]; rfl) rfl ⟨fun h => HSS.out.1 (Bool.or_eq_false_iff.1 h).2, HSS.out.2.1, fun h => HSS.out.2.2 (Bool.or_eq_false_iff.1 h).2⟩ (.inr (bR wq))
        refine stepsOff_cons (k := 9) (n := 4) ?_ ?_
        · refine stepOff_run (atS (atS (atS (atS (atS (atS (atS (atS (atS (at0)))))))))) [8] (by kernel_rfl) (fun _ _ => rfl) (fun f wq l hl hun hdn hS hd K' hK => ?_)
          obtain ⟨e8, -⟩ := hd
          have e8 : f 8 = .pointer (some ⟨g, o + k * 4, none⟩) := e8
          have HK := Lib.hid hK
          clear hK
          have z0 := (HCs.out wq hS.2.1).1
          have HSS := Lib.hid hS
          clear hS
          simp only [e8]
          go_simp
          exact HK.out _ _ _ (by simp only [e8]; rfl) rfl ⟨fun h => HSS.out.1 (Bool.or_eq_false_iff.1 h).2, HSS.out.2.1, fun h => HSS.out.2.2 (Bool.or_eq_false_iff.1 h).2⟩ (.inr (bR wq))
        refine stepsOff_cons (k := 10) (n := 3) ?_ ?_
        · refine stepOff_run (atS (atS (atS (atS (atS (atS (atS (atS (atS (atS (at0))))))))))) [9] (by kernel_rfl) (fun _ _ => rfl) (fun f wq l hl hun hdn hS hd K' hK => ?_)
          obtain ⟨e9, -⟩ := hd
          have e9 : f 9 = .int .i64 eh := e9
          have HK := Lib.hid hK
          clear hK
          have HSS := Lib.hid hS
          clear hS
          simp only [e9]
          go_simp
          exact HK.out _ _ _ (by simp only [e9]; rfl) rfl ⟨fun h => HSS.out.1 (Bool.or_eq_false_iff.1 h).2, HSS.out.2.1, fun h => HSS.out.2.2 (Bool.or_eq_false_iff.1 h).2⟩ (.inr (bR wq))
        refine stepsOff_cons (k := 11) (n := 2) ?_ ?_
        · refine stepOff_run (atS (atS (atS (atS (atS (atS (atS (atS (atS (atS (atS (at0)))))))))))) [4, 10] (by kernel_rfl) (fun _ _ => rfl) (fun f wq l hl hun hdn hS hd K' hK => ?_)
          obtain ⟨e4, e10, -⟩ := hd
          have e4 : f 4 = .agg #[.int .i64 eh, .int .i64 e.k, .int .i64 e.a, .int .i64 e.n] := e4
          have e10 : f 10 = .agg #[.int .i64 eh, .int .i64 3, .int .i64 0, .int .i64 0] := e10
          have HK := Lib.hid hK
          clear hK
          have HSS := Lib.hid hS
          clear hS
          simp only [e4, e10]
          go_simp
          exact HK.out _ _ _ (by simp only [e4, e10]; rfl) ⟨_, rfl, fun _ => heap_alloc_new wq _⟩ ⟨fun h => HSS.out.1 (Bool.or_eq_false_iff.1 h).2, HSS.out.2.1.trans ((bA (bR wq)).mono HSS.out.2.1.size), fun h => bA (HSS.out.2.2 (Bool.or_eq_false_iff.1 h).2)⟩ (.inr (bA (bR wq)))
        refine stepsOff_cons (k := 12) (n := 1) ?_ ?_
        · refine stepOff_run (atS (atS (atS (atS (atS (atS (atS (atS (atS (atS (atS (atS (at0))))))))))))) [0, 11] (by kernel_rfl) (fun _ _ => rfl) (fun f wq l hl hun hdn hS hd K' hK => ?_)
          obtain ⟨e0, e11, -⟩ := hd
          have e0 : f 0 = .slice A6 q c6 := e0
          have e11 : ∃ b, (f 11) = .slice (some ⟨b, 0, none⟩) 2 2 ∧ ((l 12) = false → wq.heap[b]? = some (.cells #[.int .i64 eh, .int .i64 e.k, .int .i64 e.a, .int .i64 e.n, .int .i64 eh, .int .i64 3, .int .i64 0, .int .i64 0] 44)) := e11
          have HK := Lib.hid hK
          clear hK
          obtain ⟨b, hv11, hg⟩ := e11
          have hg := hg hl
          have hown := own_tk (T := []) HO.out (Tk.below (hS.2.2 hl)) (by simp)
          rw [if_pos (by rfl)]
          refine wp_append_rd _ _ _ 22 rfl wB.heap.size 44 i0 _ 4 32 Tryz.underlying22 hi hz0 hz1 hz2 rfl (by decide) (.slice A6 q c6) q (evCells (fenL (p3.take k))) (by simp only [e0]; rfl) hown (some ⟨b, 0, none⟩) 2 2 [.int .i64 eh, .int .i64 e.k, .int .i64 e.a, .int .i64 e.n, .int .i64 eh, .int .i64 3, .int .i64 0, .int .i64 0] (by rw [← hv11]; rfl) ⟨rfl, fun _ => ⟨b, 0, rfl, blk_lt hg, fun j u hu => by rw [cell_of_row _ _ _ _ _ _ hg, Nat.zero_add, ← hu]; simp⟩⟩ (by simp [Value.oneCell']) (by unfold maxLen; omega) (by omega) hS.2.1.size ?_
          intro v9 w9 hown9 hg9
          exact HK.out _ _ _ (by first | rfl | (simp only [e0]; rfl)) hown9 ⟨fun h => hS.1 (Bool.or_eq_false_iff.1 h).2, hS.2.1.grown hg9 hS.2.1.size (fun r e => (hown.lt r e).1), fun h => absurd h (by simp)⟩ (.inl rfl)
        refine stepsOff_cons (k := 13) (n := 0) ?_ ?_
        · refine stepOff_run (atS (atS (atS (atS (atS (atS (atS (atS (atS (atS (atS (atS (atS (at0)))))))))))))) [0, 1, 2, 3, 4, 5, 6, 7, 8, 9, 10, 11, 12] (by kernel_rfl) (fun _ _ => rfl) (fun f wq l hl hun hdn hS hd K' hK => ?_)
          obtain ⟨e0, e1, e2, e3, e4, e5, e6, e7, e8, e9, e10, e11, e12, -⟩ := hd
          have e0 : f 0 = .slice A6 q c6 := e0
          have e1 : f 1 = .slice (some ⟨g, o, none⟩) n4 c2 := e1
          have e2 : f 2 = .int .i64 k := e2
          have e3 : f 3 = .pointer (some ⟨g, o + k * 4, none⟩) := e3
          have e4 : f 4 = .agg #[.int .i64 eh, .int .i64 e.k, .int .i64 e.a, .int .i64 e.n] := e4
          have e5 : f 5 = .slice (some ⟨g, o, none⟩) n4 c2 := e5
          have e6 : f 6 = .int .i64 k := e6
          have e7 : f 7 = .pointer (some ⟨g, o + k * 4, none⟩) := e7
          have e8 : f 8 = .pointer (some ⟨g, o + k * 4, none⟩) := e8
          have e9 : f 9 = .int .i64 eh := e9
          have e10 : f 10 = .agg #[.int .i64 eh, .int .i64 3, .int .i64 0, .int .i64 0] := e10
          have e11 : ∃ b, (f 11) = .slice (some ⟨b, 0, none⟩) 2 2 ∧ ((l 12) = false → wq.heap[b]? = some (.cells #[.int .i64 eh, .int .i64 e.k, .int .i64 e.a, .int .i64 e.n, .int .i64 eh, .int .i64 3, .int .i64 0, .int .i64 0] 44)) := e11
          have e12 : wq.ownsRow wB.heap.size 44 4 (f 12) (q + 2) (evCells (fenL (p3.take k)) ++ [.int .i64 eh, .int .i64 e.k, .int .i64 e.a, .int .i64 e.n, .int .i64 eh, .int .i64 3, .int .i64 0, .int .i64 0]) := e12
          have HK := Lib.hid hK
          clear hK
          clear e11 e12
          have HSS := Lib.hid hS
          clear hS
          simp only [e0, e1, e2, e3, e4, e5, e6, e7, e8, e9, e10]
          go_simp
          exact HK.out _ _ _ (by simp only [e0, e1, e2, e3, e4, e5, e6, e7, e8, e9, e10]; rfl) rfl ⟨fun h => absurd h (by simp), HSS.out.2.1, fun h => HSS.out.2.2 (Bool.or_eq_false_iff.1 h).2⟩ (.inr (bR wq))
        exact trivial
      case fin =>
        intro fo wz lo hl hall hS
        have a0 : fo 0 = .slice A6 q c6 := hall 0 (by decide)
        have a1 : fo 1 = .slice (some ⟨g, o, none⟩) n4 c2 := hall 1 (by decide)
        have a2 : fo 2 = .int .i64 k := hall 2 (by decide)
        have a3 : fo 3 = .pointer (some ⟨g, o + k * 4, none⟩) := hall 3 (by decide)
        have a4 : fo 4 = .agg #[.int .i64 eh, .int .i64 e.k, .int .i64 e.a, .int .i64 e.n] := hall 4 (by decide)
        have a5 : fo 5 = .slice (some ⟨g, o, none⟩) n4 c2 := hall 5 (by decide)
        have a6 : fo 6 = .int .i64 k := hall 6 (by decide)
        have a7 : fo 7 = .pointer (some ⟨g, o + k * 4, none⟩) := hall 7 (by decide)
        have a8 : fo 8 = .pointer (some ⟨g, o + k * 4, none⟩) := hall 8 (by decide)
        have a9 : fo 9 = .int .i64 eh := hall 9 (by decide)
        have a10 : fo 10 = .agg #[.int .i64 eh, .int .i64 3, .int .i64 0, .int .i64 0] := hall 10 (by decide)
        have a11 : ∃ b, (fo 11) = .slice (some ⟨b, 0, none⟩) 2 2 ∧ ((lo 12) = false → wz.heap[b]? = some (.cells #[.int .i64 eh, .int .i64 e.k, .int .i64 e.a, .int .i64 e.n, .int .i64 eh, .int .i64 3, .int .i64 0, .int .i64 0] 44)) := hall 11 (by decide)
        have a12 : wz.ownsRow wB.heap.size 44 4 (fo 12) (q + 2) (evCells (fenL (p3.take k)) ++ [.int .i64 eh, .int .i64 e.k, .int .i64 e.a, .int .i64 e.n, .int .i64 eh, .int .i64 3, .int .i64 0, .int .i64 0]) := hall 12 (by decide)
        have a13 : (fo 13) = (fo 12) := hall 13 (by decide)
        clear hall
        obtain ⟨A9, c9, hv12, _, _⟩ := own_slice a12
        rw [hv12] at a13
        simp only [a13]
        have HO9 := Lib.hid (hv12 ▸ a12)
        have HB9 := Lib.hid hS.2.1
        clear a0 a1 a2 a3 a4 a5 a6 a7 a8 a9 a10 a11 a12 a13 hl hS hv12
        obtain ⟨wE, rfl⟩ : ∃ x, x = wz := ⟨wz, rfl⟩
        go_wp2_with fail
        go_roundw
        case rel =>
          refine ⟨k + 1, by omega, by go_num, ?_, HB9.out⟩
          have h1 : fenL (p3.take (k + 1)) = fenL (p3.take k) ++ [e, ⟨e.h, 3, 0, 0⟩] := fenL_succ HX.out
          rw [h1, List.length_append, evCells_app, ← HQ.out]
          have h2 : evCells [e, ⟨e.h, 3, 0, 0⟩] = [.int .i64 eh, .int .i64 e.k, .int .i64 e.a, .int .i64 e.n, .int .i64 eh, .int .i64 3, .int .i64 0, .int .i64 0] := by rw [HEh.out]; rfl
          rw [h2]
          exact HO9.out
        case measure => simp [intOf]; omega
    · have hlb : decide ((k : Int) < (n4 : Int)) = false := by simp; omega
      have hkn : k = n4 := by omega
      have htk : p3.take k = p3 := List.take_of_length_le (by have := HLl.out; omega)
      rw [htk] at HO
      obtain ⟨q, hq⟩ : ∃ q, q = (fenL p3).length := ⟨_, rfl⟩
      have hq6 : q ≤ 6 := by rw [hq, fenL_len]; have := HLl.out; omega
      rw [← hq] at HO
      obtain ⟨A6, c6, hv6, hc6, _⟩ := own_slice HO.out
      subst hv6
      have HEf := Lib.hid (show IsEvs wo A6 q c6 (fenL p3) from ⟨hq.symm, hc6, Row.of_own HO.out⟩)
      have HPf := Lib.hid (fenL_prog HP3.out (by have := HLl.out; omega))
      have HPl3 := Lib.hid (show p3.length ≤ 3 from by have := HLl.out; omega)
      have HElo := Lib.hid (HEl.out.sees (Below.sees HBW.out))
      have HGo := Lib.hid (HG2.out.below HBW.out)
      obtain ⟨W9, hW9⟩ : ∃ X, X = wo.alloc (.cells #[.slice A2 m c2, .slice A6 q c6] 22) := ⟨_, rfl⟩
      obtain ⟨b9, hb9⟩ : ∃ b, b = wo.heap.size := ⟨_, rfl⟩
      have k9 : Below wo.heap.size wo W9 := hW9 ▸ bA (bR wo)
      have H9 := Lib.hid (show W9.heap[b9]? = some (.cells #[.slice A2 m c2, .slice A6 q c6] 22) from by rw [hW9, hb9]; exact heap_alloc_new wo _)
      have HB9 := Lib.hid (bT HW2.out (bT HBW.out k9))
      have HE9 := Lib.hid (HElo.out.sees (Below.sees k9))
      have HF9 := Lib.hid (HEf.out.sees (Below.sees k9))
      have HG9 := Lib.hid (HGo.out.below k9)
      clear hkn htk hq hc6 k9 HO
      go_wp2_with fail
      rw [← hb9, ← hW9]
      clear hb9 hW9
      go_loopw [51] (fun vi wr => ∃ jj : Nat, jj ≤ 2 ∧ vi = .int .i64 jj ∧ Below W9.heap.size W9 wr) (fun vi _ => 2 - (intOf vi).toNat)
      case atStart => exact ⟨0, by omega, rfl, bR W9⟩
      case round =>
        obtain ⟨jj, hjj, rfl, hbx⟩ := hrel
        obtain ⟨wx0, rfl⟩ : ∃ x, x = wr := ⟨wr, rfl⟩
        have HBX := Lib.hid hbx
        clear hbx
        by_cases hjt2 : jj < 2
        · have hjb2 : decide ((jj : Int) < 2) = true := by simp; omega
          have hj2N : (jj : Int) < 2 := by omega
          have hj20 : decide ((jj : Int) < 0) = false := by simp
          obtain ⟨Ax, nx, cx, lx, hcx, hex, hpx⟩ : ∃ Ax nx cx lx, W9.cell? ⟨b9, jj, none⟩ = some (.slice Ax nx cx) ∧ IsEvs W9 Ax nx cx lx ∧ Prog lx := by
            obtain ⟨z0, z1, _⟩ := cells2 H9.out
            match jj, hjt2 with
            | 0, _ => exact ⟨_, _, _, _, z0, HE9.out, HP.out⟩
            | 1, _ => exact ⟨_, _, _, _, z1, HF9.out, HPf.out⟩
          have hcx2 := (HBX.out.cell (cell_lt hcx)).trans hcx
          have HEx := Lib.hid (show IsEvs wx0 Ax nx cx lx from hex.sees (Below.sees HBX.out))
          have HPx := Lib.hid hpx
          have HSf := Lib.hid (singly_first Ax nx cx lx hpx wx0 HEx.out)
          clear hcx hex hpx
          go_wp2_with fail
          refine HSf.out.mono ?_
          rintro o wa ⟨⟨va, rfl, hsa⟩, hba⟩
          have HBa := Lib.hid hba
          have HQx := Lib.hid (plays_any Ax nx cx lx wa (HEx.out.sees (Below.sees hba)) HPx.out ((HG9.out.below HBX.out).below hba))
          obtain ⟨Aa, ca, rfl⟩ : ∃ A c, va = .slice A (singL lx).length c := SS.slice hsa
          have hbda : (singL lx).length ≤ 9223372036854775807 := by
            obtain ⟨cs, h1, _⟩ := hsa
            obtain ⟨_, _, _, h5, h6⟩ := own_slice h1
            unfold maxLen at h6
            omega
          obtain ⟨Na, hNa⟩ : ∃ q, q = (singL lx).length := ⟨_, rfl⟩
          have HRa := Lib.hid (RR.of_ss hsa (fun z hz => by
            obtain ⟨xs, hp⟩ := singL_played HPx.out z hz
            have h5 := playP_len hp
            have h6 := HPx.out.few
            omega))
          rw [← hNa] at HRa hbda ⊢
          have HLa := Lib.hid hNa
          clear hsa hba hNa
          go_wp2_with fail
          refine HQx.out.mono ?_
          rintro o wF ⟨⟨vp, Rp, rfl, hsp, hrp, hmp⟩, hbp⟩
          have HInA := Lib.hid (show ∀ z ∈ singL lx, z ∈ Rp from fun z hz => (hmp z).2 (singL_played HPx.out z hz))
          obtain ⟨Ap, cp, rfl⟩ : ∃ A c, vp = .slice A Rp.length c := SS.slice hsp
          have hbdp : Rp.length ≤ 9223372036854775807 := by
            obtain ⟨cs, h1, _⟩ := hsp
            obtain ⟨_, _, _, h5, h6⟩ := own_slice h1
            unfold maxLen at h6
            omega
          obtain ⟨Np, hNp⟩ : ∃ q, q = Rp.length := ⟨_, rfl⟩
          have HRp := Lib.hid (RR.of_ss hsp (fun z hz => by
            obtain ⟨xs, hp⟩ := (hmp z).1 hz
            have h5 := playP_len hp
            have h6 := HPx.out.few
            omega))
          rw [← hNp] at HRp hbdp ⊢
          have HLp := Lib.hid hNp
          have HRa' := Lib.hid (HRa.out.below hbp)
          have HBF := Lib.hid (bT HBX.out (bT HBa.out hbp))
          clear hsp hrp hmp hbp hNp
          go_wp2_with fail
          go_loopw [12, 13, 14] (fun vi _ _ wr => ∃ i : Nat, i ≤ Na ∧ vi = .int .i64 i ∧ Below wF.heap.size wF wr) (fun vi _ _ _ => Na - (intOf vi).toNat)
          case atStart => exact ⟨0, by omega, rfl, bR wF⟩
          case round =>
            obtain ⟨i, hi, rfl, hbw⟩ := hrel
            obtain ⟨wp, rfl⟩ : ∃ x, x = wr := ⟨wr, rfl⟩
            have HBW := Lib.hid hbw
            clear hbw
            by_cases hlt : i < Na
            · have hlb : decide ((i : Int) < (Na : Int)) = true := by simp; omega
              obtain ⟨zo, hzo⟩ : ∃ z, (singL lx)[i]? = some z := ⟨_, List.getElem?_eq_getElem (by have := HLa.out; omega)⟩
              have HZo := Lib.hid hzo
              have HZin := Lib.hid (HInA.out zo (List.mem_of_getElem? hzo))
              clear hzo
              go_wp2_with fail
              go_loopw [13, 14] (fun vh vj wq => ∃ j : Nat, j ≤ Np ∧ vj = .int .i64 j ∧ vh = .bool (decide (zo ∈ Rp.take j)) ∧ Below wp.heap.size wp wq) (fun _ vj _ => Np - (intOf vj).toNat)
              case atStart => exact ⟨0, by omega, rfl, by simp, bR wp⟩
              case round =>
                obtain ⟨j, hj, rfl, rfl, hbq⟩ := hrel
                obtain ⟨wi, rfl⟩ : ∃ x, x = wr := ⟨wr, rfl⟩
                have HBQ := Lib.hid hbq
                clear hbq
                by_cases hjt : j < Np
                · have hjb : decide ((j : Int) < (Np : Int)) = true := by simp; omega
                  have hiN : (i : Int) < (Na : Int) := by omega
                  have hjN : (j : Int) < (Np : Int) := by omega
                  have hi0 : decide ((i : Int) < 0) = false := by simp
                  have hj0 : decide ((j : Int) < 0) = false := by simp
                  obtain ⟨g1, o1, zi, B1, d1, hA1, hz1, hc1, hr1, hl1⟩ := ((HRp.out.below HBW.out).below HBQ.out).at2 hjt
                  obtain ⟨g2, o2, zo', B2, d2, hA2', hz2, hc2, hr2, hl2⟩ := ((HRa'.out.below HBW.out).below HBQ.out).at2 hlt
                  obtain rfl : zo' = zo := Option.some.inj (hz2.symm.trans HZo.out)
                  have HTk1 := Lib.hid (show decide (zo' ∈ Rp.take (j + 1)) = (decide (zo' ∈ Rp.take j) || decide (zo' = zi)) from by
                    rw [List.take_add_one, hz1]
                    simp [List.mem_append, eq_comm])
                  by_cases hmem : zo' ∈ Rp.take j
                  · have hmb : decide (zo' ∈ Rp.take j) = true := by simpa using hmem
                    rw [hmb] at HTk1
                    have HT2 := Lib.hid (HTk1.out.trans (Bool.true_or _))
                    simp only [hmb]
                    clear hmem hmb hz1 hz2 hr1 hr2 hl1 hl2 hc1 hc2 hA1 hA2'
                    go_upto_region 21 with fail
                    go_quiet (fail)
                    obtain ⟨WE, hWE⟩ : ∃ X, X = wi.drewN nq := ⟨_, rfl⟩
                    rw [← hWE]
                    have HBE2 := Lib.hid (show Below wi.heap.size wi WE from hWE ▸ bN (bR wi))
                    clear hWE
                    go_wp2_with fail
                    go_roundw
                    case rel => exact ⟨j + 1, by omega, by go_num, by rw [HT2.out], bT HBQ.out HBE2.out⟩
                    case measure => simp [intOf]; omega
                  · have hmb : decide (zo' ∈ Rp.take j) = false := by simpa using hmem
                    rw [hmb] at HTk1
                    have HT2 := Lib.hid (HTk1.out.trans (Bool.false_or _))
                    simp only [hmb]
                    subst hA1
                    subst hA2'
                    obtain ⟨m1, hm1⟩ : ∃ q, q = zi.length := ⟨_, rfl⟩
                    obtain ⟨m2, hm2⟩ : ∃ q, q = zo'.length := ⟨_, rfl⟩
                    rw [← hm1] at hc1
                    rw [← hm2] at hc2
                    have HC := Lib.hid (fun (wx : World) (hb : Below wi.heap.size wi wx) => And.intro ((hb.cell (cell_lt hc2)).trans hc2) ((hb.cell (cell_lt hc1)).trans hc1))
                    have HRw := Lib.hid (fun (wx : World) (hb : Below wi.heap.size wi wx) => And.intro (hr2.below hb) (hr1.below hb))
                    have HM12 := Lib.hid (show (m2 = zo'.length ∧ m1 = zi.length) ∧ (zo'.length ≤ 1000000 ∧ zo'.length ≤ d2) ∧ (zi.length ≤ 1000000 ∧ zi.length ≤ d1) from ⟨⟨hm2, hm1⟩, hl2, hl1⟩)
                    clear hmem hmb hz1 hz2 hr1 hr2 hl1 hl2 hc1 hc2 hm1 hm2
                    go_upto_region 21 with fail
                    have rr : ∀ (wx : World), Below wx.heap.size wx wx := fun wx => bR wx
                    refine wp_region_detf (by kernel_rfl) (fun f => (⟨#[Value.slice A n c, undef, u2, Value.bool true, Value.slice A2 m c2, Value.slice A2 n4 c2, Value.slice A6 q c6, .int .i64 (k : Int), undef, Value.slice Ax nx cx, Value.slice (some ⟨g2, o2, none⟩) Na ca, Value.slice (some ⟨g1, o1, none⟩) Np cp, .int .i64 (i : Int), f 14, .int .i64 (j : Int), undef, undef, undef, undef, undef, Value.bool true, Value.slice A n c, Value.slice A2 m c2, Value.slice A2 m c2, Value.slice A2 m c2, .int .i64 (m : Int), .int .i64 (n4 : Int), Value.slice A2 n4 c2, .int .i64 (k : Int), Value.slice A2 n4 c2, .int .i64 (n4 : Int), Value.bool false, u32, u33, u34, u35, u36, u37, u38, u39, u40, u41, u42, u43, u44, u45, u46, Value.slice A2 m c2, Value.slice A6 q c6, Value.slice (some ⟨b9, 0, none⟩) 2 2, .int .i64 2, .int .i64 (jj : Int), Value.bool true, Value.pointer (some ⟨b9, jj, none⟩), Value.slice Ax nx cx, Value.slice Ax nx cx, Value.agg #[Value.bool false, Value.bool false, Value.bool false, Value.bool false, Value.bool false, Value.bool false, Value.bool false, Value.bool false], Value.agg #[.int .i64 0, .int .i64 0, .int .i64 0, .int .i64 0], Value.agg #[.int .i64 0, .int .i64 0, .int .i64 0, .int .i64 0, .int .i64 0, .int .i64 0, .int .i64 0, .int .i64 0], Value.slice (some ⟨g2, o2, none⟩) Na ca, Value.slice Ax nx cx, Value.slice (some ⟨g1, o1, none⟩) Np cp, .int .i64 (i : Int), Value.slice (some ⟨g2, o2, none⟩) Na ca, .int .i64 (Na : Int), Value.bool true, u66, u67, .int .i64 (j : Int), Value.slice (some ⟨g1, o1, none⟩) Np cp, .int .i64 (Np : Int), Value.bool true, u72, u73, f 0, f 1, f 2, f 3, f 4, f 5, f 6, f 7, f 8, f 9, f 10, f 11, f 12, f 13, u88, u89, u90, undef, undef, undef, undef, undef, undef, undef, undef, undef, undef, undef, undef, undef, undef, undef, undef, undef, undef, undef, undef, undef, undef, undef, undef, undef, undef, undef, undef, undef, undef, undef, undef, undef, undef, undef, undef], []⟩ : Act)) (fun (iv : Nat) (lv : Nat → Bool) (fv : Nat → Value) (wx : World) => match iv with | 0 => fv 0 = .bool false | 1 => fv 1 = .bool false | 2 => fv 2 = .slice (some ⟨g2, o2, none⟩) Na ca | 3 => fv 3 = .int .i64 i | 4 => fv 4 = .pointer (some ⟨g2, o2 + i, none⟩) | 5 => fv 5 = .slice B2 m2 d2 | 6 => ∃ b, (fv 6) = .slice (some ⟨b, 0, none⟩) 1 1 ∧ wx.heap[b]? = some (.cells #[.slice B2 m2 d2] 32) | 7 => fv 7 = .slice (some ⟨g1, o1, none⟩) Np cp | 8 => fv 8 = .int .i64 j | 9 => fv 9 = .pointer (some ⟨g1, o1 + j, none⟩) | 10 => fv 10 = .slice B1 m1 d1 | 11 => ∃ b, (fv 11) = .slice (some ⟨b, 0, none⟩) 1 1 ∧ wx.heap[b]? = some (.cells #[.slice B1 m1 d1] 32) | 12 => fv 12 = .bool (decide (zo' = zi)) | 13 => fv 13 = .bool (decide (zo' = zi)) | 14 => fv 14 = .bool (decide (zo' = zi)) | _ => True) (fun (lv : Nat → Bool) (fv : Nat → Value) (wx : World) => (lv 14 = false → fv 14 = .bool false) ∧ Below wi.heap.size wi wx) (fun _ w1 w2 => Below w1.heap.size w1 w2) (by kernel_rfl) (fun k => match k with | 0 => u74 | 1 => u75 | 2 => u76 | 3 => u77 | 4 => u78 | 5 => u79 | 6 => u80 | 7 => u81 | 8 => u82 | 9 => u83 | 10 => u84 | 11 => u85 | 12 => u86 | 13 => u87 | 14 => Value.bool false | _ => undef) rfl ?keep ⟨fun _ => rfl, bD (bR wi)⟩ ?steps ?fin
                    case keep =>
                      intro iv j hij hd l f f' w1 w2 hf hR
                      match j with
                      | 0 => exact fun h => (hf 0 (Ne.symm hij)).trans h
                      | 1 => exact fun h => (hf 1 (Ne.symm hij)).trans h
                      | 2 => exact fun h => (hf 2 (Ne.symm hij)).trans h
                      | 3 => exact fun h => (hf 3 (Ne.symm hij)).trans h
                      | 4 => exact fun h => (hf 4 (Ne.symm hij)).trans h
                      | 5 => exact fun h => (hf 5 (Ne.symm hij)).trans h
                      | 6 =>
                        intro h
                        have h : ∃ b, (f 6) = .slice (some ⟨b, 0, none⟩) 1 1 ∧ w1.heap[b]? = some (.cells #[.slice B2 m2 d2] 32) := h
                        show ∃ b, (f' 6) = .slice (some ⟨b, 0, none⟩) 1 1 ∧ w2.heap[b]? = some (.cells #[.slice B2 m2 d2] 32)
                        rw [hf 6 (Ne.symm hij)]
                        exact h.imp fun b h => ⟨h.1, blk_below hR h.2⟩
                      | 7 => exact fun h => (hf 7 (Ne.symm hij)).trans h
                      | 8 => exact fun h => (hf 8 (Ne.symm hij)).trans h
                      | 9 => exact fun h => (hf 9 (Ne.symm hij)).trans h
                      | 10 => exact fun h => (hf 10 (Ne.symm hij)).trans h
                      | 11 =>
                        intro h
                        have h : ∃ b, (f 11) = .slice (some ⟨b, 0, none⟩) 1 1 ∧ w1.heap[b]? = some (.cells #[.slice B1 m1 d1] 32) := h
                        show ∃ b, (f' 11) = .slice (some ⟨b, 0, none⟩) 1 1 ∧ w2.heap[b]? = some (.cells #[.slice B1 m1 d1] 32)
                        rw [hf 11 (Ne.symm hij)]
                        exact h.imp fun b h => ⟨h.1, blk_below hR h.2⟩
                      | 12 => exact fun h => (hf 12 (Ne.symm hij)).trans h
                      | 13 => exact fun h => (hf 13 (Ne.symm hij)).trans h
                      | 14 => exact fun h => (hf 14 (Ne.symm hij)).trans h
                      | _ + 15 => exact id
                    case steps =>
                      refine fun iv hiv => stepsOff_at (k := 0) (n := 15) ?_ iv (Nat.zero_le _) (by rw [Nat.zero_add]; exact hiv)
                      refine stepsOff_cons (k := 0) (n := 14) ?_ ?_
                      · refine stepOff_run (at0) [] (by kernel_rfl) (fun _ _ => rfl) (fun f wq l hl hun hdn hS hd K' hK => ?_)
                        clear hd
                        have HK := Lib.hid hK
                        clear hK
                        have e14 := hS.1 (hun 14 (of_decide_eq_true (by kernel_rfl)))
                        have HSS := Lib.hid hS
                        clear hS
                        simp only [e14]
                        go_simp
                        exact HK.out _ _ _ (by simp only [e14]; rfl) rfl ⟨fun h => HSS.out.1 (Bool.or_eq_false_iff.1 h).2, HSS.out.2⟩ (rr _)
                      refine stepsOff_cons (k := 1) (n := 13) ?_ ?_
                      · refine stepOff_run (atS (at0)) [0] (by kernel_rfl) (fun _ _ => rfl) (fun f wq l hl hun hdn hS hd K' hK => ?_)
                        obtain ⟨e0, -⟩ := hd
                        have e0 : f 0 = .bool false := e0
                        have HK := Lib.hid hK
                        clear hK
                        have HSS := Lib.hid hS
                        clear hS
                        simp only [e0]
                        go_simp
                        exact HK.out _ _ _ (by simp only [e0]; rfl) rfl ⟨fun h => HSS.out.1 (Bool.or_eq_false_iff.1 h).2, HSS.out.2⟩ (rr _)
                      refine stepsOff_cons (k := 2) (n := 12) ?_ ?_
                      · refine stepOff_run (atS (atS (at0))) [1] (by kernel_rfl) (fun _ _ => rfl) (fun f wq l hl hun hdn hS hd K' hK => ?_)
                        obtain ⟨e1, -⟩ := hd
                        have e1 : f 1 = .bool false := e1
                        have HK := Lib.hid hK
                        clear hK
                        have HSS := Lib.hid hS
                        clear hS
                        simp only [e1]
                        go_simp
                        exact HK.out _ _ _ (by simp only [e1]; rfl) rfl ⟨fun h => HSS.out.1 (Bool.or_eq_false_iff.1 h).2, HSS.out.2⟩ (rr _)
                      refine stepsOff_cons (k := 3) (n := 11) ?_ ?_
                      · refine stepOff_run (atS (atS (atS (at0)))) [1] (by kernel_rfl) (fun _ _ => rfl) (fun f wq l hl hun hdn hS hd K' hK => ?_)
                        obtain ⟨e1, -⟩ := hd
                        have e1 : f 1 = .bool false := e1
                        have HK := Lib.hid hK
                        clear hK
                        have HSS := Lib.hid hS
                        clear hS
                        simp only [e1]
                        go_simp
                        exact HK.out _ _ _ (by simp only [e1]; rfl) rfl ⟨fun h => HSS.out.1 (Bool.or_eq_false_iff.1 h).2, HSS.out.2⟩ (rr _)
                      refine stepsOff_cons (k := 4) (n := 10) ?_ ?_
                      · refine stepOff_run (atS (atS (atS (atS (at0))))) [1, 2, 3] (by kernel_rfl) (fun _ _ => rfl) (fun f wq l hl hun hdn hS hd K' hK => ?_)
                        obtain ⟨e1, e2, e3, -⟩ := hd
                        have e1 : f 1 = .bool false := e1
                        have e2 : f 2 = .slice (some ⟨g2, o2, none⟩) Na ca := e2
                        have e3 : f 3 = .int .i64 i := e3
                        have HK := Lib.hid hK
                        clear hK
                        have HSS := Lib.hid hS
                        clear hS
                        simp only [e1, e2, e3]
                        go_simp
                        exact HK.out _ _ _ (by simp only [e1, e2, e3]; rfl) rfl ⟨fun h => HSS.out.1 (Bool.or_eq_false_iff.1 h).2, HSS.out.2⟩ (rr _)
                      refine stepsOff_cons (k := 5) (n := 9) ?_ ?_
                      · refine stepOff_run (atS (atS (atS (atS (atS (at0)))))) [1, 4] (by kernel_rfl) (fun _ _ => rfl) (fun f wq l hl hun hdn hS hd K' hK => ?_)
                        obtain ⟨e1, e4, -⟩ := hd
                        have e1 : f 1 = .bool false := e1
                        have e4 : f 4 = .pointer (some ⟨g2, o2 + i, none⟩) := e4
                        have HK := Lib.hid hK
                        clear hK
                        have hc := (HC.out wq hS.2).1
                        have HSS := Lib.hid hS
                        clear hS
                        simp only [e1, e4]
                        go_simp
                        exact HK.out _ _ _ (by simp only [e1, e4]; rfl) rfl ⟨fun h => HSS.out.1 (Bool.or_eq_false_iff.1 h).2, HSS.out.2⟩ (rr _)
                      refine stepsOff_cons (k := 6) (n := 8) ?_ ?_
                      · refine stepOff_run (atS (atS (atS (atS (atS (atS (at0))))))) [1, 5] (by kernel_rfl) (fun _ _ => rfl) (fun f wq l hl hun hdn hS hd K' hK => ?_)
                        obtain ⟨e1, e5, -⟩ := hd
                        have e1 : f 1 = .bool false := e1
                        have e5 : f 5 = .slice B2 m2 d2 := e5
                        have HK := Lib.hid hK
                        clear hK
                        have HSS := Lib.hid hS
                        clear hS
                        simp only [e1, e5]
                        go_simp
                        exact HK.out _ _ _ (by simp only [e1, e5]; rfl) ⟨_, rfl, heap_alloc_new wq _⟩ ⟨fun h => HSS.out.1 (Bool.or_eq_false_iff.1 h).2, bA HSS.out.2⟩ (bA (bR wq))
                      refine stepsOff_cons (k := 7) (n := 7) ?_ ?_
                      · refine stepOff_run (atS (atS (atS (atS (atS (atS (atS (at0)))))))) [1] (by kernel_rfl) (fun _ _ => rfl) (fun f wq l hl hun hdn hS hd K' hK => ?_)
                        obtain ⟨e1, -⟩ := hd
                        have e1 : f 1 = .bool false := e1
                        have HK := Lib.hid hK
                        clear hK
                        have HSS := Lib.hid hS
                        clear hS
                        simp only [e1]
                        go_simp
                        exact HK.out _ _ _ (by simp only [e1]; rfl) rfl ⟨fun h => HSS.out.1 (Bool.or_eq_false_iff.1 h).2, HSS.out.2⟩ (rr _)
                      refine stepsOff_cons (k := 8) (n := 6) ?_ ?_
                      · refine stepOff_run (atS (atS (atS (atS (atS (atS (atS (atS (at0))))))))) [1] (by kernel_rfl) (fun _ _ => rfl) (fun f wq l hl hun hdn hS hd K' hK => ?_)
                        obtain ⟨e1, -⟩ := hd
                        have e1 : f 1 = .bool false := e1
                        have HK := Lib.hid hK
                        clear hK
                        have HSS := Lib.hid hS
                        clear hS
                        simp only [e1]
                        go_simp
                        exact HK.out _ _ _ (by simp only [e1]; rfl) rfl ⟨fun h => HSS.out.1 (Bool.or_eq_false_iff.1 h).2, HSS.out.2⟩ (rr _)
                      refine stepsOff_cons (k := 9) (n := 5) ?_ ?_
                      · refine stepOff_run (atS (atS (atS (atS (atS (atS (atS (atS (atS (at0)))))))))) [1, 7, 8] (by kernel_rfl) (fun _ _ => rfl) (fun f wq l hl hun hdn hS hd K' hK => ?_)
                        obtain ⟨e1, e7, e8, -⟩ := hd
                        have e1 : f 1 = .bool false := e1
                        have e7 : f 7 = .slice (some ⟨g1, o1, none⟩) Np cp := e7
                        have e8 : f 8 = .int .i64 j := e8
                        have HK := Lib.hid hK
                        clear hK
                        have HSS := Lib.hid hS
                        clear hS
                        simp only [e1, e7, e8]
                        go_simp
                        exact HK.out _ _ _ (by simp only [e1, e7, e8]; rfl) rfl ⟨fun h => HSS.out.1 (Bool.or_eq_false_iff.1 h).2, HSS.out.2⟩ (rr _)
                      refine stepsOff_cons (k := 10) (n := 4) ?_ ?_
                      · refine stepOff_run (atS (atS (atS (atS (atS (atS (atS (atS (atS (atS (at0))))))))))) [1, 9] (by kernel_rfl) (fun _ _ => rfl) (fun f wq l hl hun hdn hS hd K' hK => ?_)
                        obtain ⟨e1, e9, -⟩ := hd
                        have e1 : f 1 = .bool false := e1
                        have e9 : f 9 = .pointer (some ⟨g1, o1 + j, none⟩) := e9
                        have HK := Lib.hid hK
                        clear hK
                        have hc := (HC.out wq hS.2).2
                        have HSS := Lib.hid hS
                        clear hS
                        simp only [e1, e9]
                        go_simp
                        exact HK.out _ _ _ (by simp only [e1, e9]; rfl) rfl ⟨fun h => HSS.out.1 (Bool.or_eq_false_iff.1 h).2, HSS.out.2⟩ (rr _)
                      refine stepsOff_cons (k := 11) (n := 3) ?_ ?_
                      · refine stepOff_run (atS (atS (atS (atS (atS (atS (atS (atS (atS (atS (atS (at0)))))))))))) [1, 10] (by kernel_rfl) (fun _ _ => rfl) (fun f wq l hl hun hdn hS hd K' hK => ?_)
                        obtain ⟨e1, e10, -⟩ := hd
                        have e1 : f 1 = .bool false := e1
                        have e10 : f 10 = .slice B1 m1 d1 := e10
                        have HK := Lib.hid hK
                        clear hK
                        have HSS := Lib.hid hS
                        clear hS
                        simp only [e1, e10]
                        go_simp
                        exact HK.out _ _ _ (by simp only [e1, e10]; rfl) ⟨_, rfl, heap_alloc_new wq _⟩ ⟨fun h => HSS.out.1 (Bool.or_eq_false_iff.1 h).2, bA HSS.out.2⟩ (bA (bR wq))
                      refine stepsOff_cons (k := 12) (n := 2) ?_ ?_
                      · refine stepOff_run (atS (atS (atS (atS (atS (atS (atS (atS (atS (atS (atS (atS (at0))))))))))))) [1, 6, 11] (by kernel_rfl) (fun _ _ => rfl) (fun f wq l hl hun hdn hS hd K' hK => ?_)
                        obtain ⟨e1, e6, e11, -⟩ := hd
                        have e1 : f 1 = .bool false := e1
                        have e6 : ∃ b, (f 6) = .slice (some ⟨b, 0, none⟩) 1 1 ∧ wq.heap[b]? = some (.cells #[.slice B2 m2 d2] 32) := e6
                        have e11 : ∃ b, (f 11) = .slice (some ⟨b, 0, none⟩) 1 1 ∧ wq.heap[b]? = some (.cells #[.slice B1 m1 d1] 32) := e11
                        have HK := Lib.hid hK
                        clear hK
                        obtain ⟨b6, hv6, hg6⟩ := e6
                        obtain ⟨b11, hv11, hg11⟩ := e11
                        obtain ⟨hr1, hr2⟩ := HRw.out wq hS.2
                        obtain ⟨⟨hm1, hm2⟩, ⟨hl1, hl1b⟩, hl2, hl2b⟩ := HM12.out
                        have HCz := Lib.hid (same16_any (some ⟨b6, 0, none⟩) (some ⟨b11, 0, none⟩) 1 1 1 1 [zo'] [zi] wq (rr_one (by rw [← hm1]; exact hg6) hl1b hr1 hl1) (rr_one (by rw [← hm2]; exact hg11) hl2b hr2 hl2) (by omega))
                        have HDz := Lib.hid (show decide ([zo'] = [zi]) = decide (zo' = zi) from by simp)
                        rw [HDz.out] at HCz
                        have HV := Lib.hid (And.intro hv6 hv11)
                        clear hg6 hg11 hr1 hr2 hm1 hm2 hl1 hl1b hl2 hl2b hv6 hv11
                        have HSS := Lib.hid hS
                        clear hS
                        simp only [e1, HV.out.1, HV.out.2]
                        go_simp
                        go_wp2_with fail
                        refine HCz.out.mono ?_
                        rintro e w9 ⟨rfl, hb9⟩
                        exact HK.out _ _ _ (by simp only [e1, HV.out.1, HV.out.2]; rfl) rfl ⟨fun h => HSS.out.1 (Bool.or_eq_false_iff.1 h).2, bT HSS.out.2 hb9⟩ hb9
                      refine stepsOff_cons (k := 13) (n := 1) ?_ ?_
                      · refine stepOff_run (atS (atS (atS (atS (atS (atS (atS (atS (atS (atS (atS (atS (atS (at0)))))))))))))) [1, 12] (by kernel_rfl) (fun _ _ => rfl) (fun f wq l hl hun hdn hS hd K' hK => ?_)
                        obtain ⟨e1, e12, -⟩ := hd
                        have e1 : f 1 = .bool false := e1
                        have e12 : f 12 = .bool (decide (zo' = zi)) := e12
                        have HK := Lib.hid hK
                        clear hK
                        have HSS := Lib.hid hS
                        clear hS
                        simp only [e1, e12]
                        go_simp
                        exact HK.out _ _ _ (by simp only [e1, e12]; rfl) rfl ⟨fun h => HSS.out.1 (Bool.or_eq_false_iff.1 h).2, HSS.out.2⟩ (rr _)
                      refine stepsOff_cons (k := 14) (n := 0) ?_ ?_
                      · refine stepOff_run (atS (atS (atS (atS (atS (atS (atS (atS (atS (atS (atS (atS (atS (atS (at0))))))))))))))) [0, 1, 2, 3, 4, 5, 6, 7, 8, 9, 10, 11, 12, 13] (by kernel_rfl) (fun _ _ => rfl) (fun f wq l hl hun hdn hS hd K' hK => ?_)
                        obtain ⟨e0, e1, e2, e3, e4, e5, e6, e7, e8, e9, e10, e11, e12, e13, -⟩ := hd
                        have e0 : f 0 = .bool false := e0
                        have e1 : f 1 = .bool false := e1
                        have e2 : f 2 = .slice (some ⟨g2, o2, none⟩) Na ca := e2
                        have e3 : f 3 = .int .i64 i := e3
                        have e4 : f 4 = .pointer (some ⟨g2, o2 + i, none⟩) := e4
                        have e5 : f 5 = .slice B2 m2 d2 := e5
                        have e6 : ∃ b, (f 6) = .slice (some ⟨b, 0, none⟩) 1 1 ∧ wq.heap[b]? = some (.cells #[.slice B2 m2 d2] 32) := e6
                        have e7 : f 7 = .slice (some ⟨g1, o1, none⟩) Np cp := e7
                        have e8 : f 8 = .int .i64 j := e8
                        have e9 : f 9 = .pointer (some ⟨g1, o1 + j, none⟩) := e9
                        have e10 : f 10 = .slice B1 m1 d1 := e10
                        have e11 : ∃ b, (f 11) = .slice (some ⟨b, 0, none⟩) 1 1 ∧ wq.heap[b]? = some (.cells #[.slice B1 m1 d1] 32) := e11
                        have e12 : f 12 = .bool (decide (zo' = zi)) := e12
                        have e13 : f 13 = .bool (decide (zo' = zi)) := e13
                        have HK := Lib.hid hK
                        clear hK
                        clear e6 e11
                        have HSS := Lib.hid hS
                        clear hS
                        simp only [e0, e1, e2, e3, e4, e5, e7, e8, e9, e10, e12, e13]
                        go_simp
                        exact HK.out _ _ _ (by simp only [e0, e1, e2, e3, e4, e5, e7, e8, e9, e10, e12, e13]; rfl) rfl ⟨fun h => absurd h (by simp), HSS.out.2⟩ (rr _)
                      exact trivial
                    case fin =>
                      intro fo2 wz lo2 hl hall hS
                      have a0 : fo2 0 = .bool false := hall 0 (by decide)
                      have a1 : fo2 1 = .bool false := hall 1 (by decide)
                      have a2 : fo2 2 = .slice (some ⟨g2, o2, none⟩) Na ca := hall 2 (by decide)
                      have a3 : fo2 3 = .int .i64 i := hall 3 (by decide)
                      have a4 : fo2 4 = .pointer (some ⟨g2, o2 + i, none⟩) := hall 4 (by decide)
                      have a5 : fo2 5 = .slice B2 m2 d2 := hall 5 (by decide)
                      have a6 : ∃ b, (fo2 6) = .slice (some ⟨b, 0, none⟩) 1 1 ∧ wz.heap[b]? = some (.cells #[.slice B2 m2 d2] 32) := hall 6 (by decide)
                      have a7 : fo2 7 = .slice (some ⟨g1, o1, none⟩) Np cp := hall 7 (by decide)
                      have a8 : fo2 8 = .int .i64 j := hall 8 (by decide)
                      have a9 : fo2 9 = .pointer (some ⟨g1, o1 + j, none⟩) := hall 9 (by decide)
                      have a10 : fo2 10 = .slice B1 m1 d1 := hall 10 (by decide)
                      have a11 : ∃ b, (fo2 11) = .slice (some ⟨b, 0, none⟩) 1 1 ∧ wz.heap[b]? = some (.cells #[.slice B1 m1 d1] 32) := hall 11 (by decide)
                      have a12 : fo2 12 = .bool (decide (zo' = zi)) := hall 12 (by decide)
                      have a13 : fo2 13 = .bool (decide (zo' = zi)) := hall 13 (by decide)
                      have a14 : fo2 14 = .bool (decide (zo' = zi)) := hall 14 (by decide)
                      clear hall
                      simp only [a14]
                      clear a0 a1 a2 a3 a4 a5 a6 a7 a8 a9 a10 a11 a12 a13 a14 rr hl
                      obtain ⟨WE, rfl⟩ : ∃ x, x = wz := ⟨wz, rfl⟩
                      have HBE2 := Lib.hid hS.2
                      clear hS
                      go_wp2_with fail
                      go_roundw
                      case rel => exact ⟨j + 1, by omega, by go_num, by rw [HT2.out], bT HBQ.out HBE2.out⟩
                      case measure => simp [intOf]; omega
                · have hjb : decide ((j : Int) < (Np : Int)) = false := by simp; omega
                  have hfin : decide (zo ∈ Rp.take j) = true := by
                    rw [show j = Np by omega, List.take_of_length_le (by have := HLp.out; omega)]
                    simpa using HZin.out
                  simp only [hfin]
                  go_wp2_with fail
                  go_roundw
                  case rel => exact ⟨i + 1, by omega, by go_num, bT HBW.out HBQ.out⟩
                  case measure => simp [intOf]; omega
            · have hlb : decide ((i : Int) < (Na : Int)) = false := by simp; omega
              go_wp2_with fail
              go_roundw
              case rel => exact ⟨jj + 1, by omega, by go_num, bT HBF.out HBW.out⟩
              case measure => simp [intOf]; omega
        · have hjb2 : decide ((jj : Int) < 2) = false := by simp; omega
          have HEy := Lib.hid (show IsEvs wx0 A6 q c6 (fenL p3) from HF9.out.sees (Below.sees HBX.out))
          have HSf := Lib.hid (singly_first A6 q c6 (fenL p3) HPf.out wx0 HEy.out)
          go_wp2_with fail
          refine HSf.out.mono ?_
          rintro o wa ⟨⟨va, rfl, hsa⟩, hba⟩
          have HBa := Lib.hid hba
          have HQx := Lib.hid (plays_any A6 q c6 (fenL p3) wa (HEy.out.sees (Below.sees hba)) HPf.out ((HG9.out.below HBX.out).below hba))
          obtain ⟨Aa, ca, rfl⟩ : ∃ A c, va = .slice A (singL (fenL p3)).length c := SS.slice hsa
          have hbda : (singL (fenL p3)).length ≤ 9223372036854775807 := by
            obtain ⟨cs, h1, _⟩ := hsa
            obtain ⟨_, _, _, h5, h6⟩ := own_slice h1
            unfold maxLen at h6
            omega
          obtain ⟨Na, hNa⟩ : ∃ q, q = (singL (fenL p3)).length := ⟨_, rfl⟩
          have HRa := Lib.hid (RR.of_ss hsa (fun z hz => by
            obtain ⟨xs, hp⟩ := singL_played HPf.out z hz
            have h5 := playP_len hp
            have h6 := HPf.out.few
            omega))
          rw [← hNa] at HRa hbda ⊢
          have HLa := Lib.hid hNa
          clear hsa hba hNa
          go_wp2_with fail
          refine HQx.out.mono ?_
          rintro o wF ⟨⟨vp, Rp, rfl, hsp, hrp, hmp⟩, hbp⟩
          have HInA := Lib.hid (show ∀ z ∈ Rp, z ∈ singL (fenL p3) from fun z hz => singL_fenced HP3.out HPl3.out ((hmp z).1 hz))
          obtain ⟨Ap, cp, rfl⟩ : ∃ A c, vp = .slice A Rp.length c := SS.slice hsp
          have hbdp : Rp.length ≤ 9223372036854775807 := by
            obtain ⟨cs, h1, _⟩ := hsp
            obtain ⟨_, _, _, h5, h6⟩ := own_slice h1
            unfold maxLen at h6
            omega
          obtain ⟨Np, hNp⟩ : ∃ q, q = Rp.length := ⟨_, rfl⟩
          have HRp := Lib.hid (RR.of_ss hsp (fun z hz => by
            obtain ⟨xs, hp⟩ := (hmp z).1 hz
            have h5 := playP_len hp
            have h6 := HPf.out.few
            omega))
          rw [← hNp] at HRp hbdp ⊢
          have HLp := Lib.hid hNp
          have HRa' := Lib.hid (HRa.out.below hbp)
          have HBF := Lib.hid (bT HBX.out (bT HBa.out hbp))
          clear hsp hrp hmp hbp hNp
          go_wp2_with fail
          go_loopw [17, 18, 19] (fun vi _ _ wr => ∃ i : Nat, i ≤ Np ∧ vi = .int .i64 i ∧ Below wF.heap.size wF wr) (fun vi _ _ _ => Np - (intOf vi).toNat)
          case atStart => exact ⟨0, by omega, rfl, bR wF⟩
          case round =>
            obtain ⟨i, hi, rfl, hbw⟩ := hrel
            obtain ⟨wp, rfl⟩ : ∃ x, x = wr := ⟨wr, rfl⟩
            have HBW := Lib.hid hbw
            clear hbw
            by_cases hlt : i < Np
            · have hlb : decide ((i : Int) < (Np : Int)) = true := by simp; omega
              obtain ⟨zo, hzo⟩ : ∃ z, Rp[i]? = some z := ⟨_, List.getElem?_eq_getElem (by have := HLp.out; omega)⟩
              have HZo := Lib.hid hzo
              have HZin := Lib.hid (HInA.out zo (List.mem_of_getElem? hzo))
              clear hzo
              go_wp2_with fail
              go_loopw [18, 19] (fun vh vj wq => ∃ j : Nat, j ≤ Na ∧ vj = .int .i64 j ∧ vh = .bool (decide (zo ∈ (singL (fenL p3)).take j)) ∧ Below wp.heap.size wp wq) (fun _ vj _ => Na - (intOf vj).toNat)
              case atStart => exact ⟨0, by omega, rfl, by simp, bR wp⟩
              case round =>
                obtain ⟨j, hj, rfl, rfl, hbq⟩ := hrel
                obtain ⟨wi, rfl⟩ : ∃ x, x = wr := ⟨wr, rfl⟩
                have HBQ := Lib.hid hbq
                clear hbq
                by_cases hjt : j < Na
                · have hjb : decide ((j : Int) < (Na : Int)) = true := by simp; omega
                  have hiN : (i : Int) < (Np : Int) := by omega
                  have hjN : (j : Int) < (Na : Int) := by omega
                  have hi0 : decide ((i : Int) < 0) = false := by simp
                  have hj0 : decide ((j : Int) < 0) = false := by simp
                  obtain ⟨g1, o1, zi, B1, d1, hA1, hz1, hc1, hr1, hl1⟩ := ((HRa'.out.below HBW.out).below HBQ.out).at2 hjt
                  obtain ⟨g2, o2, zo', B2, d2, hA2', hz2, hc2, hr2, hl2⟩ := ((HRp.out.below HBW.out).below HBQ.out).at2 hlt
                  obtain rfl : zo' = zo := Option.some.inj (hz2.symm.trans HZo.out)
                  have HTk1 := Lib.hid (show decide (zo' ∈ (singL (fenL p3)).take (j + 1)) = (decide (zo' ∈ (singL (fenL p3)).take j) || decide (zi = zo')) from by
                    rw [List.take_add_one, hz1]
                    simp [List.mem_append, eq_comm])
                  by_cases hmem : zo' ∈ (singL (fenL p3)).take j
                  · have hmb : decide (zo' ∈ (singL (fenL p3)).take j) = true := by simpa using hmem
                    rw [hmb] at HTk1
                    have HT2 := Lib.hid (HTk1.out.trans (Bool.true_or _))
                    simp only [hmb]
                    clear hmem hmb hz1 hz2 hr1 hr2 hl1 hl2 hc1 hc2 hA1 hA2'
                    go_upto_region 34 with fail
                    go_quiet (fail)
                    obtain ⟨WE, hWE⟩ : ∃ X, X = wi.drewN nq := ⟨_, rfl⟩
                    rw [← hWE]
                    have HBE2 := Lib.hid (show Below wi.heap.size wi WE from hWE ▸ bN (bR wi))
                    clear hWE
                    go_wp2_with fail
                    go_roundw
                    case rel => exact ⟨j + 1, by omega, by go_num, by rw [HT2.out], bT HBQ.out HBE2.out⟩
                    case measure => simp [intOf]; omega
                  · have hmb : decide (zo' ∈ (singL (fenL p3)).take j) = false := by simpa using hmem
                    rw [hmb] at HTk1
                    have HT2 := Lib.hid (HTk1.out.trans (Bool.false_or _))
                    simp only [hmb]
                    subst hA1
                    subst hA2'
                    obtain ⟨m1, hm1⟩ : ∃ q, q = zi.length := ⟨_, rfl⟩
                    obtain ⟨m2, hm2⟩ : ∃ q, q = zo'.length := ⟨_, rfl⟩
                    rw [← hm1] at hc1
                    rw [← hm2] at hc2
                    have HC := Lib.hid (fun (wx : World) (hb : Below wi.heap.size wi wx) => And.intro ((hb.cell (cell_lt hc1)).trans hc1) ((hb.cell (cell_lt hc2)).trans hc2))
                    have HRw := Lib.hid (fun (wx : World) (hb : Below wi.heap.size wi wx) => And.intro (hr1.below hb) (hr2.below hb))
                    have HM12 := Lib.hid (show (m1 = zi.length ∧ m2 = zo'.length) ∧ (zi.length ≤ 1000000 ∧ zi.length ≤ d1) ∧ (zo'.length ≤ 1000000 ∧ zo'.length ≤ d2) from ⟨⟨hm1, hm2⟩, hl1, hl2⟩)
                    clear hmem hmb hz1 hz2 hr1 hr2 hl1 hl2 hc1 hc2 hm1 hm2
                    go_upto_region 34 with fail
                    have rr : ∀ (wx : World), Below wx.heap.size wx wx := fun wx => bR wx
                    refine wp_region_detf (by kernel_rfl) (fun f => (⟨#[Value.slice A n c, undef, u2, Value.bool true, Value.slice A2 m c2, Value.slice A2 n4 c2, Value.slice A6 q c6, .int .i64 (k : Int), undef, u9, u10, u11, u12, u13, u14, Value.slice (some ⟨g1, o1, none⟩) Na ca, Value.slice (some ⟨g2, o2, none⟩) Np cp, .int .i64 (i : Int), f 14, .int .i64 (j : Int), Value.bool true, Value.slice A n c, Value.slice A2 m c2, Value.slice A2 m c2, Value.slice A2 m c2, .int .i64 (m : Int), .int .i64 (n4 : Int), Value.slice A2 n4 c2, .int .i64 (k : Int), Value.slice A2 n4 c2, .int .i64 (n4 : Int), Value.bool false, u32, u33, u34, u35, u36, u37, u38, u39, u40, u41, u42, u43, u44, u45, u46, Value.slice A2 m c2, Value.slice A6 q c6, Value.slice (some ⟨b9, 0, none⟩) 2 2, .int .i64 2, .int .i64 (jj : Int), Value.bool false, u53, u54, u55, u56, u57, u58, u59, u60, u61, u62, u63, u64, u65, u66, u67, u68, u69, u70, u71, u72, u73, u74, u75, u76, u77, u78, u79, u80, u81, u82, u83, u84, u85, u86, u87, u88, u89, u90, Value.slice A6 q c6, Value.agg #[Value.bool false, Value.bool false, Value.bool false, Value.bool false, Value.bool false, Value.bool false, Value.bool false, Value.bool false], Value.agg #[.int .i64 0, .int .i64 0, .int .i64 0, .int .i64 0], Value.agg #[.int .i64 0, .int .i64 0, .int .i64 0, .int .i64 0, .int .i64 0, .int .i64 0, .int .i64 0, .int .i64 0], Value.slice (some ⟨g1, o1, none⟩) Na ca, Value.slice A6 q c6, Value.slice (some ⟨g2, o2, none⟩) Np cp, .int .i64 (i : Int), Value.slice (some ⟨g2, o2, none⟩) Np cp, .int .i64 (Np : Int), Value.bool true, u102, u103, .int .i64 (j : Int), Value.slice (some ⟨g1, o1, none⟩) Na ca, .int .i64 (Na : Int), Value.bool true, u108, u109, f 0, f 1, f 2, f 3, f 4, f 5, f 6, f 7, f 8, f 9, f 10, f 11, f 12, f 13, u124, u125, undef], []⟩ : Act)) (fun (iv : Nat) (lv : Nat → Bool) (fv : Nat → Value) (wx : World) => match iv with | 0 => fv 0 = .bool false | 1 => fv 1 = .bool false | 2 => fv 2 = .slice (some ⟨g1, o1, none⟩) Na ca | 3 => fv 3 = .int .i64 j | 4 => fv 4 = .pointer (some ⟨g1, o1 + j, none⟩) | 5 => fv 5 = .slice B1 m1 d1 | 6 => ∃ b, (fv 6) = .slice (some ⟨b, 0, none⟩) 1 1 ∧ wx.heap[b]? = some (.cells #[.slice B1 m1 d1] 32) | 7 => fv 7 = .slice (some ⟨g2, o2, none⟩) Np cp | 8 => fv 8 = .int .i64 i | 9 => fv 9 = .pointer (some ⟨g2, o2 + i, none⟩) | 10 => fv 10 = .slice B2 m2 d2 | 11 => ∃ b, (fv 11) = .slice (some ⟨b, 0, none⟩) 1 1 ∧ wx.heap[b]? = some (.cells #[.slice B2 m2 d2] 32) | 12 => fv 12 = .bool (decide (zi = zo')) | 13 => fv 13 = .bool (decide (zi = zo')) | 14 => fv 14 = .bool (decide (zi = zo')) | _ => True) (fun (lv : Nat → Bool) (fv : Nat → Value) (wx : World) => (lv 14 = false → fv 14 = .bool false) ∧ Below wi.heap.size wi wx) (fun _ w1 w2 => Below w1.heap.size w1 w2) (by kernel_rfl) (fun k => match k with | 0 => u110 | 1 => u111 | 2 => u112 | 3 => u113 | 4 => u114 | 5 => u115 | 6 => u116 | 7 => u117 | 8 => u118 | 9 => u119 | 10 => u120 | 11 => u121 | 12 => u122 | 13 => u123 | 14 => Value.bool false | _ => undef) rfl ?keep ⟨fun _ => rfl, bD (bR wi)⟩ ?steps ?fin
                    case keep =>
                      intro iv j hij hd l f f' w1 w2 hf hR
                      match j with
                      | 0 => exact fun h => (hf 0 (Ne.symm hij)).trans h
                      | 1 => exact fun h => (hf 1 (Ne.symm hij)).trans h
                      | 2 => exact fun h => (hf 2 (Ne.symm hij)).trans h
                      | 3 => exact fun h => (hf 3 (Ne.symm hij)).trans h
                      | 4 => exact fun h => (hf 4 (Ne.symm hij)).trans h
                      | 5 => exact fun h => (hf 5 (Ne.symm hij)).trans h
                      | 6 =>
                        intro h
                        have h : ∃ b, (f 6) = .slice (some ⟨b, 0, none⟩) 1 1 ∧ w1.heap[b]? = some (.cells #[.slice B1 m1 d1] 32) := h
                        show ∃ b, (f' 6) = .slice (some ⟨b, 0, none⟩) 1 1 ∧ w2.heap[b]? = some (.cells #[.slice B1 m1 d1] 32)
                        rw [hf 6 (Ne.symm hij)]
                        exact h.imp fun b h => ⟨h.1, blk_below hR h.2⟩
                      | 7 => exact fun h => (hf 7 (Ne.symm hij)).trans h
                      | 8 => exact fun h => (hf 8 (Ne.symm hij)).trans h
                      | 9 => exact fun h => (hf 9 (Ne.symm hij)).trans h
                      | 10 => exact fun h => (hf 10 (Ne.symm hij)).trans h
                      | 11 =>
                        intro h
                        have h : ∃ b, (f 11) = .slice (some ⟨b, 0, none⟩) 1 1 ∧ w1.heap[b]? = some (.cells #[.slice B2 m2 d2] 32) := h
                        show ∃ b, (f' 11) = .slice (some ⟨b, 0, none⟩) 1 1 ∧ w2.heap[b]? = some (.cells #[.slice B2 m2 d2] 32)
                        rw [hf 11 (Ne.symm hij)]
                        exact h.imp fun b h => ⟨h.1, blk_below hR h.2⟩
                      | 12 => exact fun h => (hf 12 (Ne.symm hij)).trans h
                      | 13 => exact fun h => (hf 13 (Ne.symm hij)).trans h
                      | 14 => exact fun h => (hf 14 (Ne.symm hij)).trans h
                      | _ + 15 => exact id
                    case steps =>
                      refine fun iv hiv => stepsOff_at (k := 0) (n := 15) ?_ iv (Nat.zero_le _) (by rw [Nat.zero_add]; exact hiv)
                      refine stepsOff_cons (k := 0) (n := 14) ?_ ?_
                      · refine stepOff_run (at0) [] (by kernel_rfl) (fun _ _ => rfl) (fun f wq l hl hun hdn hS hd K' hK => ?_)
                        clear hd
                        have HK := Lib.hid hK
                        clear hK
                        have e14 := hS.1 (hun 14 (of_decide_eq_true (by kernel_rfl)))
                        have HSS := Lib.hid hS
                        clear hS
                        simp only [e14]
                        go_simp
                        exact HK.out _ _ _ (by simp only [e14]; rfl) rfl ⟨fun h => HSS.out.1 (Bool.or_eq_false_iff.1 h).2, HSS.out.2⟩ (rr _)
                      refine stepsOff_cons (k := 1) (n := 13) ?_ ?_
                      · refine stepOff_run (atS (at0)) [0] (by kernel_rfl) (fun _ _ => rfl) (fun f wq l hl hun hdn hS hd K' hK => ?_)
                        obtain ⟨e0, -⟩ := hd
                        have e0 : f 0 = .bool false := e0
                        have HK := Lib.hid hK
                        clear hK
                        have HSS := Lib.hid hS
                        clear hS
                        simp only [e0]
                        go_simp
                        exact HK.out _ _ _ (by simp only [e0]; rfl) rfl ⟨fun h => HSS.out.1 (Bool.or_eq_false_iff.1 h).2, HSS.out.2⟩ (rr _)
                      refine stepsOff_cons (k := 2) (n := 12) ?_ ?_
                      · refine stepOff_run (atS (atS (at0))) [1] (by kernel_rfl) (fun _ _ => rfl) (fun f wq l hl hun hdn hS hd K' hK => ?_)
                        obtain ⟨e1, -⟩ := hd
                        have e1 : f 1 = .bool false := e1
                        have HK := Lib.hid hK
                        clear hK
                        have HSS := Lib.hid hS
                        clear hS
                        simp only [e1]
                        go_simp
                        exact HK.out _ _ _ (by simp only [e1]; rfl) rfl ⟨fun h => HSS.out.1 (Bool.or_eq_false_iff.1 h).2, HSS.out.2⟩ (rr _)
                      refine stepsOff_cons (k := 3) (n := 11) ?_ ?_
                      · refine stepOff_run (atS (atS (atS (at0)))) [1] (by kernel_rfl) (fun _ _ => rfl) (fun f wq l hl hun hdn hS hd K' hK => ?_)
                        obtain ⟨e1, -⟩ := hd
                        have e1 : f 1 = .bool false := e1
                        have HK := Lib.hid hK
                        clear hK
                        have HSS := Lib.hid hS
                        clear hS
                        simp only [e1]
                        go_simp
                        exact HK.out _ _ _ (by simp only [e1]; rfl) rfl ⟨fun h => HSS.out.1 (Bool.or_eq_false_iff.1 h).2, HSS.out.2⟩ (rr _)
                      refine stepsOff_cons (k := 4) (n := 10) ?_ ?_
                      · refine stepOff_run (atS (atS (atS (atS (at0))))) [1, 2, 3] (by kernel_rfl) (fun _ _ => rfl) (fun f wq l hl hun hdn hS hd K' hK => ?_)
                        obtain ⟨e1, e2, e3, -⟩ := hd
                        have e1 : f 1 = .bool false := e1
                        have e2 : f 2 = .slice (some ⟨g1, o1, none⟩) Na ca := e2
                        have e3 : f 3 = .int .i64 j := e3
                        have HK := Lib.hid hK
                        clear hK
                        have HSS := Lib.hid hS
                        clear hS
                        simp only [e1, e2, e3]
                        go_simp
                        exact HK.out _ _ _ (by simp only [e1, e2, e3]; rfl) rfl ⟨fun h => HSS.out.1 (Bool.or_eq_false_iff.1 h).2, HSS.out.2⟩ (rr _)
                      refine stepsOff_cons (k := 5) (n := 9) ?_ ?_
                      · refine stepOff_run (atS (atS (atS (atS (atS (at0)))))) [1, 4] (by kernel_rfl) (fun _ _ => rfl) (fun f wq l hl hun hdn hS hd K' hK => ?_)
                        obtain ⟨e1, e4, -⟩ := hd
                        have e1 : f 1 = .bool false := e1
                        have e4 : f 4 = .pointer (some ⟨g1, o1 + j, none⟩) := e4
                        have HK := Lib.hid hK
                        clear hK
                        have hc := (HC.out wq hS.2).1
                        have HSS := Lib.hid hS
                        clear hS
                        simp only [e1, e4]
                        go_simp
                        exact HK.out _ _ _ (by simp only [e1, e4]; rfl) rfl ⟨fun h => HSS.out.1 (Bool.or_eq_false_iff.1 h).2, HSS.out.2⟩ (rr _)
                      refine stepsOff_cons (k := 6) (n := 8) ?_ ?_
                      · refine stepOff_run (atS (atS (atS (atS (atS (atS (at0))))))) [1, 5] (by kernel_rfl) (fun _ _ => rfl) (fun f wq l hl hun hdn hS hd K' hK => ?_)
                        obtain ⟨e1, e5, -⟩ := hd
                        have e1 : f 1 = .bool false := e1
                        have e5 : f 5 = .slice B1 m1 d1 := e5
                        have HK := Lib.hid hK
                        clear hK
                        have HSS := Lib.hid hS
                        clear hS
                        simp only [e1, e5]
                        go_simp
                        exact HK.out _ _ _ (by simp only [e1, e5]; rfl) ⟨_, rfl, heap_alloc_new wq _⟩ ⟨fun h => HSS.out.1 (Bool.or_eq_false_iff.1 h).2, bA HSS.out.2⟩ (bA (bR wq))
                      refine stepsOff_cons (k := 7) (n := 7) ?_ ?_
                      · refine stepOff_run (atS (atS (atS (atS (atS (atS (atS (at0)))))))) [1] (by kernel_rfl) (fun _ _ => rfl) (fun f wq l hl hun hdn hS hd K' hK => ?_)
                        obtain ⟨e1, -⟩ := hd
                        have e1 : f 1 = .bool false := e1
                        have HK := Lib.hid hK
                        clear hK
                        have HSS := Lib.hid hS
                        clear hS
                        simp only [e1]
                        go_simp
                        exact HK.out _ _ _ (by simp only [e1]; rfl) rfl ⟨fun h => HSS.out.1 (Bool.or_eq_false_iff.1 h).2, HSS.out.2⟩ (rr _)
                      refine stepsOff_cons (k := 8) (n := 6) ?_ ?_
                      · refine stepOff_run (atS (atS (atS (atS (atS (atS (atS (atS (at0))))))))) [1] (by kernel_rfl) (fun _ _ => rfl) (fun f wq l hl hun hdn hS hd K' hK => ?_)
                        obtain ⟨e1, -⟩ := hd
                        have e1 : f 1 = .bool false := e1
                        have HK := Lib.hid hK
                        clear hK
                        have HSS := Lib.hid hS
                        clear hS
                        simp only [e1]
                        go_simp
                        exact HK.out _ _ _ (by simp only [e1]; rfl) rfl ⟨fun h => HSS.out.1 (Bool.or_eq_false_iff.1 h).2, HSS.out.2⟩ (rr _)
                      refine stepsOff_cons (k := 9) (n := 5) ?_ ?_
                      · refine stepOff_run (atS (atS (atS (atS (atS (atS (atS (atS (atS (at0)))))))))) [1, 7, 8] (by kernel_rfl) (fun _ _ => rfl) (fun f wq l hl hun hdn hS hd K' hK => ?_)
                        obtain ⟨e1, e7, e8, -⟩ := hd
                        have e1 : f 1 = .bool false := e1
                        have e7 : f 7 = .slice (some ⟨g2, o2, none⟩) Np cp := e7
                        have e8 : f 8 = .int .i64 i := e8
                        have HK := Lib.hid hK
                        clear hK
                        have HSS := Lib.hid hS
                        clear hS
                        simp only [e1, e7, e8]
                        go_simp
                        exact HK.out _ _ _ (by simp only [e1, e7, e8]; rfl) rfl ⟨fun h => HSS.out.1 (Bool.or_eq_false_iff.1 h).2, HSS.out.2⟩ (rr _)
                      refine stepsOff_cons (k := 10) (n := 4) ?_ ?_
                      · refine stepOff_run (atS (atS (atS (atS (atS (atS (atS (atS (atS (atS (at0))))))))))) [1, 9] (by kernel_rfl) (fun _ _ => rfl) (fun f wq l hl hun hdn hS hd K' hK => ?_)
                        obtain ⟨e1, e9, -⟩ := hd
                        have e1 : f 1 = .bool false := e1
                        have e9 : f 9 = .pointer (some ⟨g2, o2 + i, none⟩) := e9
                        have HK := Lib.hid hK
                        clear hK
                        have hc := (HC.out wq hS.2).2
                        have HSS := Lib.hid hS
                        clear hS
                        simp only [e1, e9]
                        go_simp
                        exact HK.out _ _ _ (by simp only [e1, e9]; rfl) rfl ⟨fun h => HSS.out.1 (Bool.or_eq_false_iff.1 h).2, HSS.out.2⟩ (rr _)
                      refine stepsOff_cons (k := 11) (n := 3) ?_ ?_
                      · refine stepOff_run (atS (atS (atS (atS (atS (atS (atS (atS (atS (atS (atS (at0)))))))))))) [1, 10] (by kernel_rfl) (fun _ _ => rfl) (fun f wq l hl hun hdn hS hd K' hK => ?_)
                        obtain ⟨e1, e10, -⟩ := hd
                        have e1 : f 1 = .bool false := e1
                        have e10 : f 10 = .slice B2 m2 d2 := e10
                        have HK := Lib.hid hK
                        clear hK
                        have HSS := Lib.hid hS
                        clear hS
                        simp only [e1, e10]
                        go_simp
                        exact HK.out _ _ _ (by simp only [e1, e10]; rfl) ⟨_, rfl, heap_alloc_new wq _⟩ ⟨fun h => HSS.out.1 (Bool.or_eq_false_iff.1 h).2, bA HSS.out.2⟩ (bA (bR wq))
                      refine stepsOff_cons (k := 12) (n := 2) ?_ ?_
                      · refine stepOff_run (atS (atS (atS (atS (atS (atS (atS (atS (atS (atS (atS (atS (at0))))))))))))) [1, 6, 11] (by kernel_rfl) (fun _ _ => rfl) (fun f wq l hl hun hdn hS hd K' hK => ?_)
                        obtain ⟨e1, e6, e11, -⟩ := hd
                        have e1 : f 1 = .bool false := e1
                        have e6 : ∃ b, (f 6) = .slice (some ⟨b, 0, none⟩) 1 1 ∧ wq.heap[b]? = some (.cells #[.slice B1 m1 d1] 32) := e6
                        have e11 : ∃ b, (f 11) = .slice (some ⟨b, 0, none⟩) 1 1 ∧ wq.heap[b]? = some (.cells #[.slice B2 m2 d2] 32) := e11
                        have HK := Lib.hid hK
                        clear hK
                        obtain ⟨b6, hv6, hg6⟩ := e6
                        obtain ⟨b11, hv11, hg11⟩ := e11
                        obtain ⟨hr1, hr2⟩ := HRw.out wq hS.2
                        obtain ⟨⟨hm1, hm2⟩, ⟨hl1, hl1b⟩, hl2, hl2b⟩ := HM12.out
                        have HCz := Lib.hid (same16_any (some ⟨b6, 0, none⟩) (some ⟨b11, 0, none⟩) 1 1 1 1 [zi] [zo'] wq (rr_one (by rw [← hm1]; exact hg6) hl1b hr1 hl1) (rr_one (by rw [← hm2]; exact hg11) hl2b hr2 hl2) (by omega))
                        have HDz := Lib.hid (show decide ([zi] = [zo']) = decide (zi = zo') from by simp)
                        rw [HDz.out] at HCz
                        have HV := Lib.hid (And.intro hv6 hv11)
                        clear hg6 hg11 hr1 hr2 hm1 hm2 hl1 hl1b hl2 hl2b hv6 hv11
                        have HSS := Lib.hid hS
                        clear hS
                        simp only [e1, HV.out.1, HV.out.2]
                        go_simp
                        go_wp2_with fail
                        refine HCz.out.mono ?_
                        rintro e w9 ⟨rfl, hb9⟩
                        exact HK.out _ _ _ (by simp only [e1, HV.out.1, HV.out.2]; rfl) rfl ⟨fun h => HSS.out.1 (Bool.or_eq_false_iff.1 h).2, bT HSS.out.2 hb9⟩ hb9
                      refine stepsOff_cons (k := 13) (n := 1) ?_ ?_
                      · refine stepOff_run (atS (atS (atS (atS (atS (atS (atS (atS (atS (atS (atS (atS (atS (at0)))))))))))))) [1, 12] (by kernel_rfl) (fun _ _ => rfl) (fun f wq l hl hun hdn hS hd K' hK => ?_)
                        obtain ⟨e1, e12, -⟩ := hd
                        have e1 : f 1 = .bool false := e1
                        have e12 : f 12 = .bool (decide (zi = zo')) := e12
                        have HK := Lib.hid hK
                        clear hK
                        have HSS := Lib.hid hS
                        clear hS
                        simp only [e1, e12]
                        go_simp
                        exact HK.out _ _ _ (by simp only [e1, e12]; rfl) rfl ⟨fun h => HSS.out.1 (Bool.or_eq_false_iff.1 h).2, HSS.out.2⟩ (rr _)
                      refine stepsOff_cons (k := 14) (n := 0) ?_ ?_
                      · refine stepOff_run (atS (atS (atS (atS (atS (atS (atS (atS (atS (atS (atS (atS (atS (atS (at0))))))))))))))) [0, 1, 2, 3, 4, 5, 6, 7, 8, 9, 10, 11, 12, 13] (by kernel_rfl) (fun _ _ => rfl) (fun f wq l hl hun hdn hS hd K' hK => ?_)
                        obtain ⟨e0, e1, e2, e3, e4, e5, e6, e7, e8, e9, e10, e11, e12, e13, -⟩ := hd
                        have e0 : f 0 = .bool false := e0
                        have e1 : f 1 = .bool false := e1
                        have e2 : f 2 = .slice (some ⟨g1, o1, none⟩) Na ca := e2
                        have e3 : f 3 = .int .i64 j := e3
                        have e4 : f 4 = .pointer (some ⟨g1, o1 + j, none⟩) := e4
                        have e5 : f 5 = .slice B1 m1 d1 := e5
                        have e6 : ∃ b, (f 6) = .slice (some ⟨b, 0, none⟩) 1 1 ∧ wq.heap[b]? = some (.cells #[.slice B1 m1 d1] 32) := e6
                        have e7 : f 7 = .slice (some ⟨g2, o2, none⟩) Np cp := e7
                        have e8 : f 8 = .int .i64 i := e8
                        have e9 : f 9 = .pointer (some ⟨g2, o2 + i, none⟩) := e9
                        have e10 : f 10 = .slice B2 m2 d2 := e10
                        have e11 : ∃ b, (f 11) = .slice (some ⟨b, 0, none⟩) 1 1 ∧ wq.heap[b]? = some (.cells #[.slice B2 m2 d2] 32) := e11
                        have e12 : f 12 = .bool (decide (zi = zo')) := e12
                        have e13 : f 13 = .bool (decide (zi = zo')) := e13
                        have HK := Lib.hid hK
                        clear hK
                        clear e6 e11
                        have HSS := Lib.hid hS
                        clear hS
                        simp only [e0, e1, e2, e3, e4, e5, e7, e8, e9, e10, e12, e13]
                        go_simp
                        exact HK.out _ _ _ (by simp only [e0, e1, e2, e3, e4, e5, e7, e8, e9, e10, e12, e13]; rfl) rfl ⟨fun h => absurd h (by simp), HSS.out.2⟩ (rr _)
                      exact trivial
                    case fin =>
                      intro fo2 wz lo2 hl hall hS
                      have a0 : fo2 0 = .bool false := hall 0 (by decide)
                      have a1 : fo2 1 = .bool false := hall 1 (by decide)
                      have a2 : fo2 2 = .slice (some ⟨g1, o1, none⟩) Na ca := hall 2 (by decide)
                      have a3 : fo2 3 = .int .i64 j := hall 3 (by decide)
                      have a4 : fo2 4 = .pointer (some ⟨g1, o1 + j, none⟩) := hall 4 (by decide)
                      have a5 : fo2 5 = .slice B1 m1 d1 := hall 5 (by decide)
                      have a6 : ∃ b, (fo2 6) = .slice (some ⟨b, 0, none⟩) 1 1 ∧ wz.heap[b]? = some (.cells #[.slice B1 m1 d1] 32) := hall 6 (by decide)
                      have a7 : fo2 7 = .slice (some ⟨g2, o2, none⟩) Np cp := hall 7 (by decide)
                      have a8 : fo2 8 = .int .i64 i := hall 8 (by decide)
                      have a9 : fo2 9 = .pointer (some ⟨g2, o2 + i, none⟩) := hall 9 (by decide)
                      have a10 : fo2 10 = .slice B2 m2 d2 := hall 10 (by decide)
                      have a11 : ∃ b, (fo2 11) = .slice (some ⟨b, 0, none⟩) 1 1 ∧ wz.heap[b]? = some (.cells #[.slice B2 m2 d2] 32) := hall 11 (by decide)
                      have a12 : fo2 12 = .bool (decide (zi = zo')) := hall 12 (by decide)
                      have a13 : fo2 13 = .bool (decide (zi = zo')) := hall 13 (by decide)
                      have a14 : fo2 14 = .bool (decide (zi = zo')) := hall 14 (by decide)
                      clear hall
                      simp only [a14]
                      clear a0 a1 a2 a3 a4 a5 a6 a7 a8 a9 a10 a11 a12 a13 a14 rr hl
                      obtain ⟨WE, rfl⟩ : ∃ x, x = wz := ⟨wz, rfl⟩
                      have HBE2 := Lib.hid hS.2
                      clear hS
                      go_wp2_with fail
                      go_roundw
                      case rel => exact ⟨j + 1, by omega, by go_num, by rw [HT2.out], bT HBQ.out HBE2.out⟩
                      case measure => simp [intOf]; omega
                · have hjb : decide ((j : Int) < (Na : Int)) = false := by simp; omega
                  have hfin : decide (zo ∈ (singL (fenL p3)).take j) = true := by
                    rw [show j = Na by omega, List.take_of_length_le (by have := HLa.out; omega)]
                    simpa using HZin.out
                  simp only [hfin]
                  go_wp2_with fail
                  go_roundw
                  case rel => exact ⟨i + 1, by omega, by go_num, bT HBW.out HBQ.out⟩
                  case measure => simp [intOf]; omega
            · have hlb : decide ((i : Int) < (Np : Int)) = false := by simp; omega
              go_wp2_with fail
              go_ret
              exact ⟨rfl, bT HB9.out (bT HBF.out HBW.out)⟩
end Go.Proofs.YtnigadeohmlpiaaGreatDoor

namespace Go.Proofs.YtnigadeohmlpiaaGreatDoor.litmusSingly
open Go.ChangeShapes Go.WideShapes Go.ChangeAt Go.RowKit

set_option maxRecDepth 100000 in
theorem contract (H : Type) (enc : TypeId × Value → H) (W : World) (base : Nat) (args : Array Value) (ds gs : List (DataW H)) (before : List MemPlace)
    (hval : ∀ (j : Nat) t v, Tryz.f7.params[j]? = some t → args[j]? = some v → Value.okWide Tryz.prog W .any base t v)
    (hW : DataW.Whole enc Tryz.prog Tryz.f7.params.toList Rows.litmusSinglySpec.vars false W args.toList ds gs before) (hL : laidMetH Tryz.prog Rows.litmusTellsRow.laid W) (_hS : W.ShapedOpen Tryz.prog) :
    Calls Tryz.prog 7 args W fun e W' => ∃ v, e = .returned v ∧ Rows.litmusSinglySpec.post enc Tryz.prog Tryz.f7 false true false false W args v W' := by
  have hW' := hW
  have hlt : ∀ p ∈ before, p.block < W.heap.size := fun p hp => hW.lt p hp
  obtain ⟨p, q, hA0, hV, rfl, hfz, hnd⟩ := hW
  have hA : DataW.TrodAll enc Tryz.prog W 0 (fun _ => true) true Tryz.f7.params.toList args.toList ds p := hA0

  rw [Tryz.params7] at hA hval
  obtain ⟨v0, vs0, d0, ds0, p0, q0, hargs, rfl, rfl, h0, r0⟩ := trodAll_cons hA
  obtain ⟨rfl, rfl, rfl⟩ := trodAll_nil r0
  obtain rfl : args = #[v0] := by cases args; simp_all
  obtain ⟨rfl, rfl⟩ := trodVars_none hV
  obtain ⟨A0, n0, c0, L0, rfl, hi0, hn0⟩ := raw_in (hval 0 23 v0 rfl rfl) h0
  clear hA0
  refine (singly7_any A0 n0 c0 L0 W hi0 hn0 (glob_laid hL)).mono fun e W' ⟨he, hb⟩ => ?_
  subst he
  exact ⟨_, rfl, post_of_below (pv := []) hW' (fun _ _ _ => trodAll_cons_mk (shut_bool Tryz.underlying4 _) trodAll_mk0) (fun sp hsp => trodAll_cons_mk (keeps_in (by kernel_rfl) (of_decide_eq_true (by kernel_rfl)) h0 hb (fun x hx => hlt x (by simp [hx])) sp (fun x hx => hsp x (by simp [hx]))) trodAll_mk0) (fun _ _ => rfl) rfl hb (ok_one (by kernel_rfl) rfl (okWide_bool_mk Tryz.underlying4 _))⟩

theorem reads (os : Os) {H : Type} (enc : TypeId × Value → H) : ∃ places, DataW.whole enc Tryz.prog ((laidWorld os).forCall (fun _ _ => 0) ⟨#[], #[.slice none 0 0], []⟩).memory Tryz.f7.params.toList Rows.litmusSinglySpec.vars false (#[.slice none 0 0] : Array Value).toList 8 = some ([.nil], [], places) :=
  ⟨[], by kernel_rfl⟩

set_option maxRecDepth 100000 in
theorem lifted (os : Os) (started : os.Started) (H : Type) (enc : TypeId × Value → H) (F : Stop.Interp) :
    ReturnsInHanded {} Tryz.checked os 7 .any ((OpenSpec.ofChange Rows.litmusSinglySpec).preRow enc Tryz.prog Tryz.f7 Rows.litmusSinglyRow.domain false Rows.litmusSinglyRow.laid) (((OpenSpec.ofChange Rows.litmusSinglySpec).at F).post enc Tryz.prog Tryz.f7 false true false false) := by
  obtain ⟨places, hx⟩ := reads os enc
  refine returnsInHanded_of_row (C := Tryz.checked) (s := OpenSpec.ofChange Rows.litmusSinglySpec) own started (by kernel_rfl) Tryz.func7
    (witness_row_atRef (enc := enc) (C := Tryz.checked) false (laidWorld os) #[.slice none 0 0] rfl (by kernel_rfl) (by kernel_rfl) (by kernel_rfl)
      (OpenSpec.preRow_of_cond 8 hx (by kernel_rfl) (fun k hk => by cases hk) (by kernel_rfl) (laid_met os _))) ?_
  intro W base args ds gs before hval hW _ _ _ hL hS _
  exact contract H enc W base args ds gs before hval hW hL hS

theorem said : Rows.LitmusSinglySaid :=
  OpenClaim.holds_of_cond 7 Tryz.f7 rfl rfl rfl rfl rfl rfl rfl ⟨rfl, rfl, rfl, rfl, rfl⟩ rfl rfl rfl rfl rfl (by kernel_rfl) Tryz.func7 (by kernel_rfl)
    (of_decide_eq_true (by kernel_rfl)) (by unfold Func.isWrapper; first | (rw [if_pos (by decide +kernel)]; kernel_rfl) | (rw [if_neg (by decide +kernel)]; exact ⟨rfl, rfl⟩))
    (fun os started H enc _ F => by rw [OpenClaim.pre_eq_preRow]; exact lifted os started H enc F)

theorem plain (f : FuncId) (fn : Func) (hf : Tryz.pinned.checked.prog.funcNamed "headstock/headstocklaw13.LitmusSingly" = some f) (hfn : Tryz.pinned.checked.prog.funcs[f]? = some fn) :
    false = Tryz.pinned.checked.prog.looks [] ∧ ∀ (j : Nat) t, fn.params[j]? = some t → Tryz.pinned.checked.prog.wantsStandIn t = false := by
  obtain rfl : f = 7 := Option.some.inj ((show Tryz.prog.funcNamed "headstock/headstocklaw13.LitmusSingly" = some 7 by kernel_rfl).symm.trans hf) |>.symm
  obtain rfl : fn = Tryz.f7 := (Option.some.inj (Tryz.func7.symm.trans hfn)).symm
  refine ⟨by kernel_rfl, fun j t ht => ?_⟩
  have : ∀ t ∈ Tryz.f7.params, Tryz.prog.wantsStandIn t = false := by
    rw [Tryz.params7]
    intro t ht
    simp only [List.mem_toArray, List.mem_cons, List.not_mem_nil, or_false] at ht
    subst ht
    all_goals kernel_rfl
  exact this t (Array.mem_of_getElem? ht)

/-- the card -/
theorem card : Rows.LitmusSinglyCardSaid :=
  Claim7.holds_tied_plain_at .later [] _ _ _ _ said (fun _ h => by cases h) (by kernel_rfl) (fun _ h => by cases h) litmusSingly_row_tie rfl ⟨rfl, rfl⟩ (by kernel_rfl) rfl plain (by kernel_rfl)
end Go.Proofs.YtnigadeohmlpiaaGreatDoor.litmusSingly
