/- The statement LitmusFewer, for every input: no condition of ours. -/
import Derived.Test.YtnigadeohmlpiaaGreatDoorC31
import Derived.Test.YtnigadeohmlpiaaGreatDoorC28
import Derived.Test.YtnigadeohmlpiaaGreatDoorC30
import Derived.OpenShut
import Derived.SizedLaws
namespace Go.Proofs.YtnigadeohmlpiaaGreatDoor
open Go.RowKit
attribute [local go_sem] Oper.semAt_some

theorem rising_nodup {L : List (List Int)} (h : Rising L) : L.Nodup := by
  refine List.Pairwise.imp (fun {a b} hab he => ?_) h
  subst he
  rw [cmpL_refl] at hab
  exact absurd hab (by omega)

/-- a list with a fence more -/
def insF (l : List Ev) (k : Nat) (H : Int) : List Ev := l.take k ++ (⟨H, 3, 0, 0⟩ :: l.drop k)
theorem insF_at {l : List Ev} {k : Nat} (hk : k ≤ l.length) (H : Int) : (insF l k H)[k]? = some ⟨H, 3, 0, 0⟩ := by
  unfold insF
  rw [List.getElem?_append_right (by simp; omega)]
  simp [Nat.min_eq_left hk]
theorem insF_erase {l : List Ev} {k : Nat} (hk : k ≤ l.length) (H : Int) : (insF l k H).eraseIdx k = l := by
  unfold insF
  have h1 : (l.take k).length = k := by simp; omega
  rw [List.eraseIdx_append_of_length_le (by omega), h1, Nat.sub_self]
  simp
theorem insF_prog {l : List Ev} {k : Nat} {H : Int} (hH : 0 ≤ H ∧ H < 4) (hl : Prog l) (h5 : l.length ≤ 5) : Prog (insF l k H) := by
  have hmem : ∀ e ∈ insF l k H, e ∈ l ∨ e = ⟨H, 3, 0, 0⟩ := fun e he => by
    unfold insF at he
    rcases List.mem_append.1 he with h | h
    · exact .inl (List.mem_of_mem_take h)
    · rcases List.mem_cons.1 h with h | h
      · exact .inr h
      · exact .inl (List.mem_of_mem_drop h)
  refine ⟨by unfold insF; simp; omega, fun e he => ?_, fun e he hk => ?_⟩
  · rcases hmem e he with h | rfl
    · exact hl.ok e h
    · exact ⟨hH, ⟨by show (1 : Int) ≤ 3; omega, by show (3 : Int) ≤ 3; omega⟩, ⟨by show (0 : Int) ≤ 0; omega, by show (0 : Int) < 4; omega⟩, i32_zero, fun _ => ⟨rfl, rfl⟩⟩
  · rcases hmem e he with h | rfl
    · exact hl.odd e h hk
    · exact absurd hk (by show ¬(3 : Int) = 1; omega)
theorem prog_take {l : List Ev} (hl : Prog l) (k : Nat) : Prog (l.take k) := ⟨by have := hl.few; rw [List.length_take]; omega, fun e he => hl.ok e (List.mem_of_mem_take he), fun e he => hl.odd e (List.mem_of_mem_take he)⟩
theorem evCells_app (l m : List Ev) : evCells (l ++ m) = evCells l ++ evCells m := by simp [evCells]
theorem evCells_drop (l : List Ev) (k : Nat) : evCells (l.drop k) = (evCells l).drop (k * 4) := by
  induction l generalizing k with
  | nil => simp [evCells]
  | cons x l ih =>
    cases k with
    | zero => simp [evCells]
    | succ k =>
      have h : ∀ l : List Ev, evCells (x :: l) = .int .i64 x.h :: .int .i64 x.k :: .int .i64 x.a :: .int .i64 x.n :: evCells l := fun _ => rfl
      rw [List.drop_succ_cons, h, ih, show (k + 1) * 4 = k * 4 + 1 + 1 + 1 + 1 by omega]
      rfl
theorem evs_one (l : List Ev) : ∀ u ∈ evCells l, u.oneCell' = true := evCells_one l

theorem rd_drop {w : World} {g n k c : Nat} {l : List Ev} (h : IsEvs w (some ⟨g, 0, none⟩) n c l) (hk : k ≤ n) : Rd w 4 (if c = k then some ⟨g, 0, none⟩ else some ⟨g, k * 4, none⟩) (n - k) (evCells (l.drop k)) := by
  refine ⟨by rw [evCells_len, List.length_drop, h.len], fun hp => ?_⟩
  have hc := h.cap
  rw [if_neg (by omega)]
  obtain ⟨b, off, k1, k2, k3⟩ := h.row.rd.2 (by omega)
  injection k1 with k1
  injection k1 with k1 k4
  subst k1 k4
  refine ⟨_, k * 4, rfl, k2, fun j u hu => ?_⟩
  rw [evCells_drop, List.getElem?_drop] at hu
  have := k3 (k * 4 + j) u hu
  rwa [Nat.zero_add] at this
theorem rd_drop0 {w : World} {n k c : Nat} {l : List Ev} (h : IsEvs w none n c l) (hk : k ≤ n) : Rd w 4 none (n - k) (evCells (l.drop k)) := by
  refine ⟨by rw [evCells_len, List.length_drop, h.len], fun hp => ?_⟩
  obtain ⟨b, off, k1, _⟩ := h.row.rd.2 (by omega)
  cases k1

set_option maxHeartbeats 16000000 in
set_option maxRecDepth 100000 in
theorem fewer8_any (A : Option Addr) (n c : Nat) (L : List R4) (whr hart : Int) (w : World) (h : IsRaw w A n L) (hn : n ≤ 9223372036854775807) (hw1 : -9223372036854775808 ≤ whr) (hw2 : whr ≤ 9223372036854775807) (hh1 : -9223372036854775808 ≤ hart) (hh2 : hart ≤ 9223372036854775807) (hG : Glob w) :
    Calls Tryz.prog 8 #[.slice A n c, .int .i64 whr, .int .i64 hart] w fun o w' => o = .returned (.bool true) ∧ Below w.heap.size w w' := by
  obtain ⟨i0, hi, hz0, hz1, hz2⟩ := info_parts ev_info
  have HR := Lib.hid h
  have HG := Lib.hid hG
  have HAw := Lib.hid (awake_any w hG)
  have HNn := Lib.hid hn
  have HPk := Lib.hid (fun (wx : World) => pick24_any hart 4 wx (by omega) hh1 hh2)
  obtain ⟨H, hH⟩ : ∃ H, H = pk hart 4 := ⟨_, rfl⟩
  rw [← hH] at HPk
  have HHb := Lib.hid (show 0 ≤ H ∧ H < 4 from by rw [hH]; exact ⟨pk_lo _ _ (by omega), pk_hi _ _ (by omega)⟩)
  clear h hG hH
  go_enter Tryz.func8, Tryz.ntmps8
  go_wp2_with fail
  refine HAw.out.mono ?_
  rintro o w1 ⟨rfl, hb1⟩
  have HB1 := Lib.hid hb1
  have HF := Lib.hid (fit11_any A n c L w1 (HR.out.below hb1) HNn.out)
  have HG1 := Lib.hid (HG.out.below hb1)
  clear hb1
  go_wp2_with fail
  refine HF.out.mono ?_
  rintro o w2 ⟨⟨A2, c2, rfl, hown2, hc2⟩, hb2⟩
  obtain ⟨m, hm⟩ : ∃ m, m = (fitL L).length := ⟨_, rfl⟩
  obtain ⟨n4, hn4⟩ : ∃ q, q = min m 4 := ⟨_, rfl⟩
  obtain ⟨pl, hl⟩ : ∃ l, l = (fitL L).take n4 := ⟨_, rfl⟩
  have hll : pl.length = n4 := by rw [hl, List.length_take]; omega
  have HP := Lib.hid (show Prog pl from hl ▸ prog_take (fitL_prog L) _)
  have h44 : n4 ≤ 4 := by omega
  have hnm : n4 ≤ m := by omega
  rw [← hm] at hown2 hc2 ⊢
  have HE := Lib.hid (show IsEvs w2 A2 n4 c2 pl from ⟨hll, by omega, by
    have h1 := Row.of_own hown2
    have hms := Nat.mul_le_mul_right 4 hnm
    refine ⟨by rw [evCells_len, hll], fun hp => ?_⟩
    obtain ⟨b, off, cur, fz, k1, k2, k3⟩ := h1.2 (by omega)
    refine ⟨b, off, cur, fz, k1, k2, fun j u hu => k3 j u ?_⟩
    rw [hl, evCells_take, List.getElem?_take] at hu
    split at hu
    · exact hu
    · cases hu⟩)
  have HW2 := Lib.hid (bT HB1.out hb2)
  have HG2 := Lib.hid (HG1.out.below hb2)
  have HLl := Lib.hid hll
  have HC2 := Lib.hid (And.intro hnm hc2)
  have HKw := Lib.hid (pick24_any whr ((n4 : Int) + 1) w2 (by omega) hw1 hw2)
  have HKb := Lib.hid (show 0 ≤ pk whr ((n4 : Int) + 1) ∧ pk whr ((n4 : Int) + 1) < (n4 : Int) + 1 from ⟨pk_lo _ _ (by omega), pk_hi _ _ (by omega)⟩)
  -- the cut, for a list without anything and for any other
  have hmin : (min (m : Int) 4) = (n4 : Int) := by omega
  have hA2 : A2 = none ∨ ∃ g, A2 = some ⟨g, 0, none⟩ := by
    rcases own_forms hown2 with ⟨h1, _⟩ | ⟨g, _, h1, _⟩
    · injection h1 with h1 _ _
      exact .inl h1
    · injection h1 with h1 _ _
      exact .inr ⟨g, h1⟩
  clear hm hn4 hl hll hown2 hb2
  have hwr : IntKind.i64.wrap ((n4 : Int) + 1) = (n4 : Int) + 1 := IntWalk.i64_in _ (by omega)
  have hs1 : (n4 : Int) ≤ (c2 : Int) := by omega
  have hs0 : (0 : Int) ≤ (n4 : Int) := by omega
  obtain ⟨k, hk⟩ : ∃ k : Nat, (k : Int) = pk whr ((n4 : Int) + 1) := ⟨(pk whr ((n4 : Int) + 1)).toNat, by have := HKb.out; omega⟩
  have hkn : k ≤ n4 := by have := HKb.out; omega
  rw [← hk] at HKw
  clear hk HKb
  go_wp2_with fail
  refine HKw.out.mono ?_
  rintro o w3 ⟨rfl, rfl⟩
  obtain ⟨wB, rfl⟩ : ∃ x, x = w2 := ⟨w2, rfl⟩
  have hk0 : (0 : Int) ≤ (k : Int) := by omega
  have hkc : (k : Int) ≤ (c2 : Int) := by omega
  have hkn' : (k : Int) ≤ (n4 : Int) := by omega
  have hkN := Lib.hid hkn
  go_upto_region 5 with fail
  clear hs1 hs0 hmin hwr
  have HTk := Lib.hid (show Rd wB 4 A2 k (evCells (pl.take k)) from by
    have hkn := hkN.out
    refine ⟨by rw [evCells_len, List.length_take, HLl.out]; omega, fun hp => ?_⟩
    obtain ⟨b, off, k1, k2, k3⟩ := HE.out.row.rd.2 (by omega)
    refine ⟨b, off, k1, k2, fun j u hu => k3 j u ?_⟩
    rw [evCells_take, List.getElem?_take] at hu
    split at hu
    · exact hu
    · cases hu)
  refine wp_region_det (by kernel_rfl) (fun f => (⟨#[Value.slice A n c, .int .i64 whr, .int .i64 hart, undef, undef, undef, Value.bool false, Value.bool true, Value.slice A2 n4 c2, .int .i64 (k : Int), f 13, undef, undef, undef, undef, undef, Value.bool true, Value.slice A n c, Value.slice A2 m c2, Value.slice A2 m c2, Value.slice A2 m c2, .int .i64 (m : Int), .int .i64 (n4 : Int), Value.slice A2 n4 c2, .int .i64 whr, Value.slice A2 n4 c2, .int .i64 (n4 : Int), .int .i64 ((n4 : Int) + 1), .int .i64 (k : Int), f 0, f 1, f 2, f 3, f 4, f 5, f 6, f 7, f 8, f 9, f 10, f 11, f 12, undef, undef, undef, undef, undef, undef, undef, undef, undef, undef, undef, undef, undef, undef, undef, undef, undef, undef, undef, undef, undef, undef, undef, undef, undef, undef, undef, undef, undef, undef, undef, undef, undef, undef, undef, undef, undef, undef, undef, undef, undef, undef, undef, undef, undef], []⟩ : Act)) (fun (iv : Nat) (lv : Nat → Bool) (fv : Nat → Value) (wx : World) => match iv with | 0 => fv 0 = .slice A2 n4 c2 | 1 => fv 1 = .int .i64 k | 2 => fv 2 = .slice A2 k c2 | 3 => ((lv 8) = false → (lv 12) = false → wx.ownsRow wB.heap.size 44 4 (fv 3) k (evCells (pl.take k))) | 4 => fv 4 = .int .i64 hart | 5 => fv 5 = .int .i64 H | 6 => fv 6 = .agg #[.int .i64 H, .int .i64 3, .int .i64 0, .int .i64 0] | 7 => ∃ b, (fv 7) = .slice (some ⟨b, 0, none⟩) 1 1 ∧ ((lv 8) = false → (lv 12) = false → wx.heap[b]? = some (.cells #[.int .i64 H, .int .i64 3, .int .i64 0, .int .i64 0] 44)) | 8 => ((lv 12) = false → wx.ownsRow wB.heap.size 44 4 (fv 8) (k + 1) (evCells (pl.take k ++ [⟨H, 3, 0, 0⟩]))) | 9 => fv 9 = .slice A2 n4 c2 | 10 => fv 10 = .int .i64 k | 11 => ∃ A3 c3, (fv 11) = .slice A3 (n4 - k) c3 ∧ Rd wB 4 A3 (n4 - k) (evCells (pl.drop k)) | 12 => wx.ownsRow wB.heap.size 44 4 (fv 12) (k + 1 + (n4 - k)) (evCells (pl.take k ++ [⟨H, 3, 0, 0⟩] ++ pl.drop k)) | 13 => (fv 13) = (fv 12) | _ => True) (fun (_ : Nat → Bool) (wx : World) => Below wB.heap.size wB wx) (fun (iv : Nat) (w1 : World) (w2 : World) => (iv = 8 ∨ iv = 12 ∨ Below w1.heap.size w1 w2)) (by kernel_rfl) (fun k => match k with | _ => undef) rfl ?keep (bD (bR wB)) ?steps ?fin
  case keep =>
    intro iv j hij hd l f f' w1 w2 hf hR
    match j with
    | 0 => exact fun h => (hf 0 (Ne.symm hij)).trans h
    | 1 => exact fun h => (hf 1 (Ne.symm hij)).trans h
    | 2 => exact fun h => (hf 2 (Ne.symm hij)).trans h
    | 3 =>
      intro h
      have h : ((l 8) = false → (l 12) = false → w1.ownsRow wB.heap.size 44 4 (f 3) k (evCells (pl.take k))) := h
      show ((decide (8 = iv) || l 8) = false → (decide (12 = iv) || l 12) = false → w2.ownsRow wB.heap.size 44 4 (f' 3) k (evCells (pl.take k)))
      rw [hf 3 (Ne.symm hij)]
      exact fun g8 g12 => hR.elim (fun e => absurd g8 (by simp [e])) fun h2 => h2.elim (fun e => absurd g12 (by simp [e])) fun hb => own_tk (T := []) (h (Bool.or_eq_false_iff.1 g8).2 (Bool.or_eq_false_iff.1 g12).2) (Tk.below hb) (by simp)
    | 4 => exact fun h => (hf 4 (Ne.symm hij)).trans h
    | 5 => exact fun h => (hf 5 (Ne.symm hij)).trans h
    | 6 => exact fun h => (hf 6 (Ne.symm hij)).trans h
    | 7 =>
      intro h
      have h : ∃ b, (f 7) = .slice (some ⟨b, 0, none⟩) 1 1 ∧ ((l 8) = false → (l 12) = false → w1.heap[b]? = some (.cells #[.int .i64 H, .int .i64 3, .int .i64 0, .int .i64 0] 44)) := h
      show ∃ b, (f' 7) = .slice (some ⟨b, 0, none⟩) 1 1 ∧ ((decide (8 = iv) || l 8) = false → (decide (12 = iv) || l 12) = false → w2.heap[b]? = some (.cells #[.int .i64 H, .int .i64 3, .int .i64 0, .int .i64 0] 44))
      rw [hf 7 (Ne.symm hij)]
      exact h.imp fun b h => ⟨h.1, fun g8 g12 => hR.elim (fun e => absurd g8 (by simp [e])) fun h2 => h2.elim (fun e => absurd g12 (by simp [e])) fun hb => blk_below hb (h.2 (Bool.or_eq_false_iff.1 g8).2 (Bool.or_eq_false_iff.1 g12).2)⟩
    | 8 =>
      intro h
      have h : ((l 12) = false → w1.ownsRow wB.heap.size 44 4 (f 8) (k + 1) (evCells (pl.take k ++ [⟨H, 3, 0, 0⟩]))) := h
      show ((decide (12 = iv) || l 12) = false → w2.ownsRow wB.heap.size 44 4 (f' 8) (k + 1) (evCells (pl.take k ++ [⟨H, 3, 0, 0⟩])))
      rw [hf 8 (Ne.symm hij)]
      exact fun g12 => hR.elim (fun e => absurd e hij) fun h2 => h2.elim (fun e => absurd g12 (by simp [e])) fun hb => own_tk (T := []) (h (Bool.or_eq_false_iff.1 g12).2) (Tk.below hb) (by simp)
    | 9 => exact fun h => (hf 9 (Ne.symm hij)).trans h
    | 10 => exact fun h => (hf 10 (Ne.symm hij)).trans h
    | 11 =>
      intro h
      have h : ∃ A3 c3, (f 11) = .slice A3 (n4 - k) c3 ∧ Rd wB 4 A3 (n4 - k) (evCells (pl.drop k)) := h
      show ∃ A3 c3, (f' 11) = .slice A3 (n4 - k) c3 ∧ Rd wB 4 A3 (n4 - k) (evCells (pl.drop k))
      rw [hf 11 (Ne.symm hij)]
      exact h
    | 12 =>
      intro h
      have h : w1.ownsRow wB.heap.size 44 4 (f 12) (k + 1 + (n4 - k)) (evCells (pl.take k ++ [⟨H, 3, 0, 0⟩] ++ pl.drop k)) := h
      show w2.ownsRow wB.heap.size 44 4 (f' 12) (k + 1 + (n4 - k)) (evCells (pl.take k ++ [⟨H, 3, 0, 0⟩] ++ pl.drop k))
      rw [hf 12 (Ne.symm hij)]
      exact hR.elim (fun e => absurd (by rw [e]; exact of_decide_eq_true (by kernel_rfl)) hd) fun h2 => h2.elim (fun e => absurd e hij) fun hb => own_tk (T := []) h (Tk.below hb) (by simp)
    | 13 =>
      intro h
      have h : (f 13) = (f 12) := h
      show (f' 13) = (f' 12)
      rw [hf 13 (Ne.symm hij), hf 12 (fun e => hd (e ▸ of_decide_eq_true (by kernel_rfl)))]
      exact h
    | _ + 14 => exact id
  case steps =>
    refine fun iv hiv => stepsOf_at (k := 0) (n := 14) ?_ iv (Nat.zero_le _) (by rw [Nat.zero_add]; exact hiv)
    refine stepsOf_cons (k := 0) (n := 13) ?_ ?_
    · refine stepOf_run (at0) [] (by kernel_rfl) (fun _ _ => rfl) (fun f wq l hl hun hdn hS hd K' hK => ?_)
      clear hd
      have HK := Lib.hid hK
      clear hK
      have HSS := Lib.hid hS
      clear hS
      go_simp
      exact HK.out _ _ _ rfl rfl HSS.out (.inr (.inr (bR wq)))
    refine stepsOf_cons (k := 1) (n := 12) ?_ ?_
    · refine stepOf_run (atS (at0)) [] (by kernel_rfl) (fun _ _ => rfl) (fun f wq l hl hun hdn hS hd K' hK => ?_)
      clear hd
      have HK := Lib.hid hK
      clear hK
      have HSS := Lib.hid hS
      clear hS
      go_simp
      exact HK.out _ _ _ rfl rfl HSS.out (.inr (.inr (bR wq)))
    refine stepsOf_cons (k := 2) (n := 11) ?_ ?_
    · refine stepOf_run (atS (atS (at0))) [0, 1] (by kernel_rfl) (fun _ _ => rfl) (fun f wq l hl hun hdn hS hd K' hK => ?_)
      obtain ⟨e0, e1, -⟩ := hd
      have e0 : f 0 = .slice A2 n4 c2 := e0
      have e1 : f 1 = .int .i64 k := e1
      have HK := Lib.hid hK
      clear hK
      have HSS := Lib.hid hS
      clear hS
      simp only [e0, e1]
      go_simp
      exact HK.out _ _ _ (by simp only [e0, e1]; rfl) rfl HSS.out (.inr (.inr (bR wq)))
    refine stepsOf_cons (k := 3) (n := 10) ?_ ?_
    · refine stepOf_run (atS (atS (atS (at0)))) [2] (by kernel_rfl) (fun _ _ => rfl) (fun f wq l hl hun hdn hS hd K' hK => ?_)
      obtain ⟨e2, -⟩ := hd
      have e2 : f 2 = .slice A2 k c2 := e2
      have HK := Lib.hid hK
      clear hK
      have hkn := hkN.out
      rw [if_pos (by rfl)]
      refine wp_append_rd _ _ _ 22 rfl wB.heap.size 44 i0 _ 4 32 Tryz.underlying22 hi hz0 hz1 hz2 rfl (by decide) (.slice none 0 0) 0 [] rfl (World.ownsRow_nil _ _ _ _) A2 k c2 (evCells (pl.take k)) (by simp only [e2]; rfl) (HTk.out.below hS) (evs_one _) (by unfold maxLen; omega) (by omega) hS.size ?_
      intro v9 w9 hown9 hg9
      rw [Nat.zero_add] at hown9
      have hb9 : Below wq.heap.size wq w9 := (bR wq).grown hg9 (Nat.le_refl _) (fun r e => by cases e)
      exact HK.out _ _ _ (by first | rfl | (simp only [e2]; rfl)) (fun _ _ => hown9) (bT hS hb9) (.inr (.inr hb9))
    refine stepsOf_cons (k := 4) (n := 9) ?_ ?_
    · refine stepOf_run (atS (atS (atS (atS (at0))))) [] (by kernel_rfl) (fun _ _ => rfl) (fun f wq l hl hun hdn hS hd K' hK => ?_)
      clear hd
      have HK := Lib.hid hK
      clear hK
      have HSS := Lib.hid hS
      clear hS
      go_simp
      exact HK.out _ _ _ rfl rfl HSS.out (.inr (.inr (bR wq)))
    refine stepsOf_cons (k := 5) (n := 8) ?_ ?_
    · refine stepOf_run (atS (atS (atS (atS (atS (at0)))))) [3, 4] (by kernel_rfl) (fun _ _ => rfl) (fun f wq l hl hun hdn hS hd K' hK => ?_)
      obtain ⟨e3, e4, -⟩ := hd
      have e3 : ((l 8) = false → (l 12) = false → wq.ownsRow wB.heap.size 44 4 (f 3) k (evCells (pl.take k))) := e3
      have e4 : f 4 = .int .i64 hart := e4
      have HK := Lib.hid hK
      clear hK
      have HSS := Lib.hid hS
      clear hS
      simp only [e4]
      have HCz := Lib.hid (HPk.out wq)
      go_simp
      go_wp2_with fail
      refine HCz.out.mono ?_
      rintro e w9 ⟨rfl, rfl⟩
      exact HK.out _ _ _ (by simp only [e4]; rfl) rfl HSS.out (.inr (.inr (bR wq)))
    refine stepsOf_cons (k := 6) (n := 7) ?_ ?_
    · refine stepOf_run (atS (atS (atS (atS (atS (atS (at0))))))) [5] (by kernel_rfl) (fun _ _ => rfl) (fun f wq l hl hun hdn hS hd K' hK => ?_)
      obtain ⟨e5, -⟩ := hd
      have e5 : f 5 = .int .i64 H := e5
      have HK := Lib.hid hK
      clear hK
      have HSS := Lib.hid hS
      clear hS
      simp only [e5]
      go_simp
      exact HK.out _ _ _ (by simp only [e5]; rfl) rfl HSS.out (.inr (.inr (bR wq)))
    refine stepsOf_cons (k := 7) (n := 6) ?_ ?_
    · refine stepOf_run (atS (atS (atS (atS (atS (atS (atS (at0)))))))) [6] (by kernel_rfl) (fun _ _ => rfl) (fun f wq l hl hun hdn hS hd K' hK => ?_)
      obtain ⟨e6, -⟩ := hd
      have e6 : f 6 = .agg #[.int .i64 H, .int .i64 3, .int .i64 0, .int .i64 0] := e6
      have HK := Lib.hid hK
      clear hK
      have HSS := Lib.hid hS
      clear hS
      simp only [e6]
      go_simp
      exact HK.out _ _ _ (by simp only [e6]; rfl) ⟨_, rfl, fun _ _ => heap_alloc_new wq _⟩ (bA HSS.out) (.inr (.inr (bA (bR wq))))
    refine stepsOf_cons (k := 8) (n := 5) ?_ ?_
    · refine stepOf_run (atS (atS (atS (atS (atS (atS (atS (atS (at0))))))))) [3, 5, 7] (by kernel_rfl) (fun _ _ => rfl) (fun f wq l hl hun hdn hS hd K' hK => ?_)
      obtain ⟨e3, e5, e7, -⟩ := hd
      have e3 : ((l 8) = false → (l 12) = false → wq.ownsRow wB.heap.size 44 4 (f 3) k (evCells (pl.take k))) := e3
      have e5 : f 5 = .int .i64 H := e5
      have e7 : ∃ b, (f 7) = .slice (some ⟨b, 0, none⟩) 1 1 ∧ ((l 8) = false → (l 12) = false → wq.heap[b]? = some (.cells #[.int .i64 H, .int .i64 3, .int .i64 0, .int .i64 0] 44)) := e7
      have HK := Lib.hid hK
      clear hK
      have hkn := hkN.out
      have h12 := hun 12 (of_decide_eq_true (by kernel_rfl))
      have e3 := e3 hl h12
      obtain ⟨b, hv7, hg⟩ := e7
      have hg := hg hl h12
      rw [if_pos (by rfl)]
      refine wp_append_rd _ _ _ 22 rfl wB.heap.size 44 i0 _ 4 32 Tryz.underlying22 hi hz0 hz1 hz2 rfl (by decide) (f 3) k (evCells (pl.take k)) rfl e3 (some ⟨b, 0, none⟩) 1 1 [.int .i64 H, .int .i64 3, .int .i64 0, .int .i64 0] (by rw [← hv7]; rfl) ⟨rfl, fun _ => ⟨b, 0, rfl, blk_lt hg, fun j u hu => by rw [cell_of_row _ _ _ _ _ _ hg, Nat.zero_add, ← hu]; simp⟩⟩ (by simp [Value.oneCell']) (by unfold maxLen; omega) (by omega) hS.size ?_
      intro v9 w9 hown9 hg9
      have hS9 := hS.grown hg9 hS.size (fun r e => (e3.lt r e).1)
      have hown9 : w9.ownsRow wB.heap.size 44 4 v9 (k + 1) (evCells (pl.take k ++ [⟨H, 3, 0, 0⟩])) := by rw [evCells_app]; exact hown9
      exact HK.out _ _ _ (by first | rfl | (simp only [e5]; rfl)) (fun _ => hown9) hS9 (.inl rfl)
    refine stepsOf_cons (k := 9) (n := 4) ?_ ?_
    · refine stepOf_run (atS (atS (atS (atS (atS (atS (atS (atS (atS (at0)))))))))) [] (by kernel_rfl) (fun _ _ => rfl) (fun f wq l hl hun hdn hS hd K' hK => ?_)
      clear hd
      have HK := Lib.hid hK
      clear hK
      have HSS := Lib.hid hS
      clear hS
      go_simp
      exact HK.out _ _ _ rfl rfl HSS.out (.inr (.inr (bR wq)))
    refine stepsOf_cons (k := 10) (n := 3) ?_ ?_
    · refine stepOf_run (atS (atS (atS (atS (atS (atS (atS (atS (atS (atS (at0))))))))))) [] (by kernel_rfl) (fun _ _ => rfl) (fun f wq l hl hun hdn hS hd K' hK => ?_)
      clear hd
      have HK := Lib.hid hK
      clear hK
      have HSS := Lib.hid hS
      clear hS
      go_simp
      exact HK.out _ _ _ rfl rfl HSS.out (.inr (.inr (bR wq)))
    refine stepsOf_cons (k := 11) (n := 2) ?_ ?_
    · refine stepOf_run (atS (atS (atS (atS (atS (atS (atS (atS (atS (atS (atS (at0)))))))))))) [9, 10] (by kernel_rfl) (fun _ _ => rfl) (fun f wq l hl hun hdn hS hd K' hK => ?_)
      obtain ⟨e9, e10, -⟩ := hd
      have e9 : f 9 = .slice A2 n4 c2 := e9
      have e10 : f 10 = .int .i64 k := e10
      have HK := Lib.hid hK
      clear hK
      have hkn := hkN.out
      obtain ⟨e9q, e10q⟩ : f 9 = .slice A2 n4 c2 ∧ f 10 = .int .i64 k := ⟨e9, e10⟩
      have HSS := Lib.hid hS
      clear hS
      simp only [e9q, e10q]
      rcases hA2 with rfl | ⟨g, rfl⟩
      · go_simp
        exact HK.out (.slice none (n4 - k) (c2 - k)) _ _ (by simp only [e9q, e10q]; rfl) ⟨_, _, rfl, rd_drop0 HE.out hkn⟩ HSS.out (.inr (.inr (bR wq)))
      · go_simp
        exact HK.out (.slice (if c2 = k then some ⟨g, 0, none⟩ else some ⟨g, k * 4, none⟩) (n4 - k) (c2 - k)) _ _ (by simp only [e9q, e10q]; rfl) ⟨_, _, rfl, rd_drop HE.out hkn⟩ HSS.out (.inr (.inr (bR wq)))
    refine stepsOf_cons (k := 12) (n := 1) ?_ ?_
    · refine stepOf_run (atS (atS (atS (atS (atS (atS (atS (atS (atS (atS (atS (atS (at0))))))))))))) [8, 11] (by kernel_rfl) (fun _ _ => rfl) (fun f wq l hl hun hdn hS hd K' hK => ?_)
      obtain ⟨e8, e11, -⟩ := hd
      have e8 : ((l 12) = false → wq.ownsRow wB.heap.size 44 4 (f 8) (k + 1) (evCells (pl.take k ++ [⟨H, 3, 0, 0⟩]))) := e8
      have e11 : ∃ A3 c3, (f 11) = .slice A3 (n4 - k) c3 ∧ Rd wB 4 A3 (n4 - k) (evCells (pl.drop k)) := e11
      have HK := Lib.hid hK
      clear hK
      have hkn := hkN.out
      have e8 := e8 hl
      obtain ⟨A3, c3, hv11, hrd⟩ := e11
      rw [if_pos (by rfl)]
      refine wp_append_rd _ _ _ 22 rfl wB.heap.size 44 i0 _ 4 32 Tryz.underlying22 hi hz0 hz1 hz2 rfl (by decide) (f 8) (k + 1) (evCells (pl.take k ++ [⟨H, 3, 0, 0⟩])) rfl e8 A3 (n4 - k) c3 (evCells (pl.drop k)) (by rw [← hv11]; rfl) (hrd.below hS) (evs_one _) (by unfold maxLen; omega) (by omega) hS.size ?_
      intro v9 w9 hown9 hg9
      have hS9 := hS.grown hg9 hS.size (fun r e => (e8.lt r e).1)
      have hown9 : w9.ownsRow wB.heap.size 44 4 v9 (k + 1 + (n4 - k)) (evCells (pl.take k ++ [⟨H, 3, 0, 0⟩] ++ pl.drop k)) := by rw [evCells_app]; exact hown9
      exact HK.out _ _ _ rfl hown9 hS9 (.inr (.inl rfl))
    refine stepsOf_cons (k := 13) (n := 0) ?_ ?_
    · refine stepOf_run (atS (atS (atS (atS (atS (atS (atS (atS (atS (atS (atS (atS (atS (at0)))))))))))))) [0, 1, 2, 3, 4, 5, 6, 7, 8, 9, 10, 11, 12] (by kernel_rfl) (fun _ _ => rfl) (fun f wq l hl hun hdn hS hd K' hK => ?_)
      obtain ⟨e0, e1, e2, e3, e4, e5, e6, e7, e8, e9, e10, e11, e12, -⟩ := hd
      have e0 : f 0 = .slice A2 n4 c2 := e0
      have e1 : f 1 = .int .i64 k := e1
      have e2 : f 2 = .slice A2 k c2 := e2
      have e3 : ((l 8) = false → (l 12) = false → wq.ownsRow wB.heap.size 44 4 (f 3) k (evCells (pl.take k))) := e3
      have e4 : f 4 = .int .i64 hart := e4
      have e5 : f 5 = .int .i64 H := e5
      have e6 : f 6 = .agg #[.int .i64 H, .int .i64 3, .int .i64 0, .int .i64 0] := e6
      have e7 : ∃ b, (f 7) = .slice (some ⟨b, 0, none⟩) 1 1 ∧ ((l 8) = false → (l 12) = false → wq.heap[b]? = some (.cells #[.int .i64 H, .int .i64 3, .int .i64 0, .int .i64 0] 44)) := e7
      have e8 : ((l 12) = false → wq.ownsRow wB.heap.size 44 4 (f 8) (k + 1) (evCells (pl.take k ++ [⟨H, 3, 0, 0⟩]))) := e8
      have e9 : f 9 = .slice A2 n4 c2 := e9
      have e10 : f 10 = .int .i64 k := e10
      have e11 : ∃ A3 c3, (f 11) = .slice A3 (n4 - k) c3 ∧ Rd wB 4 A3 (n4 - k) (evCells (pl.drop k)) := e11
      have e12 : wq.ownsRow wB.heap.size 44 4 (f 12) (k + 1 + (n4 - k)) (evCells (pl.take k ++ [⟨H, 3, 0, 0⟩] ++ pl.drop k)) := e12
      have HK := Lib.hid hK
      clear hK
      have HSS := Lib.hid hS
      clear hS
      clear e3 e7 e8 e11 e12
      simp only [e0, e1, e2, e4, e5, e6, e9, e10]
      go_simp
      exact HK.out _ _ _ (by simp only [e0, e1, e2, e4, e5, e6, e9, e10]; rfl) rfl HSS.out (.inr (.inr (bR wq)))
    exact trivial
  case fin =>
    intro fo wz lo hl hall hS
    have a0 : fo 0 = .slice A2 n4 c2 := hall 0 (by decide)
    have a1 : fo 1 = .int .i64 k := hall 1 (by decide)
    have a2 : fo 2 = .slice A2 k c2 := hall 2 (by decide)
    have a3 : ((lo 8) = false → (lo 12) = false → wz.ownsRow wB.heap.size 44 4 (fo 3) k (evCells (pl.take k))) := hall 3 (by decide)
    have a4 : fo 4 = .int .i64 hart := hall 4 (by decide)
    have a5 : fo 5 = .int .i64 H := hall 5 (by decide)
    have a6 : fo 6 = .agg #[.int .i64 H, .int .i64 3, .int .i64 0, .int .i64 0] := hall 6 (by decide)
    have a7 : ∃ b, (fo 7) = .slice (some ⟨b, 0, none⟩) 1 1 ∧ ((lo 8) = false → (lo 12) = false → wz.heap[b]? = some (.cells #[.int .i64 H, .int .i64 3, .int .i64 0, .int .i64 0] 44)) := hall 7 (by decide)
    have a8 : ((lo 12) = false → wz.ownsRow wB.heap.size 44 4 (fo 8) (k + 1) (evCells (pl.take k ++ [⟨H, 3, 0, 0⟩]))) := hall 8 (by decide)
    have a9 : fo 9 = .slice A2 n4 c2 := hall 9 (by decide)
    have a10 : fo 10 = .int .i64 k := hall 10 (by decide)
    have a11 : ∃ A3 c3, (fo 11) = .slice A3 (n4 - k) c3 ∧ Rd wB 4 A3 (n4 - k) (evCells (pl.drop k)) := hall 11 (by decide)
    have a12 : wz.ownsRow wB.heap.size 44 4 (fo 12) (k + 1 + (n4 - k)) (evCells (pl.take k ++ [⟨H, 3, 0, 0⟩] ++ pl.drop k)) := hall 12 (by decide)
    have a13 : (fo 13) = (fo 12) := hall 13 (by decide)
    clear hall
    clear a0 a1 a2 a3 a4 a5 a6 a7 a8 a9 a10 a11 hl
    obtain ⟨wE, rfl⟩ : ∃ x, x = wz := ⟨wz, rfl⟩
    obtain ⟨n5, hn5⟩ : ∃ q, q = k + 1 + (n4 - k) := ⟨_, rfl⟩
    have hn54 : n5 = n4 + 1 := by have := hkN.out; omega
    obtain ⟨ml, hml⟩ : ∃ q, q = insF pl k H := ⟨_, rfl⟩
    rw [← hn5, show pl.take k ++ [⟨H, 3, 0, 0⟩] ++ pl.drop k = ml from by rw [hml]; unfold insF; simp] at a12
    obtain ⟨A9, c9, hv12, hc9, _⟩ := own_slice a12
    rw [hv12] at a13
    simp only [a13, hv12]
    rw [hv12] at a12
    have HEm := Lib.hid (show IsEvs wE A9 n5 c9 ml from ⟨by rw [hml, hn54]; unfold insF; have := hkN.out; have := HLl.out; simp; omega, hc9, Row.of_own a12⟩)
    have HPm := Lib.hid (show Prog ml from by rw [hml]; exact insF_prog HHb.out HP.out (by have := HLl.out; omega))
    have HEl := Lib.hid (HE.out.sees (Below.sees hS))
    have HGE := Lib.hid (HG2.out.below hS)
    have HBE := Lib.hid (bT HW2.out hS)
    have HSub := Lib.hid (show ∀ z, (∃ xs, playP ml xs = some z) → ∃ xs, playP pl xs = some z from fun z hz => by
      have h1 := fewer_out HPm.out (by rw [hml]; exact insF_at (by rw [HLl.out]; exact hkN.out) H) rfl hz
      rw [hml, insF_erase (by rw [HLl.out]; exact hkN.out)] at h1
      exact h1)
    have HQ1 := Lib.hid (plays_any A2 n4 c2 pl wE HEl.out HP.out HGE.out)
    clear a12 a13 hv12 hc9 hml hn5 hn54 hS
    go_wp2_with fail
    refine HQ1.out.mono ?_
    rintro o w5 ⟨⟨v5, R1, rfl, hs5, hr5, hm5⟩, hb5⟩
    obtain ⟨A5, c5, rfl⟩ : ∃ A c, v5 = .slice A R1.length c := by
      obtain ⟨cs, h1, _⟩ := hs5
      obtain ⟨A5, c5, h, _⟩ := own_slice h1
      exact ⟨A5, c5, h⟩
    have hN1 : R1.length ≤ 9223372036854775807 := by
      obtain ⟨cs, h1, _⟩ := hs5
      obtain ⟨_, _, _, h5, h6⟩ := own_slice h1
      unfold maxLen at h6
      omega
    obtain ⟨N1, hN1e⟩ : ∃ q, q = R1.length := ⟨_, rfl⟩
    have HR1 := Lib.hid (RR.of_ss hs5 (fun z hz => by
      obtain ⟨xs, hp⟩ := (hm5 z).1 hz
      have h5 := playP_len hp
      have h6 := HP.out.few
      omega))
    rw [← hN1e] at HR1 hN1 ⊢
    have HM1 := Lib.hid hm5
    have HL1 := Lib.hid hN1e
    have HB5 := Lib.hid hb5
    have HQ2 := Lib.hid (plays_any A9 n5 c9 ml w5 (HEm.out.sees (Below.sees hb5)) HPm.out (HGE.out.below hb5))
    clear hs5 hr5 hm5 hb5 hN1e
    go_wp2_with fail
    refine HQ2.out.mono ?_
    rintro o w6 ⟨⟨v6, R2, rfl, hs6, hr6, hm6⟩, hb6⟩
    obtain ⟨A6, c6, rfl⟩ : ∃ A c, v6 = .slice A R2.length c := by
      obtain ⟨cs, h1, _⟩ := hs6
      obtain ⟨A6, c6, h, _⟩ := own_slice h1
      exact ⟨A6, c6, h⟩
    have HIn := Lib.hid (show ∀ z ∈ R2, z ∈ R1 from fun z hz => (HM1.out z).2 (HSub.out z ((hm6 z).1 hz)))
    have hlen : R2.length ≤ N1 := by
      rw [HL1.out]
      exact nodup_len (rising_nodup hr6) HIn.out
    have hpos : 0 < R2.length := by
      obtain ⟨xs, z, hp⟩ := some_outcome HPm.out
      exact List.length_pos_of_mem ((hm6 z).2 ⟨xs, hp⟩)
    obtain ⟨N2, hN2e⟩ : ∃ q, q = R2.length := ⟨_, rfl⟩
    have HR2 := Lib.hid (RR.of_ss hs6 (fun z hz => by
      obtain ⟨xs, hp⟩ := (hm6 z).1 hz
      have h5 := playP_len hp
      have h6 := HPm.out.few
      omega))
    rw [← hN2e] at HR2 hlen hpos ⊢
    have HL2 := Lib.hid hN2e
    have HR1' := Lib.hid (HR1.out.below hb6)
    have HB6 := Lib.hid (bT HBE.out (bT HB5.out hb6))
    clear hs6 hr6 hm6 hb6 hN2e
    go_wp2_with fail
    go_loopw [13, 14, 15] (fun vi vh vj wr => ∃ i : Nat, i ≤ N2 ∧ vi = .int .i64 i ∧ Below w6.heap.size w6 wr) (fun vi _ _ _ => N2 - (intOf vi).toNat)
    case atStart => exact ⟨0, by omega, rfl, bR w6⟩
    case round =>
      obtain ⟨i, hi, rfl, hbw⟩ := hrel
      obtain ⟨wo, rfl⟩ : ∃ x, x = wr := ⟨wr, rfl⟩
      have HBW := Lib.hid hbw
      clear hbw
      by_cases hlt : i < N2
      · have hlb : decide ((i : Int) < (N2 : Int)) = true := by simp; omega
        obtain ⟨zb, hzb⟩ : ∃ z, R2[i]? = some z := ⟨_, List.getElem?_eq_getElem (by have := HL2.out; omega)⟩
        have HZb := Lib.hid hzb
        have HZin := Lib.hid (HIn.out zb (List.mem_of_getElem? hzb))
        clear hzb
        go_wp2_with fail
        go_loopw [14, 15] (fun vh vj wq => ∃ j : Nat, j ≤ N1 ∧ vj = .int .i64 j ∧ vh = .bool (decide (zb ∈ R1.take j)) ∧ Below wo.heap.size wo wq) (fun _ vj _ => N1 - (intOf vj).toNat)
        case atStart => exact ⟨0, by omega, rfl, by simp, bR wo⟩
        case round =>
          obtain ⟨j, hj, rfl, rfl, hbq⟩ := hrel
          obtain ⟨wi, rfl⟩ : ∃ x, x = wr := ⟨wr, rfl⟩
          have HBQ := Lib.hid hbq
          clear hbq
          by_cases hjt : j < N1
          · have hjb : decide ((j : Int) < (N1 : Int)) = true := by simp; omega
            have hiN : (i : Int) < (N2 : Int) := by omega
            have hjN : (j : Int) < (N1 : Int) := by omega
            have hi0 : decide ((i : Int) < 0) = false := by simp
            have hj0 : decide ((j : Int) < 0) = false := by simp
            obtain ⟨g1, o1, za, B1, d1, hA1, hz1, hc1, hr1, hl1⟩ := ((HR1'.out.below HBW.out).below HBQ.out).at2 hjt
            obtain ⟨g2, o2, zb', B2, d2, hA2', hz2, hc2, hr2, hl2⟩ := ((HR2.out.below HBW.out).below HBQ.out).at2 hlt
            obtain rfl : zb' = zb := Option.some.inj (hz2.symm.trans HZb.out)
            have HTk1 := Lib.hid (show decide (zb' ∈ R1.take (j + 1)) = (decide (zb' ∈ R1.take j) || decide (za = zb')) from by
              rw [List.take_add_one, hz1]
              simp [List.mem_append, eq_comm])
            by_cases hmem : zb' ∈ R1.take j
            · have hmb : decide (zb' ∈ R1.take j) = true := by simpa using hmem
              rw [hmb] at HTk1
              have HT2 := Lib.hid (HTk1.out.trans (Bool.true_or _))
              simp only [hmb]
              clear hmem hmb hz1 hz2 hr1 hr2 hl1 hl2 hc1 hc2 hA1 hA2'
              go_upto_region 15 with fail
              go_quiet (fail)
              obtain ⟨WE, hWE⟩ : ∃ X, X = wi.drewN nq := ⟨_, rfl⟩
              rw [← hWE]
              have HBE2 := Lib.hid (show Below wi.heap.size wi WE from hWE ▸ bN (bR wi))
              clear hWE
              go_wp2_with fail
              go_roundw
              case rel => exact ⟨j + 1, by omega, by go_num, by rw [HT2.out], bT HBQ.out HBE2.out⟩
              case measure => simp [intOf]; omega
            · have hmb : decide (zb' ∈ R1.take j) = false := by simpa using hmem
              rw [hmb] at HTk1
              have HT2 := Lib.hid (HTk1.out.trans (Bool.false_or _))
              simp only [hmb]
              subst hA1
              subst hA2'
              obtain ⟨m1, hm1⟩ : ∃ q, q = za.length := ⟨_, rfl⟩
              obtain ⟨m2, hm2⟩ : ∃ q, q = zb'.length := ⟨_, rfl⟩
              rw [← hm1] at hc1
              rw [← hm2] at hc2
              have HC := Lib.hid (fun (wx : World) (hb : Below wi.heap.size wi wx) => And.intro ((hb.cell (cell_lt hc1)).trans hc1) ((hb.cell (cell_lt hc2)).trans hc2))
              have HRw := Lib.hid (fun (wx : World) (hb : Below wi.heap.size wi wx) => And.intro (hr1.below hb) (hr2.below hb))
              have HM12 := Lib.hid (show (m1 = za.length ∧ m2 = zb'.length) ∧ (za.length ≤ 1000000 ∧ za.length ≤ d1) ∧ (zb'.length ≤ 1000000 ∧ zb'.length ≤ d2) from ⟨⟨hm1, hm2⟩, hl1, hl2⟩)
              clear hmem hmb hz1 hz2 hr1 hr2 hl1 hl2 hc1 hc2 hm1 hm2
              go_upto_region 15 with fail
              have rr : ∀ (wx : World), Below wx.heap.size wx wx := fun wx => bR wx
              refine wp_region_detf (by kernel_rfl) (fun f => (⟨#[Value.slice A n c, .int .i64 whr, .int .i64 hart, undef, undef, undef, u6, Value.bool true, Value.slice A2 n4 c2, .int .i64 (k : Int), Value.slice A9 n5 c9, Value.slice (some ⟨g1, o1, none⟩) N1 c5, Value.slice (some ⟨g2, o2, none⟩) N2 c6, .int .i64 (i : Int), f 14, .int .i64 (j : Int), Value.bool true, Value.slice A n c, Value.slice A2 m c2, Value.slice A2 m c2, Value.slice A2 m c2, .int .i64 (m : Int), .int .i64 (n4 : Int), Value.slice A2 n4 c2, .int .i64 whr, Value.slice A2 n4 c2, .int .i64 (n4 : Int), .int .i64 ((n4 : Int) + 1), .int .i64 (k : Int), fo 0, fo 1, fo 2, fo 3, fo 4, fo 5, fo 6, fo 7, fo 8, fo 9, fo 10, fo 11, Value.slice A9 n5 c9, Value.slice A2 n4 c2, Value.slice (some ⟨g1, o1, none⟩) N1 c5, Value.slice A9 n5 c9, Value.slice (some ⟨g2, o2, none⟩) N2 c6, .int .i64 (i : Int), Value.slice (some ⟨g2, o2, none⟩) N2 c6, .int .i64 (N2 : Int), Value.bool true, u50, u51, .int .i64 (j : Int), Value.slice (some ⟨g1, o1, none⟩) N1 c5, .int .i64 (N1 : Int), Value.bool true, u56, u57, f 0, f 1, f 2, f 3, f 4, f 5, f 6, f 7, f 8, f 9, f 10, f 11, f 12, f 13, u72, u73, undef, undef, undef, undef, undef, undef, undef, undef, undef, undef, undef, undef, undef], []⟩ : Act)) (fun (iv : Nat) (lv : Nat → Bool) (fv : Nat → Value) (wx : World) => match iv with | 0 => fv 0 = .bool false | 1 => fv 1 = .bool false | 2 => fv 2 = .slice (some ⟨g1, o1, none⟩) N1 c5 | 3 => fv 3 = .int .i64 j | 4 => fv 4 = .pointer (some ⟨g1, o1 + j, none⟩) | 5 => fv 5 = .slice B1 m1 d1 | 6 => ∃ b, (fv 6) = .slice (some ⟨b, 0, none⟩) 1 1 ∧ wx.heap[b]? = some (.cells #[.slice B1 m1 d1] 32) | 7 => fv 7 = .slice (some ⟨g2, o2, none⟩) N2 c6 | 8 => fv 8 = .int .i64 i | 9 => fv 9 = .pointer (some ⟨g2, o2 + i, none⟩) | 10 => fv 10 = .slice B2 m2 d2 | 11 => ∃ b, (fv 11) = .slice (some ⟨b, 0, none⟩) 1 1 ∧ wx.heap[b]? = some (.cells #[.slice B2 m2 d2] 32) | 12 => fv 12 = .bool (decide (za = zb')) | 13 => fv 13 = .bool (decide (za = zb')) | 14 => fv 14 = .bool (decide (za = zb')) | _ => True) (fun (lv : Nat → Bool) (fv : Nat → Value) (wx : World) => (lv 14 = false → fv 14 = .bool false) ∧ Below wi.heap.size wi wx) (fun _ w1 w2 => Below w1.heap.size w1 w2) (by kernel_rfl) (fun k => match k with | 0 => u58 | 1 => u59 | 2 => u60 | 3 => u61 | 4 => u62 | 5 => u63 | 6 => u64 | 7 => u65 | 8 => u66 | 9 => u67 | 10 => u68 | 11 => u69 | 12 => u70 | 13 => u71 | 14 => Value.bool false | _ => undef) rfl ?keep ⟨fun _ => rfl, bD (bR wi)⟩ ?steps ?fin
              case keep =>
                intro iv j hij hd l f f' w1 w2 hf hR
                match j with
                | 0 => exact fun h => (hf 0 (Ne.symm hij)).trans h
                | 1 => exact fun h => (hf 1 (Ne.symm hij)).trans h
                | 2 => exact fun h => (hf 2 (Ne.symm hij)).trans h
                | 3 => exact fun h => (hf 3 (Ne.symm hij)).trans h
                | 4 => exact fun h => (hf 4 (Ne.symm hij)).trans h
                | 5 => exact fun h => (hf 5 (Ne.symm hij)).trans h
                | 6 =>
                  intro h
                  have h : ∃ b, (f 6) = .slice (some ⟨b, 0, none⟩) 1 1 ∧ w1.heap[b]? = some (.cells #[.slice B1 m1 d1] 32) := h
                  show ∃ b, (f' 6) = .slice (some ⟨b, 0, none⟩) 1 1 ∧ w2.heap[b]? = some (.cells #[.slice B1 m1 d1] 32)
                  rw [hf 6 (Ne.symm hij)]
                  exact h.imp fun b h => ⟨h.1, blk_below hR h.2⟩
                | 7 => exact fun h => (hf 7 (Ne.symm hij)).trans h
                | 8 => exact fun h => (hf 8 (Ne.symm hij)).trans h
                | 9 => exact fun h => (hf 9 (Ne.symm hij)).trans h
                | 10 => exact fun h => (hf 10 (Ne.symm hij)).trans h
                | 11 =>
                  intro h
                  have h : ∃ b, (f 11) = .slice (some ⟨b, 0, none⟩) 1 1 ∧ w1.heap[b]? = some (.cells #[.slice B2 m2 d2] 32) := h
                  show ∃ b, (f' 11) = .slice (some ⟨b, 0, none⟩) 1 1 ∧ w2.heap[b]? = some (.cells #[.slice B2 m2 d2] 32)
                  rw [hf 11 (Ne.symm hij)]
                  exact h.imp fun b h => ⟨h.1, blk_below hR h.2⟩
                | 12 => exact fun h => (hf 12 (Ne.symm hij)).trans h
                | 13 => exact fun h => (hf 13 (Ne.symm hij)).trans h
                | 14 => exact fun h => (hf 14 (Ne.symm hij)).trans h
                | _ + 15 => exact id
              case steps =>
                refine fun iv hiv => stepsOff_at (k := 0) (n := 15) ?_ iv (Nat.zero_le _) (by rw [Nat.zero_add]; exact hiv)
                refine stepsOff_cons (k := 0) (n := 14) ?_ ?_
                · refine stepOff_run (at0) [] (by kernel_rfl) (fun _ _ => rfl) (fun f wq l hl hun hdn hS hd K' hK => ?_)
                  clear hd
                  have HK := Lib.hid hK
                  clear hK
                  have e14 := hS.1 (hun 14 (of_decide_eq_true (by kernel_rfl)))
                  have HSS := Lib.hid hS
                  clear hS
                  simp only [e14]
                  go_simp
                  exact HK.out _ _ _ (by simp only [e14]; rfl) rfl ⟨fun h => HSS.out.1 (Bool.or_eq_false_iff.1 h).2, HSS.out.2⟩ (rr _)
                refine stepsOff_cons (k := 1) (n := 13) ?_ ?_
                · refine stepOff_run (atS (at0)) [0] (by kernel_rfl) (fun _ _ => rfl) (fun f wq l hl hun hdn hS hd K' hK => ?_)
                  obtain ⟨e0, -⟩ := hd
                  have e0 : f 0 = .bool false := e0
                  have HK := Lib.hid hK
                  clear hK
                  have HSS := Lib.hid hS
                  clear hS
                  simp only [e0]
                  go_simp
                  exact HK.out _ _ _ (by simp only [e0]; rfl) rfl ⟨fun h => HSS.out.1 (Bool.or_eq_false_iff.1 h).2, HSS.out.2⟩ (rr _)
                refine stepsOff_cons (k := 2) (n := 12) ?_ ?_
                · refine stepOff_run (atS (atS (at0))) [1] (by kernel_rfl) (fun _ _ => rfl) (fun f wq l hl hun hdn hS hd K' hK => ?_)
                  obtain ⟨e1, -⟩ := hd
                  have e1 : f 1 = .bool false := e1
                  have HK := Lib.hid hK
                  clear hK
                  have HSS := Lib.hid hS
                  clear hS
                  simp only [e1]
                  go_simp
                  exact HK.out _ _ _ (by simp only [e1]; rfl) rfl ⟨fun h => HSS.out.1 (Bool.or_eq_false_iff.1 h).2, HSS.out.2⟩ (rr _)
                refine stepsOff_cons (k := 3) (n := 11) ?_ ?_
                · refine stepOff_run (atS (atS (atS (at0)))) [1] (by kernel_rfl) (fun _ _ => rfl) (fun f wq l hl hun hdn hS hd K' hK => ?_)
                  obtain ⟨e1, -⟩ := hd
                  have e1 : f 1 = .bool false := e1
                  have HK := Lib.hid hK
                  clear hK
                  have HSS := Lib.hid hS
                  clear hS
                  simp only [e1]
                  go_simp
                  exact HK.out _ _ _ (by simp only [e1]; rfl) rfl ⟨fun h => HSS.out.1 (Bool.or_eq_false_iff.1 h).2, HSS.out.2⟩ (rr _)
                refine stepsOff_cons (k := 4) (n := 10) ?_ ?_
                · refine stepOff_run (atS (atS (atS (atS (at0))))) [1, 2, 3] (by kernel_rfl) (fun _ _ => rfl) (fun f wq l hl hun hdn hS hd K' hK => ?_)
                  obtain ⟨e1, e2, e3, -⟩ := hd
                  have e1 : f 1 = .bool false := e1
                  have e2 : f 2 = .slice (some ⟨g1, o1, none⟩) N1 c5 := e2
                  have e3 : f 3 = .int .i64 j := e3
                  have HK := Lib.hid hK
                  clear hK
                  have HSS := Lib.hid hS
                  clear hS
                  simp only [e1, e2, e3]
                  go_simp
                  exact HK.out _ _ _ (by simp only [e1, e2, e3]; rfl) rfl ⟨fun h => HSS.out.1 (Bool.or_eq_false_iff.1 h).2, HSS.out.2⟩ (rr _)
                refine stepsOff_cons (k := 5) (n := 9) ?_ ?_
                · refine stepOff_run (atS (atS (atS (atS (atS (at0)))))) [1, 4] (by kernel_rfl) (fun _ _ => rfl) (fun f wq l hl hun hdn hS hd K' hK => ?_)
                  obtain ⟨e1, e4, -⟩ := hd
                  have e1 : f 1 = .bool false := e1
                  have e4 : f 4 = .pointer (some ⟨g1, o1 + j, none⟩) := e4
                  have HK := Lib.hid hK
                  clear hK
                  have hc := (HC.out wq hS.2).1
                  have HSS := Lib.hid hS
                  clear hS
                  simp only [e1, e4]
                  go_simp
                  exact HK.out _ _ _ (by simp only [e1, e4]; rfl) rfl ⟨fun h => HSS.out.1 (Bool.or_eq_false_iff.1 h).2, HSS.out.2⟩ (rr _)
                refine stepsOff_cons (k := 6) (n := 8) ?_ ?_
                · refine stepOff_run (atS (atS (atS (atS (atS (atS (at0))))))) [1, 5] (by kernel_rfl) (fun _ _ => rfl) (fun f wq l hl hun hdn hS hd K' hK => ?_)
                  obtain ⟨e1, e5, -⟩ := hd
                  have e1 : f 1 = .bool false := e1
                  have e5 : f 5 = .slice B1 m1 d1 := e5
                  have HK := Lib.hid hK
                  clear hK
                  have HSS := Lib.hid hS
                  clear hS
                  simp only [e1, e5]
                  go_simp
                  exact HK.out _ _ _ (by simp only [e1, e5]; rfl) ⟨_, rfl, heap_alloc_new wq _⟩ ⟨fun h => HSS.out.1 (Bool.or_eq_false_iff.1 h).2, bA HSS.out.2⟩ (bA (bR wq))
                refine stepsOff_cons (k := 7) (n := 7) ?_ ?_
                · refine stepOff_run (atS (atS (atS (atS (atS (atS (atS (at0)))))))) [1] (by kernel_rfl) (fun _ _ => rfl) (fun f wq l hl hun hdn hS hd K' hK => ?_)
                  obtain ⟨e1, -⟩ := hd
                  have e1 : f 1 = .bool false := e1
                  have HK := Lib.hid hK
                  clear hK
                  have HSS := Lib.hid hS
                  clear hS
                  simp only [e1]
                  go_simp
                  exact HK.out _ _ _ (by simp only [e1]; rfl) rfl ⟨fun h => HSS.out.1 (Bool.or_eq_false_iff.1 h).2, HSS.out.2⟩ (rr _)
                refine stepsOff_cons (k := 8) (n := 6) ?_ ?_
                · refine stepOff_run (atS (atS (atS (atS (atS (atS (atS (atS (at0))))))))) [1] (by kernel_rfl) (fun _ _ => rfl) (fun f wq l hl hun hdn hS hd K' hK => ?_)
                  obtain ⟨e1, -⟩ := hd
                  have e1 : f 1 = .bool false := e1
                  have HK := Lib.hid hK
                  clear hK
                  have HSS := Lib.hid hS
                  clear hS
                  simp only [e1]
                  go_simp
                  exact HK.out _ _ _ (by simp only [e1]; rfl) rfl ⟨fun h => HSS.out.1 (Bool.or_eq_false_iff.1 h).2, HSS.out.2⟩ (rr _)
                refine stepsOff_cons (k := 9) (n := 5) ?_ ?_
                · refine stepOff_run (atS (atS (atS (atS (atS (atS (atS (atS (atS (at0)))))))))) [1, 7, 8] (by kernel_rfl) (fun _ _ => rfl) (fun f wq l hl hun hdn hS hd K' hK => ?_)
                  obtain ⟨e1, e7, e8, -⟩ := hd
                  have e1 : f 1 = .bool false := e1
                  have e7 : f 7 = .slice (some ⟨g2, o2, none⟩) N2 c6 := e7
                  have e8 : f 8 = .int .i64 i := e8
                  have HK := Lib.hid hK
                  clear hK
                  have HSS := Lib.hid hS
                  clear hS
                  simp only [e1, e7, e8]
                  go_simp
                  exact HK.out _ _ _ (by simp only [e1, e7, e8]; rfl) rfl ⟨fun h => HSS.out.1 (Bool.or_eq_false_iff.1 h).2, HSS.out.2⟩ (rr _)
                refine stepsOff_cons (k := 10) (n := 4) ?_ ?_
                · refine stepOff_run (atS (atS (atS (atS (atS (atS (atS (atS (atS (atS (at0))))))))))) [1, 9] (by kernel_rfl) (fun _ _ => rfl) (fun f wq l hl hun hdn hS hd K' hK => ?_)
                  obtain ⟨e1, e9, -⟩ := hd
                  have e1 : f 1 = .bool false := e1
                  have e9 : f 9 = .pointer (some ⟨g2, o2 + i, none⟩) := e9
                  have HK := Lib.hid hK
                  clear hK
                  have hc := (HC.out wq hS.2).2
                  have HSS := Lib.hid hS
                  clear hS
                  simp only [e1, e9]
                  go_simp
                  exact HK.out _ _ _ (by simp only [e1, e9]; rfl) rfl ⟨fun h => HSS.out.1 (Bool.or_eq_false_iff.1 h).2, HSS.out.2⟩ (rr _)
                refine stepsOff_cons (k := 11) (n := 3) ?_ ?_
                · refine stepOff_run (atS (atS (atS (atS (atS (atS (atS (atS (atS (atS (atS (at0)))))))))))) [1, 10] (by kernel_rfl) (fun _ _ => rfl) (fun f wq l hl hun hdn hS hd K' hK => ?_)
                  obtain ⟨e1, e10, -⟩ := hd
                  have e1 : f 1 = .bool false := e1
                  have e10 : f 10 = .slice B2 m2 d2 := e10
                  have HK := Lib.hid hK
                  clear hK
                  have HSS := Lib.hid hS
                  clear hS
                  simp only [e1, e10]
                  go_simp
                  exact HK.out _ _ _ (by simp only [e1, e10]; rfl) ⟨_, rfl, heap_alloc_new wq _⟩ ⟨fun h => HSS.out.1 (Bool.or_eq_false_iff.1 h).2, bA HSS.out.2⟩ (bA (bR wq))
                refine stepsOff_cons (k := 12) (n := 2) ?_ ?_
                · refine stepOff_run (atS (atS (atS (atS (atS (atS (atS (atS (atS (atS (atS (atS (at0))))))))))))) [1, 6, 11] (by kernel_rfl) (fun _ _ => rfl) (fun f wq l hl hun hdn hS hd K' hK => ?_)
                  obtain ⟨e1, e6, e11, -⟩ := hd
                  have e1 : f 1 = .bool false := e1
                  have e6 : ∃ b, (f 6) = .slice (some ⟨b, 0, none⟩) 1 1 ∧ wq.heap[b]? = some (.cells #[.slice B1 m1 d1] 32) := e6
                  have e11 : ∃ b, (f 11) = .slice (some ⟨b, 0, none⟩) 1 1 ∧ wq.heap[b]? = some (.cells #[.slice B2 m2 d2] 32) := e11
                  have HK := Lib.hid hK
                  clear hK
                  obtain ⟨b6, hv6, hg6⟩ := e6
                  obtain ⟨b11, hv11, hg11⟩ := e11
                  obtain ⟨hr1, hr2⟩ := HRw.out wq hS.2
                  obtain ⟨⟨hm1, hm2⟩, ⟨hl1, hl1b⟩, hl2, hl2b⟩ := HM12.out
                  have HCz := Lib.hid (same16_any (some ⟨b6, 0, none⟩) (some ⟨b11, 0, none⟩) 1 1 1 1 [za] [zb'] wq (rr_one (by rw [← hm1]; exact hg6) hl1b hr1 hl1) (rr_one (by rw [← hm2]; exact hg11) hl2b hr2 hl2) (by omega))
                  have HDz := Lib.hid (show decide ([za] = [zb']) = decide (za = zb') from by simp)
                  rw [HDz.out] at HCz
                  have HV := Lib.hid (And.intro hv6 hv11)
                  clear hg6 hg11 hr1 hr2 hm1 hm2 hl1 hl1b hl2 hl2b hv6 hv11
                  have HSS := Lib.hid hS
                  clear hS
                  simp only [e1, HV.out.1, HV.out.2]
                  go_simp
                  go_wp2_with fail
                  refine HCz.out.mono ?_
                  rintro e w9 ⟨rfl, hb9⟩
                  exact HK.out _ _ _ (by simp only [e1, HV.out.1, HV.out.2]; rfl) rfl ⟨fun h => HSS.out.1 (Bool.or_eq_false_iff.1 h).2, bT HSS.out.2 hb9⟩ hb9
                refine stepsOff_cons (k := 13) (n := 1) ?_ ?_
                · refine stepOff_run (atS (atS (atS (atS (atS (atS (atS (atS (atS (atS (atS (atS (atS (at0)))))))))))))) [1, 12] (by kernel_rfl) (fun _ _ => rfl) (fun f wq l hl hun hdn hS hd K' hK => ?_)
                  obtain ⟨e1, e12, -⟩ := hd
                  have e1 : f 1 = .bool false := e1
                  have e12 : f 12 = .bool (decide (za = zb')) := e12
                  have HK := Lib.hid hK
                  clear hK
                  have HSS := Lib.hid hS
                  clear hS
                  simp only [e1, e12]
                  go_simp
                  exact HK.out _ _ _ (by simp only [e1, e12]; rfl) rfl ⟨fun h => HSS.out.1 (Bool.or_eq_false_iff.1 h).2, HSS.out.2⟩ (rr _)
                refine stepsOff_cons (k := 14) (n := 0) ?_ ?_
                · refine stepOff_run (atS (atS (atS (atS (atS (atS (atS (atS (atS (atS (atS (atS (atS (atS (at0))))))))))))))) [0, 1, 2, 3, 4, 5, 6, 7, 8, 9, 10, 11, 12, 13] (by kernel_rfl) (fun _ _ => rfl) (fun f wq l hl hun hdn hS hd K' hK => ?_)
                  obtain ⟨e0, e1, e2, e3, e4, e5, e6, e7, e8, e9, e10, e11, e12, e13, -⟩ := hd
                  have e0 : f 0 = .bool false := e0
                  have e1 : f 1 = .bool false := e1
                  have e2 : f 2 = .slice (some ⟨g1, o1, none⟩) N1 c5 := e2
                  have e3 : f 3 = .int .i64 j := e3
                  have e4 : f 4 = .pointer (some ⟨g1, o1 + j, none⟩) := e4
                  have e5 : f 5 = .slice B1 m1 d1 := e5
                  have e6 : ∃ b, (f 6) = .slice (some ⟨b, 0, none⟩) 1 1 ∧ wq.heap[b]? = some (.cells #[.slice B1 m1 d1] 32) := e6
                  have e7 : f 7 = .slice (some ⟨g2, o2, none⟩) N2 c6 := e7
                  have e8 : f 8 = .int .i64 i := e8
                  have e9 : f 9 = .pointer (some ⟨g2, o2 + i, none⟩) := e9
                  have e10 : f 10 = .slice B2 m2 d2 := e10
                  have e11 : ∃ b, (f 11) = .slice (some ⟨b, 0, none⟩) 1 1 ∧ wq.heap[b]? = some (.cells #[.slice B2 m2 d2] 32) := e11
                  have e12 : f 12 = .bool (decide (za = zb')) := e12
                  have e13 : f 13 = .bool (decide (za = zb')) := e13
                  have HK := Lib.hid hK
                  clear hK
                  clear e6 e11
                  have HSS := Lib.hid hS
                  clear hS
                  simp only [e0, e1, e2, e3, e4, e5, e7, e8, e9, e10, e12, e13]
                  go_simp
                  exact HK.out _ _ _ (by simp only [e0, e1, e2, e3, e4, e5, e7, e8, e9, e10, e12, e13]; rfl) rfl ⟨fun h => absurd h (by simp), HSS.out.2⟩ (rr _)
                exact trivial
              case fin =>
                intro fo2 wz lo2 hl hall hS
                have a0 : fo2 0 = .bool false := hall 0 (by decide)
                have a1 : fo2 1 = .bool false := hall 1 (by decide)
                have a2 : fo2 2 = .slice (some ⟨g1, o1, none⟩) N1 c5 := hall 2 (by decide)
                have a3 : fo2 3 = .int .i64 j := hall 3 (by decide)
                have a4 : fo2 4 = .pointer (some ⟨g1, o1 + j, none⟩) := hall 4 (by decide)
                have a5 : fo2 5 = .slice B1 m1 d1 := hall 5 (by decide)
                have a6 : ∃ b, (fo2 6) = .slice (some ⟨b, 0, none⟩) 1 1 ∧ wz.heap[b]? = some (.cells #[.slice B1 m1 d1] 32) := hall 6 (by decide)
                have a7 : fo2 7 = .slice (some ⟨g2, o2, none⟩) N2 c6 := hall 7 (by decide)
                have a8 : fo2 8 = .int .i64 i := hall 8 (by decide)
                have a9 : fo2 9 = .pointer (some ⟨g2, o2 + i, none⟩) := hall 9 (by decide)
                have a10 : fo2 10 = .slice B2 m2 d2 := hall 10 (by decide)
                have a11 : ∃ b, (fo2 11) = .slice (some ⟨b, 0, none⟩) 1 1 ∧ wz.heap[b]? = some (.cells #[.slice B2 m2 d2] 32) := hall 11 (by decide)
                have a12 : fo2 12 = .bool (decide (za = zb')) := hall 12 (by decide)
                have a13 : fo2 13 = .bool (decide (za = zb')) := hall 13 (by decide)
                have a14 : fo2 14 = .bool (decide (za = zb')) := hall 14 (by decide)
                clear hall
                simp only [a14]
                clear a0 a1 a2 a3 a4 a5 a6 a7 a8 a9 a10 a11 a12 a13 a14 rr hl
                have hS := hS.2
                obtain ⟨WE, rfl⟩ : ∃ x, x = wz := ⟨wz, rfl⟩
                have HBE2 := Lib.hid hS
                clear hS
                go_wp2_with fail
                go_roundw
                case rel => exact ⟨j + 1, by omega, by go_num, by rw [HT2.out], bT HBQ.out HBE2.out⟩
                case measure => simp [intOf]; omega
          · have hjb : decide ((j : Int) < (N1 : Int)) = false := by simp; omega
            have hfin : decide (zb ∈ R1.take j) = true := by
              rw [show j = N1 by omega, List.take_of_length_le (by have := HL1.out; omega)]
              simpa using HZin.out
            simp only [hfin]
            go_wp2_with fail
            go_roundw
            case rel => exact ⟨i + 1, by omega, by go_num, bT HBW.out HBQ.out⟩
            case measure => simp [intOf]; omega
      · have hlb : decide ((i : Int) < (N2 : Int)) = false := by simp; omega
        have hp0 : decide ((0 : Int) < (N2 : Int)) = true := by simp; omega
        have hp1 : decide ((N2 : Int) ≤ (N1 : Int)) = true := by simp; omega
        go_wp2_with fail
        go_ret
        exact ⟨rfl, bT HB6.out HBW.out⟩
end Go.Proofs.YtnigadeohmlpiaaGreatDoor

namespace Go.Proofs.YtnigadeohmlpiaaGreatDoor.litmusFewer
open Go.ChangeShapes Go.WideShapes Go.ChangeAt Go.RowKit

set_option maxRecDepth 100000 in
theorem contract (H : Type) (enc : TypeId × Value → H) (W : World) (base : Nat) (args : Array Value) (ds gs : List (DataW H)) (before : List MemPlace)
    (hval : ∀ (j : Nat) t v, Tryz.f8.params[j]? = some t → args[j]? = some v → Value.okWide Tryz.prog W .any base t v)
    (hW : DataW.Whole enc Tryz.prog Tryz.f8.params.toList Rows.litmusFewerSpec.vars false W args.toList ds gs before) (hL : laidMetH Tryz.prog Rows.litmusTellsRow.laid W) (_hS : W.ShapedOpen Tryz.prog) :
    Calls Tryz.prog 8 args W fun e W' => ∃ v, e = .returned v ∧ Rows.litmusFewerSpec.post enc Tryz.prog Tryz.f8 false true false false W args v W' := by
  have hW' := hW
  have hlt : ∀ p ∈ before, p.block < W.heap.size := fun p hp => hW.lt p hp
  obtain ⟨p, q, hA0, hV, rfl, hfz, hnd⟩ := hW
  have hA : DataW.TrodAll enc Tryz.prog W 0 (fun _ => true) true Tryz.f8.params.toList args.toList ds p := hA0

  rw [Tryz.params8] at hA hval
  obtain ⟨v0, vs0, d0, ds0, p0, q0, hargs, rfl, rfl, h0, r0⟩ := trodAll_cons hA
  obtain ⟨v1, vs1, d1, ds1, p1, q1, rfl, rfl, rfl, h1, r1⟩ := trodAll_cons r0
  obtain ⟨v2, vs2, d2, ds2, p2, q2, rfl, rfl, rfl, h2, r2⟩ := trodAll_cons r1
  obtain ⟨rfl, rfl, rfl⟩ := trodAll_nil r2
  obtain rfl : args = #[v0, v1, v2] := by cases args; simp_all
  obtain ⟨rfl, rfl⟩ := trodVars_none hV
  obtain ⟨A0, n0, c0, L0, rfl, hi0, hn0⟩ := raw_in (hval 0 23 v0 rfl rfl) h0
  obtain ⟨x1, rfl, rfl, rfl, wx1⟩ := open_int Tryz.underlying3 (hval 1 3 v1 rfl rfl) h1
  have b1 := bounds_i64 wx1
  obtain ⟨x2, rfl, rfl, rfl, wx2⟩ := open_int Tryz.underlying3 (hval 2 3 v2 rfl rfl) h2
  have b2 := bounds_i64 wx2
  clear hA0
  refine (fewer8_any A0 n0 c0 L0 x1 x2 W hi0 hn0 b1.1 b1.2 b2.1 b2.2 (glob_laid hL)).mono fun e W' ⟨he, hb⟩ => ?_
  subst he
  exact ⟨_, rfl, post_of_below (pv := []) hW' (fun _ _ _ => trodAll_cons_mk (shut_bool Tryz.underlying4 _) trodAll_mk0) (fun sp hsp => trodAll_cons_mk (keeps_in (by kernel_rfl) (of_decide_eq_true (by kernel_rfl)) h0 hb (fun x hx => hlt x (by simp [hx])) sp (fun x hx => hsp x (by simp [hx]))) (trodAll_cons_mk (shut_int Tryz.underlying3 wx1) (trodAll_cons_mk (shut_int Tryz.underlying3 wx2) trodAll_mk0))) (fun _ _ => rfl) rfl hb (ok_one (by kernel_rfl) rfl (okWide_bool_mk Tryz.underlying4 _))⟩

theorem reads (os : Os) {H : Type} (enc : TypeId × Value → H) : ∃ places, DataW.whole enc Tryz.prog ((laidWorld os).forCall (fun _ _ => 0) ⟨#[], #[.slice none 0 0, .int .i64 0, .int .i64 0], []⟩).memory Tryz.f8.params.toList Rows.litmusFewerSpec.vars false (#[.slice none 0 0, .int .i64 0, .int .i64 0] : Array Value).toList 8 = some ([.nil, .lit (.int .i64 0), .lit (.int .i64 0)], [], places) :=
  ⟨[], by kernel_rfl⟩

set_option maxRecDepth 100000 in
theorem lifted (os : Os) (started : os.Started) (H : Type) (enc : TypeId × Value → H) (F : Stop.Interp) :
    ReturnsInHanded {} Tryz.checked os 8 .any ((OpenSpec.ofChange Rows.litmusFewerSpec).preRow enc Tryz.prog Tryz.f8 Rows.litmusFewerRow.domain false Rows.litmusFewerRow.laid) (((OpenSpec.ofChange Rows.litmusFewerSpec).at F).post enc Tryz.prog Tryz.f8 false true false false) := by
  obtain ⟨places, hx⟩ := reads os enc
  refine returnsInHanded_of_row (C := Tryz.checked) (s := OpenSpec.ofChange Rows.litmusFewerSpec) own started (by kernel_rfl) Tryz.func8
    (witness_row_atRef (enc := enc) (C := Tryz.checked) false (laidWorld os) #[.slice none 0 0, .int .i64 0, .int .i64 0] rfl (by kernel_rfl) (by kernel_rfl) (by kernel_rfl)
      (OpenSpec.preRow_of_cond 8 hx (by kernel_rfl) (fun k hk => by cases hk) (by kernel_rfl) (laid_met os _))) ?_
  intro W base args ds gs before hval hW _ _ _ hL hS _
  exact contract H enc W base args ds gs before hval hW hL hS

theorem said : Rows.LitmusFewerSaid :=
  OpenClaim.holds_of_cond 8 Tryz.f8 rfl rfl rfl rfl rfl rfl rfl ⟨rfl, rfl, rfl, rfl, rfl⟩ rfl rfl rfl rfl rfl (by kernel_rfl) Tryz.func8 (by kernel_rfl)
    (of_decide_eq_true (by kernel_rfl)) (by unfold Func.isWrapper; first | (rw [if_pos (by decide +kernel)]; kernel_rfl) | (rw [if_neg (by decide +kernel)]; exact ⟨rfl, rfl⟩))
    (fun os started H enc _ F => by rw [OpenClaim.pre_eq_preRow]; exact lifted os started H enc F)

theorem plain (f : FuncId) (fn : Func) (hf : Tryz.pinned.checked.prog.funcNamed "headstock/headstocklaw13.LitmusFewer" = some f) (hfn : Tryz.pinned.checked.prog.funcs[f]? = some fn) :
    false = Tryz.pinned.checked.prog.looks [] ∧ ∀ (j : Nat) t, fn.params[j]? = some t → Tryz.pinned.checked.prog.wantsStandIn t = false := by
  obtain rfl : f = 8 := Option.some.inj ((show Tryz.prog.funcNamed "headstock/headstocklaw13.LitmusFewer" = some 8 by kernel_rfl).symm.trans hf) |>.symm
  obtain rfl : fn = Tryz.f8 := (Option.some.inj (Tryz.func8.symm.trans hfn)).symm
  refine ⟨by kernel_rfl, fun j t ht => ?_⟩
  have : ∀ t ∈ Tryz.f8.params, Tryz.prog.wantsStandIn t = false := by
    rw [Tryz.params8]
    intro t ht
    simp only [List.mem_toArray, List.mem_cons, List.not_mem_nil, or_false] at ht
    rcases ht with rfl | rfl | rfl
    all_goals kernel_rfl
  exact this t (Array.mem_of_getElem? ht)

/-- the card -/
theorem card : Rows.LitmusFewerCardSaid :=
  Claim7.holds_tied_plain_at .later [] _ _ _ _ said (fun _ h => by cases h) (by kernel_rfl) (fun _ h => by cases h) litmusFewer_row_tie rfl ⟨rfl, rfl⟩ (by kernel_rfl) rfl plain (by kernel_rfl)
end Go.Proofs.YtnigadeohmlpiaaGreatDoor.litmusFewer
