/- The statement LitmusAlone, for every input: no condition of ours. -/
import Derived.Test.YtnigadeohmlpiaaGreatDoorC31
import Derived.Test.YtnigadeohmlpiaaGreatDoorC28
import Derived.Test.YtnigadeohmlpiaaGreatDoorC30
import Derived.OpenShut
import Derived.SizedLaws
namespace Go.Proofs.YtnigadeohmlpiaaGreatDoor
open Go.RowKit
attribute [local go_sem] Oper.semAt_some

/-- an event of another hart -/
def toH (H : Int) (e : Ev) : Ev := ⟨H, e.k, e.a, e.n⟩
/-- the first k events are this hart's -/
def hkL (H : Int) (l : List Ev) (k : Nat) : List Ev := (l.take k).map (toH H) ++ l.drop k
theorem hkL_len (H : Int) (l : List Ev) (k : Nat) : (hkL H l k).length = l.length := by simp [hkL]; omega
theorem hkL_at {H : Int} {l : List Ev} {k : Nat} {e : Ev} (he : l[k]? = some e) : (hkL H l k)[k]? = some e := by
  have hk := (List.getElem?_eq_some_iff.1 he).1
  unfold hkL
  rw [List.getElem?_append_right (by simp; omega), List.getElem?_drop]
  simp
  rw [show k + (k - min k l.length) = k by omega]
  exact he
theorem hkL_succ {H : Int} {l : List Ev} {k : Nat} {e : Ev} (he : l[k]? = some e) : hkL H l (k + 1) = (hkL H l k).modify k (toH H) := by
  have hk := (List.getElem?_eq_some_iff.1 he).1
  apply List.ext_getElem?
  intro i
  rw [List.getElem?_modify]
  unfold hkL
  have h1 : ((l.take k).map (toH H)).length = k := by simp; omega
  have h2 : ((l.take (k + 1)).map (toH H)).length = k + 1 := by simp; omega
  rcases Nat.lt_trichotomy i k with h3 | h3 | h3
  · rw [List.getElem?_append_left (by omega), List.getElem?_append_left (by omega)]
    simp [h3, show i < k + 1 by omega, show ¬k = i by omega]
  · subst h3
    rw [List.getElem?_append_left (by omega), List.getElem?_append_right (by omega), h1]
    simp [he]
  · rw [List.getElem?_append_right (by omega), List.getElem?_append_right (by omega), h1, h2]
    simp [show ¬k = i by omega]
    congr 1
    omega
theorem hkL_all (H : Int) (l : List Ev) : hkL H l l.length = l.map (toH H) := by simp [hkL]
theorem toH_cells (H : Int) (l : List Ev) (i : Nat) (hi : i < l.length) : evCells (l.modify i (toH H)) = (evCells l).set (i * 4) (.int .i64 H) := by
  induction l generalizing i with
  | nil => cases hi
  | cons e l ih =>
    have hc : ∀ (e : Ev) (l : List Ev), evCells (e :: l) = .int .i64 e.h :: .int .i64 e.k :: .int .i64 e.a :: .int .i64 e.n :: evCells l := fun _ _ => rfl
    cases i with
    | zero => rfl
    | succ i =>
      rw [List.modify_succ_cons, hc, hc, ih i (by simpa using hi), show (i + 1) * 4 = i * 4 + 1 + 1 + 1 + 1 by omega]
      rfl

/-- what stands at the words when k events have been looked at -/
def atA (l : List Ev) (k : Nat) : Array Value := #[.int .i64 (lastW l 0 k), .int .i64 (lastW l 1 k), .int .i64 (lastW l 2 k), .int .i64 (lastW l 3 k)]
theorem atA_at {w : World} {b k aN : Nat} {l : List Ev} (ha : aN < 4) (h : w.heap[b]? = some (.cells (atA l k) 50)) : w.cell? ⟨b, aN, none⟩ = some (.int .i64 (lastW l aN k)) := by
  rw [cell_of_row w b _ _ _ _ h]
  match aN, ha with
  | 0, _ | 1, _ | 2, _ | 3, _ => rfl
theorem atA_store {l : List Ev} {k aN : Nat} {e : Ev} (he : l[k]? = some e) (h2 : e.k = 2) (ha : e.a = aN) (h4 : aN < 4) : (atA l k).setIfInBounds aN (.int .i64 e.n) = atA l (k + 1) := by
  unfold atA
  have hl : ∀ a : Int, lastW l a (k + 1) = if e.k = 2 ∧ e.a = a then e.n else lastW l a k := fun a => by rw [lastW, he]
  rw [hl, hl, hl, hl, ha]
  match aN, h4 with
  | 0, _ => simp [h2]
  | 1, _ => simp [h2]
  | 2, _ => simp [h2]
  | 3, _ => simp [h2]
theorem atA_same {l : List Ev} {k : Nat} {e : Ev} (he : l[k]? = some e) (h2 : e.k ≠ 2) : atA l (k + 1) = atA l k := by
  have hl : ∀ a : Int, lastW l a (k + 1) = lastW l a k := fun a => by rw [lastW, he]; simp [h2]
  unfold atA
  rw [hl, hl, hl, hl]
/-- what the loads among the first k events tell -/
def wantK (l : List Ev) (k : Nat) : List Int := (List.range k).filterMap fun i => match l[i]? with
  | some e => if e.k = 1 then some (lastW l e.a i) else none
  | none => none
theorem wantK_succ {l : List Ev} {k : Nat} {e : Ev} (he : l[k]? = some e) : wantK l (k + 1) = if e.k = 1 then wantK l k ++ [lastW l e.a k] else wantK l k := by
  unfold wantK
  rw [List.range_succ, List.filterMap_append, List.filterMap_cons, he]
  by_cases h : e.k = 1 <;> simp [h]
theorem wantK_len (l : List Ev) (k : Nat) : (wantK l k).length ≤ k := by
  unfold wantK
  refine Nat.le_trans (List.length_filterMap_le _ _) ?_
  simp
theorem lastW_toH (H : Int) (l : List Ev) (a : Int) : ∀ k, lastW (l.map (toH H)) a k = lastW l a k
  | 0 => rfl
  | k + 1 => by
    rw [lastW, lastW, List.getElem?_map, lastW_toH H l a k]
    cases l[k]? <;> rfl
theorem wantL_toH (H : Int) (l : List Ev) : wantL (l.map (toH H)) = wantK l l.length := by
  unfold wantL wantK
  rw [List.length_map]
  congr 1
  funext i
  rw [List.getElem?_map]
  cases l[i]? with
  | none => rfl
  | some e =>
    show (if e.k = 1 then some (lastW (l.map (toH H)) e.a i) else none) = _
    rw [lastW_toH]
theorem toH_prog {H : Int} {l : List Ev} (hH : 0 ≤ H ∧ H < 4) (hl : Prog l) : Prog (l.map (toH H)) := by
  refine ⟨by rw [List.length_map]; exact hl.few, fun e he => ?_, fun e he hk => ?_⟩
  · obtain ⟨x, hx, rfl⟩ := List.mem_map.1 he
    have h := hl.ok x hx
    exact ⟨hH, h.k, h.a, h.n, h.f⟩
  · obtain ⟨x, hx, rfl⟩ := List.mem_map.1 he
    exact hl.odd x hx hk
theorem rr_one {w : World} {b d : Nat} {B : Option Addr} {zs : List Int} (h : w.heap[b]? = some (.cells #[.slice B zs.length d] 32)) (hd : zs.length ≤ d) (hr : Row w 3 1 B zs.length (ints zs)) (hz : zs.length ≤ 1000000) : RR w (some ⟨b, 0, none⟩) 1 [zs] := by
  refine ⟨rfl, ⟨[.slice B zs.length d], ⟨rfl, fun _ => ⟨b, 0, rfl, blk_lt h, fun j u hu => ?_⟩⟩, rfl, fun k z hk => ?_⟩, fun z hz' => by rw [List.mem_singleton.1 hz']; exact hz⟩
  · rw [cell_of_row w b _ _ _ _ h, Nat.zero_add, ← hu]
    simp
  · cases k with
    | zero =>
      obtain rfl : zs = z := Option.some.inj hk
      exact ⟨B, d, rfl, hd, hr⟩
    | succ k => cases hk
theorem rising_one (x : List Int) : Rising [x] := by simp [Rising]

set_option maxHeartbeats 16000000 in
set_option maxRecDepth 100000 in
theorem alone9_any (A : Option Addr) (n c : Nat) (L : List R4) (hart : Int) (w : World) (h : IsRaw w A n L) (hn : n ≤ 9223372036854775807) (hh1 : -9223372036854775808 ≤ hart) (hh2 : hart ≤ 9223372036854775807) (hG : Glob w) :
    Calls Tryz.prog 9 #[.slice A n c, .int .i64 hart] w fun o w' => o = .returned (.bool true) ∧ Below w.heap.size w w' := by
  obtain ⟨i0, hi, hz0, hz1, hz2⟩ := info_parts int_info
  have HR := Lib.hid h
  have HG := Lib.hid hG
  have HAw := Lib.hid (awake_any w hG)
  have HNn := Lib.hid hn
  have HPk := Lib.hid (fun (wx : World) => pick24_any hart 4 wx (by omega) hh1 hh2)
  obtain ⟨H, hH⟩ : ∃ H, H = pk hart 4 := ⟨_, rfl⟩
  rw [← hH] at HPk
  have HHb := Lib.hid (show 0 ≤ H ∧ H < 4 from by rw [hH]; exact ⟨pk_lo _ _ (by omega), pk_hi _ _ (by omega)⟩)
  clear h hG hH
  go_enter Tryz.func9, Tryz.ntmps9
  go_wp2_with fail
  refine HAw.out.mono ?_
  rintro o w1 ⟨rfl, hb1⟩
  have HB1 := Lib.hid hb1
  have HF := Lib.hid (fit11_any A n c L w1 (HR.out.below hb1) HNn.out)
  have HG1 := Lib.hid (HG.out.below hb1)
  clear hb1
  go_wp2_with fail
  refine HF.out.mono ?_
  rintro o w2 ⟨⟨A2, c2, rfl, hown2, hc2⟩, hb2⟩
  obtain ⟨l, hl⟩ : ∃ l, l = fitL L := ⟨_, rfl⟩
  rw [← hl] at hown2 hc2 ⊢
  have HP := Lib.hid (show Prog l from hl ▸ fitL_prog L)
  obtain ⟨m, hm⟩ : ∃ m, m = l.length := ⟨_, rfl⟩
  rw [← hm] at hown2 hc2 ⊢
  have hm5 : m ≤ 5 := by rw [hm, hl]; exact fitL_len L
  have HM := Lib.hid hm
  have HC2 := Lib.hid hc2
  have HW2 := Lib.hid (bT HB1.out hb2)
  have HG2 := Lib.hid (HG1.out.below hb2)
  have HO2 := Lib.hid (own_low hown2 HB1.out.size)
  obtain ⟨b7, hb7⟩ : ∃ b, b = w2.heap.size := ⟨_, rfl⟩
  obtain ⟨W3, hW3⟩ : ∃ X, X = w2.alloc (.cells #[.int .i64 0, .int .i64 0, .int .i64 0, .int .i64 0] 50) := ⟨_, rfl⟩
  have H73 := Lib.hid (show W3.heap[b7]? = some (.cells (atA l 0) 50) from by rw [hW3, hb7]; exact heap_alloc_new w2 _)
  have k3 : Below w2.heap.size w2 W3 := hW3 ▸ bA (bR w2)
  have HO3 := Lib.hid (own_tk (T := []) HO2.out (Tk.below k3) (by simp))
  have HW3 := Lib.hid (bT HW2.out k3)
  have HG3 := Lib.hid (HG2.out.below k3)
  have HL7 := Lib.hid (show w.heap.size ≤ b7 from hb7 ▸ HW2.out.size)
  clear hl hown2 hc2 hb2 hm k3
  go_wp2_with fail
  rw [← hb7, ← hW3]
  clear hb7 hW3
  go_loopw [8, 9] (fun v vi wr => ∃ k : Nat, k ≤ m ∧ vi = .int .i64 k ∧ wr.ownsRow w.heap.size 44 4 (.slice A2 m c2) m (evCells (hkL H l k)) ∧ wr.heap[b7]? = some (.cells (atA l k) 50) ∧ wr.ownsRow w.heap.size 3 1 v (wantK l k).length (ints (wantK l k)) ∧ Below w.heap.size w wr) (fun _ vi _ => m - (intOf vi).toNat)
  case atStart => exact ⟨0, by omega, rfl, by simpa [hkL] using HO3.out, H73.out, World.ownsRow_nil _ _ _ _, HW3.out⟩
  case round =>
    obtain ⟨k, hk, rfl, hown, h7, hwant, hbw⟩ := hrel
    obtain ⟨wo, rfl⟩ : ∃ x, x = wr := ⟨wr, rfl⟩
    have HO := Lib.hid hown
    have H7 := Lib.hid h7
    have HWt := Lib.hid hwant
    have HBW := Lib.hid hbw
    clear hown h7 hwant hbw
    by_cases hlt : k < m
    · have hlb : decide ((k : Int) < (m : Int)) = true := by simp; omega
      have hkn : (k : Int) < (m : Int) := by omega
      have hk0 : decide ((k : Int) < 0) = false := by simp
      obtain ⟨g, e1, hg0, hg, _⟩ := own_form HO.out (by omega)
      injection hg0 with hA2 _ he1
      subst hA2
      subst he1
      have HGl := Lib.hid hg
      have hkl : k < l.length := by have := HM.out; omega
      obtain ⟨e, he⟩ : ∃ e, l[k]? = some e := ⟨_, List.getElem?_eq_getElem hkl⟩
      have HE := Lib.hid he
      have HEo := Lib.hid (HP.out.ok e (List.mem_of_getElem? he))
      have hfz := HO.out.frozenAt (k * 4)
      obtain ⟨hst, hgs⟩ := HO.out.stored (k * 4) (.int .i64 H)
      have hset : (evCells (hkL H l k)).set (k * 4) (.int .i64 H) = evCells (hkL H l (k + 1)) := by rw [hkL_succ he, toH_cells _ _ _ (by rw [hkL_len]; exact hkl)]
      rw [hset] at hst
      have hkz : (hkL H l (k + 1))[k]? = some (toH H e) := by
        rw [hkL_succ he, List.getElem?_modify, hkL_at he]
        simp
      have g3 := HO.out.cellAt (k * 4) (by omega)
      rw [(ev_at (hkL H l k) k _ (hkL_at he)).1] at g3
      have HSt := Lib.hid hst
      have HKz := Lib.hid hkz
      have HTs := Lib.hid (tk_own_set (i := k * 4) (x := .int .i64 H) HO.out)
      clear hst hgs hset hkz he hg
      go_wp2_with fail
      refine (HPk.out _).mono ?_
      rintro o wp ⟨rfl, rfl⟩
      go_upto_region 9 with fail
      obtain ⟨W8, hW8⟩ : ∃ X, X = wo.setCell ⟨g, k * 4, none⟩ (.int .i64 H) := ⟨_, rfl⟩
      rw [← hW8]
      have HO8 := Lib.hid (hW8 ▸ HSt.out)
      have HT8 := Lib.hid (hW8 ▸ HTs.out)
      have HB8 := Lib.hid (show Below w.heap.size w W8 from hW8 ▸ bS HBW.out HGl.out)
      have H78 := Lib.hid (HT8.out.at_ (by decide) H7.out)
      have HW8 := Lib.hid (own_tk HWt.out HT8.out (by decide))
      obtain ⟨hc0, hc1, hc2, hc3⟩ := ev_at _ k _ HKz.out
      have HC8 := Lib.hid (show W8.cell? ⟨g, k * 4 + 1, none⟩ = some (.int .i64 e.k) ∧ W8.cell? ⟨g, k * 4 + 2, none⟩ = some (.int .i64 e.a) ∧ W8.cell? ⟨g, k * 4 + 3, none⟩ = some (.int .i64 e.n) from
        ⟨(HO8.out.cellAt (k * 4 + 1) (by omega)).trans hc1, (HO8.out.cellAt (k * 4 + 2) (by omega)).trans hc2, (HO8.out.cellAt (k * 4 + 3) (by omega)).trans hc3⟩)
      clear hW8 hc0 hc1 hc2 hc3 g3 hfz HSt HTs HO H7 HWt HBW
      obtain ⟨ek, hek⟩ : ∃ q, q = e.k := ⟨_, rfl⟩
      obtain ⟨aN, haN⟩ : ∃ q : Nat, e.a = q := ⟨e.a.toNat, by have := HEo.out.a; omega⟩
      obtain ⟨en, hen⟩ : ∃ q, q = e.n := ⟨_, rfl⟩
      have ha4 : aN < 4 := by have := HEo.out.a; omega
      rw [← hek, haN, ← hen] at HC8
      have HEe := Lib.hid (show ek = e.k ∧ e.a = (aN : Int) ∧ en = e.n from ⟨hek, haN, hen⟩)
      clear hek haN hen
      obtain ⟨q1, q2, q3⟩ := HC8.out
      have haz : (aN : Int) < 4 := by omega
      by_cases h2 : ek = 2
      · have h2b : (ek == 2) = true := by simpa using h2
        have h1b : (ek == 1) = false := by simp; omega
        have HAt := Lib.hid (show (atA l k).setIfInBounds aN (.int .i64 en) = atA l (k + 1) ∧ wantK l (k + 1) = wantK l k from by
          obtain ⟨e1, e2, e3⟩ := HEe.out
          refine ⟨by rw [e3]; exact atA_store HE.out (by omega) e2 ha4, ?_⟩
          rw [wantK_succ HE.out, if_neg (by omega)])
        clear h2
        go_upto_region 10 with fail
        have hq : ∀ (k : Nat) (l : Nat → Bool) (wx : World), ((l 11 = false → Below W8.heap.size W8 wx)) → (((decide (11 = k) || l 11) = false → Below W8.heap.size W8 wx)) := fun k l wx h => fun g => h (Bool.or_eq_false_iff.1 g).2
        have rr : ∀ {iv : Nat} (wx : World), (iv = 11 ∨ wx = wx) := fun _ => .inr rfl
        refine wp_region_det (by kernel_rfl) (fun f => (⟨#[Value.slice A n c, .int .i64 hart, undef, undef, Value.bool false, Value.bool true, Value.slice (some ⟨g, 0, none⟩) m c2, Value.pointer (some ⟨b7, 0, none⟩), u8, .int .i64 (k : Int), Value.bool true, Value.slice A n c, Value.slice (some ⟨g, 0, none⟩) m c2, .int .i64 (k : Int), Value.slice (some ⟨g, 0, none⟩) m c2, .int .i64 (m : Int), Value.bool true, u17, u18, Value.slice (some ⟨g, 0, none⟩) m c2, .int .i64 (k : Int), .int .i64 hart, .int .i64 H, Value.pointer (some ⟨g, k * 4, none⟩), Value.pointer (some ⟨g, k * 4, none⟩), Value.slice (some ⟨g, 0, none⟩) m c2, .int .i64 (k : Int), Value.pointer (some ⟨g, k * 4, none⟩), Value.pointer (some ⟨g, k * 4 + 1, none⟩), .int .i64 ek, Value.bool true, f 0, f 1, f 2, f 3, f 4, f 5, f 6, f 7, f 8, f 9, f 10, u42, u43, u44, u45, u46, u47, u48, u49, u50, u51, u52, u53, u54, u55, u56, u57, undef, undef, undef, undef, undef, undef, undef, undef, undef, undef, undef, undef, undef, undef, undef], []⟩ : Act)) (fun (iv : Nat) (lv : Nat → Bool) (fv : Nat → Value) (wx : World) => match iv with | 0 => fv 0 = .slice (some ⟨g, 0, none⟩) m c2 | 1 => fv 1 = .int .i64 k | 2 => fv 2 = .pointer (some ⟨g, k * 4, none⟩) | 3 => fv 3 = .pointer (some ⟨g, k * 4 + 2, none⟩) | 4 => fv 4 = .int .i64 aN | 5 => fv 5 = .slice (some ⟨g, 0, none⟩) m c2 | 6 => fv 6 = .int .i64 k | 7 => fv 7 = .pointer (some ⟨g, k * 4, none⟩) | 8 => fv 8 = .pointer (some ⟨g, k * 4 + 3, none⟩) | 9 => fv 9 = .int .i64 en | 10 => fv 10 = .pointer (some ⟨b7, aN, none⟩) | 11 => ∃ w9, Below W8.heap.size W8 w9 ∧ wx = w9.setCell ⟨b7, aN, none⟩ (.int .i64 en) | _ => True) (fun (lv : Nat → Bool) (wx : World) => (lv 11 = false → Below W8.heap.size W8 wx)) (fun (iv : Nat) (w1 : World) (w2 : World) => (iv = 11 ∨ w1 = w2)) (by kernel_rfl) (fun k => match k with | 0 => u31 | 1 => u32 | 2 => u33 | 3 => u34 | 4 => u35 | 5 => u36 | 6 => u37 | 7 => u38 | 8 => u39 | 9 => u40 | 10 => u41 | _ => undef) rfl ?keep (fun _ => bD (bR W8)) ?steps ?fin
        case keep =>
          intro iv j hij hd l f f' w1 w2 hf hR
          match j with
          | 0 => exact fun h => (hf 0 (Ne.symm hij)).trans h
          | 1 => exact fun h => (hf 1 (Ne.symm hij)).trans h
          | 2 => exact fun h => (hf 2 (Ne.symm hij)).trans h
          | 3 => exact fun h => (hf 3 (Ne.symm hij)).trans h
          | 4 => exact fun h => (hf 4 (Ne.symm hij)).trans h
          | 5 => exact fun h => (hf 5 (Ne.symm hij)).trans h
          | 6 => exact fun h => (hf 6 (Ne.symm hij)).trans h
          | 7 => exact fun h => (hf 7 (Ne.symm hij)).trans h
          | 8 => exact fun h => (hf 8 (Ne.symm hij)).trans h
          | 9 => exact fun h => (hf 9 (Ne.symm hij)).trans h
          | 10 => exact fun h => (hf 10 (Ne.symm hij)).trans h
          | 11 =>
            intro h
            have h : ∃ w9, Below W8.heap.size W8 w9 ∧ w1 = w9.setCell ⟨b7, aN, none⟩ (.int .i64 en) := h
            show ∃ w9, Below W8.heap.size W8 w9 ∧ w2 = w9.setCell ⟨b7, aN, none⟩ (.int .i64 en)
            exact hR.elim (fun e => absurd e hij) fun e => e ▸ h
          | _ + 12 => exact id
        case steps =>
          refine fun iv hiv => stepsOf_at (k := 0) (n := 12) ?_ iv (Nat.zero_le _) (by rw [Nat.zero_add]; exact hiv)
          refine stepsOf_cons (k := 0) (n := 11) ?_ ?_
          · refine stepOf_run (at0) [] (by kernel_rfl) (fun _ _ => rfl) (fun f wq l hl hun hdn hS hd K' hK => ?_)
            clear hd
            have HK := Lib.hid hK
            clear hK
            have HSS := Lib.hid hS
            clear hS
            go_simp
            exact HK.out _ _ _ rfl rfl (hq 0 l _ HSS.out) (rr _)
          refine stepsOf_cons (k := 1) (n := 10) ?_ ?_
          · refine stepOf_run (atS (at0)) [] (by kernel_rfl) (fun _ _ => rfl) (fun f wq l hl hun hdn hS hd K' hK => ?_)
            clear hd
            have HK := Lib.hid hK
            clear hK
            have HSS := Lib.hid hS
            clear hS
            go_simp
            exact HK.out _ _ _ rfl rfl (hq 1 l _ HSS.out) (rr _)
          refine stepsOf_cons (k := 2) (n := 9) ?_ ?_
          · refine stepOf_run (atS (atS (at0))) [0, 1] (by kernel_rfl) (fun _ _ => rfl) (fun f wq l hl hun hdn hS hd K' hK => ?_)
            obtain ⟨e0, e1, -⟩ := hd
            have e0 : f 0 = .slice (some ⟨g, 0, none⟩) m c2 := e0
            have e1 : f 1 = .int .i64 k := e1
            have HK := Lib.hid hK
            clear hK
            have HSS := Lib.hid hS
            clear hS
            simp only [e0, e1]
            go_simp
            exact HK.out _ _ _ (by simp only [e0, e1]; rfl) rfl (hq 2 l _ HSS.out) (rr _)
          refine stepsOf_cons (k := 3) (n := 8) ?_ ?_
          · refine stepOf_run (atS (atS (atS (at0)))) [2] (by kernel_rfl) (fun _ _ => rfl) (fun f wq l hl hun hdn hS hd K' hK => ?_)
            obtain ⟨e2, -⟩ := hd
            have e2 : f 2 = .pointer (some ⟨g, k * 4, none⟩) := e2
            have HK := Lib.hid hK
            clear hK
            have HSS := Lib.hid hS
            clear hS
            simp only [e2]
            go_simp
            exact HK.out _ _ _ (by simp only [e2]; rfl) rfl (hq 3 l _ HSS.out) (rr _)
          refine stepsOf_cons (k := 4) (n := 7) ?_ ?_
          · refine stepOf_run (atS (atS (atS (atS (at0))))) [3] (by kernel_rfl) (fun _ _ => rfl) (fun f wq l hl hun hdn hS hd K' hK => ?_)
            obtain ⟨e3, -⟩ := hd
            have e3 : f 3 = .pointer (some ⟨g, k * 4 + 2, none⟩) := e3
            have HK := Lib.hid hK
            clear hK
            have hbq := hS (hun 11 (of_decide_eq_true (by kernel_rfl)))
            have hc := (hbq.cell (cell_lt HC8.out.2.1)).trans HC8.out.2.1
            clear hbq
            have HSS := Lib.hid hS
            clear hS
            simp only [e3]
            go_simp
            exact HK.out _ _ _ (by simp only [e3]; rfl) rfl (hq 4 l _ HSS.out) (rr _)
          refine stepsOf_cons (k := 5) (n := 6) ?_ ?_
          · refine stepOf_run (atS (atS (atS (atS (atS (at0)))))) [] (by kernel_rfl) (fun _ _ => rfl) (fun f wq l hl hun hdn hS hd K' hK => ?_)
            clear hd
            have HK := Lib.hid hK
            clear hK
            have HSS := Lib.hid hS
            clear hS
            go_simp
            exact HK.out _ _ _ rfl rfl (hq 5 l _ HSS.out) (rr _)
          refine stepsOf_cons (k := 6) (n := 5) ?_ ?_
          · refine stepOf_run (atS (atS (atS (atS (atS (atS (at0))))))) [] (by kernel_rfl) (fun _ _ => rfl) (fun f wq l hl hun hdn hS hd K' hK => ?_)
            clear hd
            have HK := Lib.hid hK
            clear hK
            have HSS := Lib.hid hS
            clear hS
            go_simp
            exact HK.out _ _ _ rfl rfl (hq 6 l _ HSS.out) (rr _)
          refine stepsOf_cons (k := 7) (n := 4) ?_ ?_
          · refine stepOf_run (atS (atS (atS (atS (atS (atS (atS (at0)))))))) [5, 6] (by kernel_rfl) (fun _ _ => rfl) (fun f wq l hl hun hdn hS hd K' hK => ?_)
            obtain ⟨e5, e6, -⟩ := hd
            have e5 : f 5 = .slice (some ⟨g, 0, none⟩) m c2 := e5
            have e6 : f 6 = .int .i64 k := e6
            have HK := Lib.hid hK
            clear hK
            have HSS := Lib.hid hS
            clear hS
            simp only [e5, e6]
            go_simp
            exact HK.out _ _ _ (by simp only [e5, e6]; rfl) rfl (hq 7 l _ HSS.out) (rr _)
          refine stepsOf_cons (k := 8) (n := 3) ?_ ?_
          · refine stepOf_run (atS (atS (atS (atS (atS (atS (atS (atS (at0))))))))) [7] (by kernel_rfl) (fun _ _ => rfl) (fun f wq l hl hun hdn hS hd K' hK => ?_)
            obtain ⟨e7, -⟩ := hd
            have e7 : f 7 = .pointer (some ⟨g, k * 4, none⟩) := e7
            have HK := Lib.hid hK
            clear hK
            have HSS := Lib.hid hS
            clear hS
            simp only [e7]
            go_simp
            exact HK.out _ _ _ (by simp only [e7]; rfl) rfl (hq 8 l _ HSS.out) (rr _)
          refine stepsOf_cons (k := 9) (n := 2) ?_ ?_
          · refine stepOf_run (atS (atS (atS (atS (atS (atS (atS (atS (atS (at0)))))))))) [8] (by kernel_rfl) (fun _ _ => rfl) (fun f wq l hl hun hdn hS hd K' hK => ?_)
            obtain ⟨e8, -⟩ := hd
            have e8 : f 8 = .pointer (some ⟨g, k * 4 + 3, none⟩) := e8
            have HK := Lib.hid hK
            clear hK
            have hbq := hS (hun 11 (of_decide_eq_true (by kernel_rfl)))
            have hc := (hbq.cell (cell_lt HC8.out.2.2)).trans HC8.out.2.2
            clear hbq
            have HSS := Lib.hid hS
            clear hS
            simp only [e8]
            go_simp
            exact HK.out _ _ _ (by simp only [e8]; rfl) rfl (hq 9 l _ HSS.out) (rr _)
          refine stepsOf_cons (k := 10) (n := 1) ?_ ?_
          · refine stepOf_run (atS (atS (atS (atS (atS (atS (atS (atS (atS (atS (at0))))))))))) [0, 1, 2, 3, 4, 5, 6, 7, 8, 9] (by kernel_rfl) (fun _ _ => rfl) (fun f wq l hl hun hdn hS hd K' hK => ?_)
            obtain ⟨e0, e1, e2, e3, e4, e5, e6, e7, e8, e9, -⟩ := hd
            have e0 : f 0 = .slice (some ⟨g, 0, none⟩) m c2 := e0
            have e1 : f 1 = .int .i64 k := e1
            have e2 : f 2 = .pointer (some ⟨g, k * 4, none⟩) := e2
            have e3 : f 3 = .pointer (some ⟨g, k * 4 + 2, none⟩) := e3
            have e4 : f 4 = .int .i64 aN := e4
            have e5 : f 5 = .slice (some ⟨g, 0, none⟩) m c2 := e5
            have e6 : f 6 = .int .i64 k := e6
            have e7 : f 7 = .pointer (some ⟨g, k * 4, none⟩) := e7
            have e8 : f 8 = .pointer (some ⟨g, k * 4 + 3, none⟩) := e8
            have e9 : f 9 = .int .i64 en := e9
            have HK := Lib.hid hK
            clear hK
            have HSS := Lib.hid hS
            clear hS
            simp only [e0, e1, e2, e3, e4, e5, e6, e7, e8, e9]
            go_simp
            exact HK.out _ _ _ (by simp only [e0, e1, e2, e3, e4, e5, e6, e7, e8, e9]; rfl) rfl (hq 10 l _ HSS.out) (rr _)
          refine stepsOf_cons (k := 11) (n := 0) ?_ ?_
          · refine stepOf_run (atS (atS (atS (atS (atS (atS (atS (atS (atS (atS (atS (at0)))))))))))) [0, 1, 2, 3, 4, 5, 6, 7, 8, 9, 10] (by kernel_rfl) (fun _ _ => rfl) (fun f wq l hl hun hdn hS hd K' hK => ?_)
            obtain ⟨e0, e1, e2, e3, e4, e5, e6, e7, e8, e9, e10, -⟩ := hd
            have e0 : f 0 = .slice (some ⟨g, 0, none⟩) m c2 := e0
            have e1 : f 1 = .int .i64 k := e1
            have e2 : f 2 = .pointer (some ⟨g, k * 4, none⟩) := e2
            have e3 : f 3 = .pointer (some ⟨g, k * 4 + 2, none⟩) := e3
            have e4 : f 4 = .int .i64 aN := e4
            have e5 : f 5 = .slice (some ⟨g, 0, none⟩) m c2 := e5
            have e6 : f 6 = .int .i64 k := e6
            have e7 : f 7 = .pointer (some ⟨g, k * 4, none⟩) := e7
            have e8 : f 8 = .pointer (some ⟨g, k * 4 + 3, none⟩) := e8
            have e9 : f 9 = .int .i64 en := e9
            have e10 : f 10 = .pointer (some ⟨b7, aN, none⟩) := e10
            have HK := Lib.hid hK
            clear hK
            have hbq := hS hl
            have hc := (hbq.cell (cell_lt (atA_at ha4 H78.out))).trans (atA_at ha4 H78.out)
            have hfz := not_frozen (i := aN) (blk_below hbq H78.out)
            have HBq := Lib.hid hbq
            clear hbq
            have HSS := Lib.hid hS
            clear hS
            simp only [e0, e1, e2, e3, e4, e5, e6, e7, e8, e9, e10]
            go_simp
            exact HK.out undef _ _ (by simp only [e0, e1, e2, e3, e4, e5, e6, e7, e8, e9, e10]; rfl) ⟨_, HBq.out, rfl⟩ (fun g => absurd g (by simp)) (.inl rfl)
          exact trivial
        case fin =>
          intro fo wz lo hl hall hS
          have a0 : fo 0 = .slice (some ⟨g, 0, none⟩) m c2 := hall 0 (by decide)
          have a1 : fo 1 = .int .i64 k := hall 1 (by decide)
          have a2 : fo 2 = .pointer (some ⟨g, k * 4, none⟩) := hall 2 (by decide)
          have a3 : fo 3 = .pointer (some ⟨g, k * 4 + 2, none⟩) := hall 3 (by decide)
          have a4 : fo 4 = .int .i64 aN := hall 4 (by decide)
          have a5 : fo 5 = .slice (some ⟨g, 0, none⟩) m c2 := hall 5 (by decide)
          have a6 : fo 6 = .int .i64 k := hall 6 (by decide)
          have a7 : fo 7 = .pointer (some ⟨g, k * 4, none⟩) := hall 7 (by decide)
          have a8 : fo 8 = .pointer (some ⟨g, k * 4 + 3, none⟩) := hall 8 (by decide)
          have a9 : fo 9 = .int .i64 en := hall 9 (by decide)
          have a10 : fo 10 = .pointer (some ⟨b7, aN, none⟩) := hall 10 (by decide)
          have a11 : ∃ w9, Below W8.heap.size W8 w9 ∧ wz = w9.setCell ⟨b7, aN, none⟩ (.int .i64 en) := hall 11 (by decide)
          clear hall
          obtain ⟨w9, hb9, hwz⟩ := a11
          simp only [a0]
          clear a0 a1 a2 a3 a4 a5 a6 a7 a8 a9 a10 hq rr hl hS
          obtain ⟨wE, rfl⟩ : ∃ x, x = wz := ⟨wz, rfl⟩
          have hT : Tk [50] W8 wE := by
            rw [hwz]
            exact tk_trans (Tk.below hb9) (tk_set1 (blk_below hb9 H78.out))
          have HOE := Lib.hid (own_tk HO8.out hT (by decide))
          have HWE := Lib.hid (own_tk HW8.out hT (by decide))
          have H7E := Lib.hid (show wE.heap[b7]? = some (.cells (atA l (k + 1)) 50) from by
            rw [hwz, set_same (blk_below hb9 H78.out), HAt.out.1])
          have HBE := Lib.hid (show Below w.heap.size w wE from by
            rw [hwz]
            exact bS (bT HB8.out hb9) HL7.out)
          have q1 := HOE.out.cellAt (k * 4 + 1) (by omega)
          rw [(ev_at _ k _ HKz.out).2.1, show (toH H e).k = ek from HEe.out.1.symm] at q1
          clear hT hwz hb9
          go_wp2_with fail
          go_roundw
          case rel => exact ⟨k + 1, by omega, by go_num, HOE.out, H7E.out, by rw [HAt.out.2]; exact HWE.out, HBE.out⟩
          case measure => simp [intOf]; omega
      · have h2b : (ek == 2) = false := by simpa using h2
        have HAt := Lib.hid (show atA l (k + 1) = atA l k from atA_same HE.out (by have := HEe.out.1; omega))
        by_cases h1 : ek = 1
        · have h1b : (ek == 1) = true := by simpa using h1
          have HWn := Lib.hid (show wantK l (k + 1) = wantK l k ++ [lastW l aN k] from by
            obtain ⟨e1, e2, e3⟩ := HEe.out
            rw [wantK_succ HE.out, if_pos (by omega), e2])
          have hz := atA_at ha4 H78.out
          obtain ⟨zv, hzv⟩ : ∃ q, q = lastW l aN k := ⟨_, rfl⟩
          rw [← hzv] at hz HWn
          obtain ⟨zs, hzs⟩ : ∃ q, q = wantK l k := ⟨_, rfl⟩
          have hzl : zs.length ≤ 5 := by rw [hzs]; have := wantK_len l k; omega
          rw [← hzs] at HW8 HWn
          obtain ⟨Aw, cw, hv8, _, _⟩ := own_slice HW8.out
          subst hv8
          have HOl := Lib.hid (own_tk (T := []) HW8.out (Tk.below (bA (o := .cells #[.int .i64 zv] 3) (bR W8))) (by simp))
          have HNw := Lib.hid (heap_alloc_new W8 (.cells #[.int .i64 zv] 3))
          have HBa := Lib.hid (bA (o := .cells #[.int .i64 zv] 3) HB8.out)
          have HBa' := Lib.hid (bA (o := .cells #[.int .i64 zv] 3) (bR W8))
          clear h1 h2 hzv hzs
          go_wp2_with (at_builtin; refine wpList_append_rd _ rfl (.tmp 48) (.tmp 56) 32 rfl w.heap.size 3 i0 _ 1 8 Tryz.underlying32 hi hz0 hz1 hz2 rfl (by decide) (.slice Aw zs.length cw) zs.length _ rfl HOl.out (some ⟨W8.heap.size, 0, none⟩) 1 1 [.int .i64 zv] rfl ⟨rfl, fun _ => ⟨W8.heap.size, 0, rfl, blk_lt HNw.out, fun j u hu => one_cell HNw.out hu⟩⟩ (by simp [Value.oneCell']) (by unfold maxLen; omega) (by omega) HBa.out.size ?_; intro v' w3 hown' hgrow)
          go_roundw
          case rel =>
            have hT := tk_trans (Tk.below (T := [3]) HBa'.out) (tk_grown HOl.out hgrow)
            refine ⟨k + 1, by omega, by go_num, own_tk HO8.out hT (by decide), ?_, ?_, HBa.out.grown hgrow HBa.out.size (fun r e => (HOl.out.lt r e).1)⟩
            · rw [HAt.out]
              exact hT.at_ (by decide) H78.out
            · rw [HWn.out, List.length_append]
              simpa [ints] using hown'
          case measure => simp [intOf]; omega
        · have h1b : (ek == 1) = false := by simpa using h1
          have HWn := Lib.hid (show wantK l (k + 1) = wantK l k from by
            rw [wantK_succ HE.out, if_neg (fun h => h1 (HEe.out.1.trans h))])
          clear h1 h2
          go_wp2_with fail
          go_roundw
          case rel => exact ⟨k + 1, by omega, by go_num, HO8.out, by rw [HAt.out]; exact H78.out, by rw [HWn.out]; exact HW8.out, HB8.out⟩
          case measure => simp [intOf]; omega
    · have hlb : decide ((k : Int) < (m : Int)) = false := by simp; omega
      obtain rfl : k = m := by omega
      obtain ⟨l', hl'⟩ : ∃ x, x = l.map (toH H) := ⟨_, rfl⟩
      have HEv := Lib.hid (show IsEvs wo A2 k c2 l' from ⟨by rw [hl', List.length_map]; exact HM.out.symm, HC2.out, by
        have h1 := Row.of_own HO.out
        rw [show hkL H l k = l' from by rw [hl', HM.out]; exact hkL_all H l] at h1
        exact h1⟩)
      have HPr := Lib.hid (show Prog l' from hl' ▸ toH_prog HHb.out HP.out)
      have HOut := Lib.hid (show ∀ z, (∃ xs, playP l' xs = some z) ↔ z = wantK l k from fun z => by
        have h1 := alone_out (H := H.toNat) HPr.out (fun e he => by
          rw [hl'] at he
          obtain ⟨x, _, rfl⟩ := List.mem_map.1 he
          have := HHb.out
          show H = _
          omega) (by have := HHb.out; omega) z
        rw [h1, hl', wantL_toH, HM.out])
      have HGo := Lib.hid (HG.out.below HBW.out)
      have HPl := Lib.hid (plays_any A2 k c2 l' wo HEv.out HPr.out HGo.out)
      have hlen := wantK_len l k
      obtain ⟨zs, hzs⟩ : ∃ q, q = wantK l k := ⟨_, rfl⟩
      rw [← hzs] at HWt HOut hlen
      obtain ⟨Aw, cw, hv8, hcw, _⟩ := own_slice HWt.out
      subst hv8
      have HCw := Lib.hid (And.intro hlen hcw)
      have HRw := Lib.hid (Row.of_own HWt.out)
      clear hl' hzs hlen hcw HO H7 HWt
      go_wp2_with fail
      refine HPl.out.mono ?_
      rintro o w5 ⟨⟨v5, R, rfl, hs5, hr5, hm5'⟩, hb5⟩
      obtain rfl : R = [zs] := rising_ext hr5 (rising_one zs) fun z => by rw [hm5', HOut.out]; simp
      obtain ⟨A5, c5, rfl⟩ : ∃ A c, v5 = .slice A 1 c := by
        obtain ⟨cs, h1, _⟩ := hs5
        obtain ⟨A5, c5, h, _⟩ := own_slice h1
        exact ⟨A5, c5, h⟩
      have HB5 := Lib.hid hb5
      have HEv5 := Lib.hid (HEv.out.sees (Below.sees hb5))
      obtain ⟨W6, hW6⟩ : ∃ X, X = w5.alloc (.cells #[.slice Aw zs.length cw] 32) := ⟨_, rfl⟩
      obtain ⟨b6, hb6⟩ : ∃ b, b = w5.heap.size := ⟨_, rfl⟩
      have k6 : Below w5.heap.size w5 W6 := hW6 ▸ bA (bR w5)
      have HB6 := Lib.hid k6
      have hz1 : ∀ z ∈ [zs], z.length ≤ 1000000 := fun z hz => by
        rw [List.mem_singleton.1 hz]
        have := HCw.out.1
        omega
      have HZ1 := Lib.hid hz1
      have HSm := Lib.hid (same16_yes A5 (some ⟨b6, 0, none⟩) 1 1 c5 1 [zs] W6 ((RR.of_ss (R := [zs]) hs5 hz1).below k6) (rr_one (by rw [hW6, hb6]; exact heap_alloc_new w5 _) HCw.out.2 ((HRw.out.below hb5).below k6) (by have := HCw.out.1; omega)) (by omega))
      clear hs5 hr5 hm5' hb5 k6 hz1
      go_wp2_with fail
      rw [← hb6, ← hW6]
      clear hb6 hW6
      refine HSm.out.mono ?_
      rintro o w7 ⟨rfl, hb7'⟩
      have HB7 := Lib.hid hb7'
      have HEv7 := Lib.hid ((HEv5.out.sees (Below.sees HB6.out)).sees (Below.sees hb7'))
      have HAx := Lib.hid (axioms_any A2 k c2 l' w7 HEv7.out HPr.out)
      clear hb7'
      go_wp2_with fail
      refine HAx.out.mono ?_
      rintro o w8 ⟨⟨v8, R8, rfl, hs8, hr8, hm8⟩, hb8⟩
      obtain rfl : R8 = [zs] := rising_ext hr8 (rising_one zs) fun z => by
        rw [hm8]
        have h1 := same_outs HPr.out z
        rw [HEv7.out.len] at h1
        rw [← h1, HOut.out]
        simp
      obtain ⟨A8, c8, rfl⟩ : ∃ A c, v8 = .slice A 1 c := by
        obtain ⟨cs, h1, _⟩ := hs8
        obtain ⟨A8, c8, h, _⟩ := own_slice h1
        exact ⟨A8, c8, h⟩
      have HB8 := Lib.hid hb8
      obtain ⟨W9, hW9⟩ : ∃ X, X = w8.alloc (.cells #[.slice Aw zs.length cw] 32) := ⟨_, rfl⟩
      obtain ⟨b9, hb9⟩ : ∃ b, b = w8.heap.size := ⟨_, rfl⟩
      have k9 : Below w8.heap.size w8 W9 := hW9 ▸ bA (bR w8)
      have HB9 := Lib.hid k9
      have HSm9 := Lib.hid (same16_yes A8 (some ⟨b9, 0, none⟩) 1 1 c8 1 [zs] W9 ((RR.of_ss (R := [zs]) hs8 HZ1.out).below k9) (rr_one (by rw [hW9, hb9]; exact heap_alloc_new w8 _) HCw.out.2 (((((HRw.out.below HB5.out).below HB6.out).below HB7.out).below hb8).below k9) (by have := HCw.out.1; omega)) (by omega))
      clear hs8 hr8 hm8 hb8 k9
      go_wp2_with fail
      rw [← hb9, ← hW9]
      clear hb9 hW9
      refine HSm9.out.mono ?_
      rintro o w10 ⟨rfl, hb10⟩
      have HFin := Lib.hid (bT HBW.out (bT HB5.out (bT HB6.out (bT HB7.out (bT HB8.out (bT HB9.out hb10))))))
      clear hb10
      go_wp2_with fail
      go_ret
      exact ⟨rfl, HFin.out⟩
end Go.Proofs.YtnigadeohmlpiaaGreatDoor

namespace Go.Proofs.YtnigadeohmlpiaaGreatDoor.litmusAlone
open Go.ChangeShapes Go.WideShapes Go.ChangeAt Go.RowKit

set_option maxRecDepth 100000 in
theorem contract (H : Type) (enc : TypeId × Value → H) (W : World) (base : Nat) (args : Array Value) (ds gs : List (DataW H)) (before : List MemPlace)
    (hval : ∀ (j : Nat) t v, Tryz.f9.params[j]? = some t → args[j]? = some v → Value.okWide Tryz.prog W .any base t v)
    (hW : DataW.Whole enc Tryz.prog Tryz.f9.params.toList Rows.litmusAloneSpec.vars false W args.toList ds gs before) (hL : laidMetH Tryz.prog Rows.litmusTellsRow.laid W) (_hS : W.ShapedOpen Tryz.prog) :
    Calls Tryz.prog 9 args W fun e W' => ∃ v, e = .returned v ∧ Rows.litmusAloneSpec.post enc Tryz.prog Tryz.f9 false true false false W args v W' := by
  have hW' := hW
  have hlt : ∀ p ∈ before, p.block < W.heap.size := fun p hp => hW.lt p hp
  obtain ⟨p, q, hA0, hV, rfl, hfz, hnd⟩ := hW
  have hA : DataW.TrodAll enc Tryz.prog W 0 (fun _ => true) true Tryz.f9.params.toList args.toList ds p := hA0

  rw [Tryz.params9] at hA hval
  obtain ⟨v0, vs0, d0, ds0, p0, q0, hargs, rfl, rfl, h0, r0⟩ := trodAll_cons hA
  obtain ⟨v1, vs1, d1, ds1, p1, q1, rfl, rfl, rfl, h1, r1⟩ := trodAll_cons r0
  obtain ⟨rfl, rfl, rfl⟩ := trodAll_nil r1
  obtain rfl : args = #[v0, v1] := by cases args; simp_all
  obtain ⟨rfl, rfl⟩ := trodVars_none hV
  obtain ⟨A0, n0, c0, L0, rfl, hi0, hn0⟩ := raw_in (hval 0 23 v0 rfl rfl) h0
  obtain ⟨x1, rfl, rfl, rfl, wx1⟩ := open_int Tryz.underlying3 (hval 1 3 v1 rfl rfl) h1
  have b1 := bounds_i64 wx1
  clear hA0
  refine (alone9_any A0 n0 c0 L0 x1 W hi0 hn0 b1.1 b1.2 (glob_laid hL)).mono fun e W' ⟨he, hb⟩ => ?_
  subst he
  exact ⟨_, rfl, post_of_below (pv := []) hW' (fun _ _ _ => trodAll_cons_mk (shut_bool Tryz.underlying4 _) trodAll_mk0) (fun sp hsp => trodAll_cons_mk (keeps_in (by kernel_rfl) (of_decide_eq_true (by kernel_rfl)) h0 hb (fun x hx => hlt x (by simp [hx])) sp (fun x hx => hsp x (by simp [hx]))) (trodAll_cons_mk (shut_int Tryz.underlying3 wx1) trodAll_mk0)) (fun _ _ => rfl) rfl hb (ok_one (by kernel_rfl) rfl (okWide_bool_mk Tryz.underlying4 _))⟩

theorem reads (os : Os) {H : Type} (enc : TypeId × Value → H) : ∃ places, DataW.whole enc Tryz.prog ((laidWorld os).forCall (fun _ _ => 0) ⟨#[], #[.slice none 0 0, .int .i64 0], []⟩).memory Tryz.f9.params.toList Rows.litmusAloneSpec.vars false (#[.slice none 0 0, .int .i64 0] : Array Value).toList 8 = some ([.nil, .lit (.int .i64 0)], [], places) :=
  ⟨[], by kernel_rfl⟩

set_option maxRecDepth 100000 in
theorem lifted (os : Os) (started : os.Started) (H : Type) (enc : TypeId × Value → H) (F : Stop.Interp) :
    ReturnsInHanded {} Tryz.checked os 9 .any ((OpenSpec.ofChange Rows.litmusAloneSpec).preRow enc Tryz.prog Tryz.f9 Rows.litmusAloneRow.domain false Rows.litmusAloneRow.laid) (((OpenSpec.ofChange Rows.litmusAloneSpec).at F).post enc Tryz.prog Tryz.f9 false true false false) := by
  obtain ⟨places, hx⟩ := reads os enc
  refine returnsInHanded_of_row (C := Tryz.checked) (s := OpenSpec.ofChange Rows.litmusAloneSpec) own started (by kernel_rfl) Tryz.func9
    (witness_row_atRef (enc := enc) (C := Tryz.checked) false (laidWorld os) #[.slice none 0 0, .int .i64 0] rfl (by kernel_rfl) (by kernel_rfl) (by kernel_rfl)
      (OpenSpec.preRow_of_cond 8 hx (by kernel_rfl) (fun k hk => by cases hk) (by kernel_rfl) (laid_met os _))) ?_
  intro W base args ds gs before hval hW _ _ _ hL hS _
  exact contract H enc W base args ds gs before hval hW hL hS

theorem said : Rows.LitmusAloneSaid :=
  OpenClaim.holds_of_cond 9 Tryz.f9 rfl rfl rfl rfl rfl rfl rfl ⟨rfl, rfl, rfl, rfl, rfl⟩ rfl rfl rfl rfl rfl (by kernel_rfl) Tryz.func9 (by kernel_rfl)
    (of_decide_eq_true (by kernel_rfl)) (by unfold Func.isWrapper; first | (rw [if_pos (by decide +kernel)]; kernel_rfl) | (rw [if_neg (by decide +kernel)]; exact ⟨rfl, rfl⟩))
    (fun os started H enc _ F => by rw [OpenClaim.pre_eq_preRow]; exact lifted os started H enc F)

theorem plain (f : FuncId) (fn : Func) (hf : Tryz.pinned.checked.prog.funcNamed "headstock/headstocklaw13.LitmusAlone" = some f) (hfn : Tryz.pinned.checked.prog.funcs[f]? = some fn) :
    false = Tryz.pinned.checked.prog.looks [] ∧ ∀ (j : Nat) t, fn.params[j]? = some t → Tryz.pinned.checked.prog.wantsStandIn t = false := by
  obtain rfl : f = 9 := Option.some.inj ((show Tryz.prog.funcNamed "headstock/headstocklaw13.LitmusAlone" = some 9 by kernel_rfl).symm.trans hf) |>.symm
  obtain rfl : fn = Tryz.f9 := (Option.some.inj (Tryz.func9.symm.trans hfn)).symm
  refine ⟨by kernel_rfl, fun j t ht => ?_⟩
  have : ∀ t ∈ Tryz.f9.params, Tryz.prog.wantsStandIn t = false := by
    rw [Tryz.params9]
    intro t ht
    simp only [List.mem_toArray, List.mem_cons, List.not_mem_nil, or_false] at ht
    rcases ht with rfl | rfl
    all_goals kernel_rfl
  exact this t (Array.mem_of_getElem? ht)

/-- the card -/
theorem card : Rows.LitmusAloneCardSaid :=
  Claim7.holds_tied_plain_at .later [] _ _ _ _ said (fun _ h => by cases h) (by kernel_rfl) (fun _ h => by cases h) litmusAlone_row_tie rfl ⟨rfl, rfl⟩ (by kernel_rfl) rfl plain (by kernel_rfl)
end Go.Proofs.YtnigadeohmlpiaaGreatDoor.litmusAlone
