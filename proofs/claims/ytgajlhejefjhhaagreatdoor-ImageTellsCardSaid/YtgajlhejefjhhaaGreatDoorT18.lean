/- A contract: a text is read. No condition of ours. -/
import Derived.Test.YtgajlhejefjhhaaGreatDoorT17
namespace Go.Proofs.YtgajlhejefjhhaaGreatDoor
open Go.RowKit

/-- where the last line begins -/
def atL (s : List UInt8) : Nat := s.length - 13
def toldL (s : List UInt8) : List UInt8 := Lib.trimPrefix (s.drop (atL s)) [115, 117, 109, 32]

/-- none: a line is none; some none: the sum is another one -/
noncomputable def parseR (s : List UInt8) : Option (Option Img) :=
  if (Lib.hasPrefix (s.drop (atL s)) [115, 117, 109, 32] && Lib.hasSuffix (toldL s) [10]) = true then
    match hexO (Lib.trimSuffix (toldL s) [10]), parseO (s.take (atL s)) with
    | some n, some m => if n = sumL (s.take (atL s)) then some (some m) else some none
    | _, _ => none
  else none

def resI : Option (Option Img) → Img
  | some (some m) => m
  | _ => ⟨[], 0, []⟩
def errI : Option (Option Img) → Int
  | some (some _) => 0
  | some none => 41
  | none => 40
def lineI (s : List UInt8) : Option (Option Img) → Int
  | some none => (Lib.countByte s 10 : Nat)
  | _ => 0

/-- what Parse tells -/
def ParsedIs (s : List UInt8) (e : Ending) (w : World) : Prop :=
  ∃ A1 n1 c1 A2 n2 c2, e = .returned (.tuple #[.agg #[.slice A1 n1 c1, .int .i64 (resI (parseR s)).mem, .slice A2 n2 c2], .int .i64 (errI (parseR s)), .int .i64 (lineI s (parseR s))]) ∧ IsImg w A1 n1 A2 n2 (resI (parseR s)) ∧ n1 ≤ c1

theorem img_zero (w : World) : IsImg w none 0 none 0 ⟨[], 0, []⟩ :=
  ⟨Rd.nil_ _ _ _, Rd.nil_ _ _ _, by omega, by omega, fun z hz => by simp at hz, ⟨by decide, by decide⟩, fun x hx => by simp at hx⟩

theorem parsed_form {s : List UInt8} (h : parseR s = none) (w : World) : ParsedIs s (.returned (.tuple #[.agg #[.slice none 0 0, .int .i64 0, .slice none 0 0], .int .i64 40, .int .i64 0])) w := by
  unfold ParsedIs
  rw [h]
  exact ⟨none, 0, 0, none, 0, 0, rfl, img_zero w, Nat.le_refl _⟩
theorem parsed_sum {s : List UInt8} (h : parseR s = some none) (w : World) : ParsedIs s (.returned (.tuple #[.agg #[.slice none 0 0, .int .i64 0, .slice none 0 0], .int .i64 41, .int .i64 (Lib.countByte s 10 : Nat)])) w := by
  unfold ParsedIs
  rw [h]
  exact ⟨none, 0, 0, none, 0, 0, rfl, img_zero w, Nat.le_refl _⟩
theorem parsed_ok {s : List UInt8} {m : Img} (h : parseR s = some (some m)) {w : World} {A1 A2 : Option Addr} {n1 c1 n2 c2 : Nat} (hi : IsImg w A1 n1 A2 n2 m) (hc : n1 ≤ c1) :
    ParsedIs s (.returned (.tuple #[.agg #[.slice A1 n1 c1, .int .i64 m.mem, .slice A2 n2 c2], .int .i64 0, .int .i64 0])) w := by
  unfold ParsedIs
  rw [h]
  exact ⟨A1, n1, c1, A2, n2, c2, rfl, hi, hc⟩

theorem IsImg.far {w w' : World} {A1 A2 : Option Addr} {n1 n2 : Nat} {m : Img} (h : IsImg w A1 n1 A2 n2 m) (B : Nat) (hs : w.heap.size ≤ w'.heap.size) (hk : ∀ k, k ≠ B → k < w.heap.size → w'.heap[k]? = w.heap[k]?)
    (h1 : ∀ a, A1 = some a → a.block ≠ B) (h2 : ∀ a, A2 = some a → a.block ≠ B) : IsImg w' A1 n1 A2 n2 m := by
  have keep : ∀ {size n : Nat} {A : Option Addr} {xs : List Value}, Rd w size A n xs → (∀ a, A = some a → a.block ≠ B) → Rd w' size A n xs := fun {size n A xs} hr ha => ⟨hr.1, fun hn => by
    obtain ⟨b, off, e, hb, hc⟩ := hr.2 hn
    exact ⟨b, off, e, by omega, fun j u hu => (World.cell?_of_block (a := ⟨b, off + j, none⟩) (hk b (ha _ e) hb)).trans (hc j u hu)⟩⟩
  exact ⟨keep h.r1 h1, keep h.r2 h2, h.b1, h.b2, h.wf, h.mw, h.sz⟩

theorem str_drop (s : List UInt8) (a : Nat) : (str s).extract a s.length = str (s.drop a) := by
  apply ByteArray.ext
  rw [← Array.toList_inj]
  have := Lib.extract_to_end (str s) a
  exact this
theorem str_take (s : List UInt8) (a : Nat) : (str s).extract 0 a = str (s.take a) := by
  apply ByteArray.ext
  rw [← Array.toList_inj]
  have := Lib.extract_from_zero (str s) a
  exact this

set_option maxHeartbeats 1000000 in
set_option maxRecDepth 100000 in
theorem parseTop_any (s : List UInt8) (w : World) (hG : Glob w) (hs : s.length ≤ 1000000) :
    Calls Tryz.prog 23 #[.string (str s)] w fun e w' => ParsedIs s e w' ∧ Below w.heap.size w w' := by
  have HG := Lib.hid hG
  clear hG
  have hsz : (str s).size = s.length := rfl
  have hw6 : 6 ≤ w.heap.size := cell_lt HG.out.deb
  obtain ⟨a, ha⟩ : ∃ a, a = atL s := ⟨_, rfl⟩
  have hmax : max 0 ((s.length : Int) - 4 - 8 - 1) = ((a : Nat) : Int) := by rw [ha]; unfold atL; omega
  have hal : a ≤ s.length := by rw [ha]; unfold atL; omega
  have hd := str_drop s a
  have ht := str_take s a
  obtain ⟨ls, hls⟩ : ∃ ls, ls = s.drop a := ⟨_, rfl⟩
  obtain ⟨bd, hbd⟩ : ∃ bd, bd = s.take a := ⟨_, rfl⟩
  have hbl : bd.length ≤ 1000000 := by rw [hbd, List.length_take]; omega
  have hll : ls.length ≤ 1000000 := by rw [hls, List.length_drop]; omega
  obtain ⟨tl, htl⟩ : ∃ tl, tl = Lib.trimPrefix ls [115, 117, 109, 32] := ⟨_, rfl⟩
  have htll : tl.length ≤ 1000000 := by have := (trim_len ls [115, 117, 109, 32]).2; rw [htl]; omega
  obtain ⟨tx, htx⟩ : ∃ tx, tx = Lib.trimSuffix tl [10] := ⟨_, rfl⟩
  have htxl : tx.length ≤ 1000000 := by have := (trim_len tl [10]).1; rw [htx]; omega
  obtain ⟨ok, hok⟩ : ∃ ok, ok = Lib.hasPrefix ls [115, 117, 109, 32] := ⟨_, rfl⟩
  obtain ⟨hx, hhx⟩ : ∃ hx, hx = Lib.hasSuffix tl [10] := ⟨_, rfl⟩
  have HR := Lib.hid (show parseR s = if (ok && hx) = true then (match hexO tx, parseO bd with | some n, some m => if n = sumL bd then some (some m) else some none | _, _ => none) else none by
    rw [parseR, toldL, ← ha, ← hls, ← hbd, ← htl, ← htx, ← hok, ← hhx])
  rw [← hls] at hd
  rw [← hbd] at ht
  have HTl := Lib.hid htl
  have HTx := Lib.hid htx
  have HOk := Lib.hid hok
  have HHx := Lib.hid hhx
  clear ha hls hbd htl htx hok hhx
  have HX := Lib.hid (bA (o := .cells #[.slice none 0 0, .int .i64 0, .slice none 0 0] 25) (bR w))
  have HX0 := Lib.hid (heap_alloc_new w (.cells #[.slice none 0 0, .int .i64 0, .slice none 0 0] 25))
  go_enter Tryz.func23, Tryz.ntmps23
  go_wp2_with fail
  refine (Tryz.strings_CutPrefix (str ls) (str [115, 117, 109, 32]) _).mono ?_
  rintro e w1 ⟨rfl, rfl⟩
  have hk : Lib.trimPrefix (str ls).data.toList (str [115, 117, 109, 32]).data.toList = tl := HTl.out.symm
  have hk2 : Lib.hasPrefix (str ls).data.toList (str [115, 117, 109, 32]).data.toList = ok := HOk.out.symm
  rw [hk, hk2]
  clear hk hk2
  go_wp2_with fail
  refine (Tryz.strings_TrimSuffix (str tl) (str [10]) _ (by show tl.length ≤ _; omega)).mono ?_
  rintro e w1 ⟨rfl, rfl⟩
  have hk : Lib.trimSuffix (str tl).data.toList (str [10]).data.toList = tx := HTx.out.symm
  rw [hk]
  clear hk
  go_wp2_with fail
  refine (hex_any tx _ (by omega) (HG.out.below HX.out)).mono ?_
  rintro e w2 ⟨he, hb2⟩
  have hx2 : ∃ (is : Bool) (q : Nat), e = .returned (.tuple #[.int .i64 (q : Nat), .bool is]) ∧ ((is = true ∧ hexO tx = some q) ∨ (is = false ∧ hexO tx = none)) := by
    rcases he with ⟨v, hv, _, rfl⟩ | ⟨q, hv, _, rfl⟩
    · exact ⟨true, v, rfl, .inl ⟨rfl, hv⟩⟩
    · exact ⟨false, q, rfl, .inr ⟨rfl, hv⟩⟩
  clear he
  obtain ⟨is, q, rfl, hx2⟩ := hx2
  have HX2 := Lib.hid hx2
  have HB2 := Lib.hid (bT HX.out hb2)
  have HX3 := Lib.hid ((hb2.block w.heap.size (by simp)).trans HX0.out)
  clear hb2 hx2
  go_wp2_with fail
  refine (parse_any bd _ (HG.out.below HB2.out) hbl).mono ?_
  rintro e w3 ⟨⟨A1, n1, c1, mem, A2, n2, c2, rt, rfl, hpi⟩, hb3⟩
  have HPi := Lib.hid hpi
  have HB3 := Lib.hid (bT HB2.out hb3)
  have HX4 := Lib.hid ((hb3.block w.heap.size (Array.getElem?_eq_some_iff.1 HX3.out).1).trans HX3.out)
  clear hb3 hpi
  have hw3 : w.heap.size < w3.heap.size := (Array.getElem?_eq_some_iff.1 HX4.out).1
  have HB4 := Lib.hid (bA (o := .cells #[.slice A1 n1 c1, .int .i64 mem, .slice A2 n2 c2] 25) HB3.out)
  have HN4 := Lib.hid (fun (x y z : Value) => (Below.heap_alloc (((w3.setCell ⟨w.heap.size, 0, none⟩ x).setCell ⟨w.heap.size, 1, none⟩ y).setCell ⟨w.heap.size, 2, none⟩ z) (.cells #[.slice A1 n1 c1, .int .i64 mem, .slice A2 n2 c2] 25) w.heap.size (by simp [World.setCell]; omega)).trans (set3 HX4.out))
  have HFin := Lib.hid (show ∀ x y z, Below w.heap.size w ((((w3.setCell ⟨w.heap.size, 0, none⟩ x).setCell ⟨w.heap.size, 1, none⟩ y).setCell ⟨w.heap.size, 2, none⟩ z).alloc (.cells #[.slice A1 n1 c1, .int .i64 mem, .slice A2 n2 c2] 25)) from
    fun x y z => bA (bS (bS (bS HB3.out (Nat.le_refl _)) (Nat.le_refl _)) (Nat.le_refl _)))
  obtain ⟨r0, r1, r2, f0, f1, f2⟩ := cells3 HX4.out
  have HSf := Lib.hid (fun (w' : World) => show Calls Tryz.prog 43 #[.string (str tl), .string (str [10])] w' (fun e w'' => e = .returned (.bool hx) ∧ w'' = w') by
    rw [HHx.out]
    exact Tryz.strings_HasSuffix (str tl) (str [10]) w' (by show tl.length ≤ _; omega))
  cases ok
  · have HNo := Lib.hid (show parseR s = none by rw [HR.out]; rfl)
    go_wp2
    exact ⟨rfl, _, ret25b rfl rfl (HN4.out _ _ _), parsed_form HNo.out _, HFin.out _ _ _⟩
  · cases is
    · have HNo := Lib.hid (show parseR s = none by
        rw [HR.out]
        have := HX2.out
        simp only [Bool.false_eq_true, false_and, true_and, false_or] at this
        rw [this]
        simp)
      go_wp2
      exact ⟨rfl, _, ret25b rfl rfl (HN4.out _ _ _), parsed_form HNo.out _, HFin.out _ _ _⟩
    · have HHex := Lib.hid (show hexO tx = some q by
        have := HX2.out
        simpa using this)
      cases rt
      · have HNo := Lib.hid (show parseR s = none by
          rw [HR.out, HHex.out]
          rw [HPi.out.elim (fun h => absurd h.1 (by simp)) (fun h => h.2)]
          simp)
        go_wp2
        exact ⟨rfl, _, ret25b rfl rfl (HN4.out _ _ _), parsed_form HNo.out _, HFin.out _ _ _⟩
      · have hpi : ∃ m : Img, parseO bd = some m ∧ mem = m.mem ∧ IsImg w3 A1 n1 A2 n2 m ∧ n1 ≤ c1 ∧ Fresh w2.heap.size A1 ∧ Fresh w2.heap.size A2 := by
          rcases HPi.out with ⟨_, h⟩ | ⟨h, _⟩
          · exact h
          · cases h
        obtain ⟨m, hpm, rfl, him, hc1, hF1, hF2⟩ := hpi
        have HIm := Lib.hid him
        have HPm := Lib.hid hpm
        clear him hpm
        cases hx
        · have HNo := Lib.hid (show parseR s = none by rw [HR.out]; rfl)
          go_wp2_with (go_at_call 43; refine (HSf.out _).mono ?_; rintro e w' ⟨rfl, rfl⟩)
          exact ⟨rfl, _, ret25b rfl rfl (HN4.out _ _ _), parsed_form HNo.out _, HFin.out _ _ _⟩
        · have HR2 := Lib.hid (show parseR s = if q = sumL bd then some (some m) else some none by rw [HR.out, HHex.out, HPm.out]; rfl)
          have hFr : ∀ {A : Option Addr}, Fresh w2.heap.size A → ∀ a, A = some a → a.block ≠ w.heap.size := fun h a ha => by
            have := h a ha
            have := (Array.getElem?_eq_some_iff.1 HX3.out).1
            omega
          have HF1 := Lib.hid (hFr hF1)
          have HF2 := Lib.hid (hFr hF2)
          clear hFr hF1 hF2
          have HSm := Lib.hid (sum_any (str bd) (w3.alloc (.cells #[.slice A1 n1 c1, .int .i64 m.mem, .slice A2 n2 c2] 25)) (by show bd.length ≤ _; omega))
          have h4 := heap_alloc_new w3 (.cells #[.slice A1 n1 c1, .int .i64 m.mem, .slice A2 n2 c2] 25)
          have H4 := Lib.hid h4
          have HX5 := Lib.hid ((Below.heap_alloc w3 (.cells #[.slice A1 n1 c1, .int .i64 m.mem, .slice A2 n2 c2] 25) _ hw3).trans HX4.out)
          clear h4
          by_cases hq : q = sumL bd
          · have HDone := Lib.hid (show parseR s = some (some m) by rw [HR2.out, if_pos hq])
            have hq' : (q : Int) = (sumL bd : Nat) := by omega
            clear HR HR2 HTl HTx HOk HHx HX HX0 HX2 HPi
            go_wp2_with (first
              | (go_at_call 43; refine (HSf.out _).mono ?_; rintro e w' ⟨rfl, rfl⟩)
              | (go_at_call 27; refine HSm.out.mono ?_; rintro e w5 ⟨rfl, hb5⟩; obtain ⟨p0, p1, p2, g0, g1, g2⟩ := cells3 ((hb5.block _ (Array.getElem?_eq_some_iff.1 HX5.out).1).trans HX5.out); obtain ⟨l0, l1, l2, _⟩ := cells3 ((hb5.block _ (Array.getElem?_eq_some_iff.1 H4.out).1).trans H4.out); have HB5 := Lib.hid hb5; have HX6 := Lib.hid ((hb5.block _ (Array.getElem?_eq_some_iff.1 HX5.out).1).trans HX5.out); clear hb5))
            have him5 := ((HIm.out.below (bA (o := .cells #[.slice A1 n1 c1, .int .i64 m.mem, .slice A2 n2 c2] 25) (bR w3))).below HB5.out)
            have him6 := him5.far (w' := ((w5.setCell ⟨w.heap.size, 0, none⟩ (.slice A1 n1 c1)).setCell ⟨w.heap.size, 1, none⟩ (.int .i64 m.mem)).setCell ⟨w.heap.size, 2, none⟩ (.slice A2 n2 c2)) w.heap.size (by simp [World.setCell])
              (fun k hk _ => by rw [Below.heap_setCell _ _ _ _ hk, Below.heap_setCell _ _ _ _ hk, Below.heap_setCell _ _ _ _ hk]) HF1.out HF2.out
            exact ⟨rfl, _, ret25b rfl rfl (set3 HX6.out), parsed_ok HDone.out him6 hc1, bS (bS (bS (bT HB4.out HB5.out) (Nat.le_refl _)) (Nat.le_refl _)) (Nat.le_refl _)⟩
          · have HSu := Lib.hid (show parseR s = some none by rw [HR2.out, if_neg hq])
            have hq' : ¬ ((q : Int) = (sumL bd : Nat)) := by omega
            clear HR HR2 HTl HTx HOk HHx HX HX0 HX2 HPi
            go_wp2_with (first
              | (go_at_call 43; refine (HSf.out _).mono ?_; rintro e w' ⟨rfl, rfl⟩)
              | (go_at_call 27; refine HSm.out.mono ?_; rintro e w5 ⟨rfl, hb5⟩; obtain ⟨p0, p1, p2, g0, g1, g2⟩ := cells3 ((hb5.block _ (Array.getElem?_eq_some_iff.1 HX5.out).1).trans HX5.out); have HB5 := Lib.hid hb5; have HX6 := Lib.hid ((hb5.block _ (Array.getElem?_eq_some_iff.1 HX5.out).1).trans HX5.out); clear hb5)
              | (go_at_call 44; refine (Tryz.strings_Count_one (str s) 10 _).mono ?_; rintro e w' ⟨rfl, rfl⟩))
            exact ⟨rfl, _, ret25b rfl rfl (set3 HX6.out), parsed_sum HSu.out _, bS (bS (bS (bT HB4.out HB5.out) (Nat.le_refl _)) (Nat.le_refl _)) (Nat.le_refl _)⟩
end Go.Proofs.YtgajlhejefjhhaaGreatDoor
