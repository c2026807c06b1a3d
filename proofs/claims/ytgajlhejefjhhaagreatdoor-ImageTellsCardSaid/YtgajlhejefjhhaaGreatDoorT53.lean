/- Contracts of the document's own functions: a symbol is found; the head of an image as a text. No condition of ours. -/
import Derived.Test.YtgajlhejefjhhaaGreatDoorT52
namespace Go.Proofs.YtgajlhejefjhhaaGreatDoor
open Go.RowKit

set_option maxHeartbeats 1000000 in
set_option maxRecDepth 100000 in
theorem refFind_any (A1 : Option Addr) (n1 c1 : Nat) (A2 : Option Addr) (n2 c2 : Nat) (m : Img) (t : List UInt8) (w : World) (h : IsImg w A1 n1 A2 n2 m) :
    Calls Tryz.prog 19 #[.agg #[.slice A1 n1 c1, .int .i64 m.mem, .slice A2 n2 c2], .string (str t)] w fun e w' => e = .returned (.int .i64 (m.find t)) ∧ Below w.heap.size w w' := by
  have hB := bA (o := .cells #[.slice A1 n1 c1, .int .i64 m.mem, .slice A2 n2 c2] 25) (bR w)
  have H := Lib.hid (h.below hB)
  have HB := Lib.hid hB
  have HN := Lib.hid (box_new w A1 n1 c1 m.mem A2 n2 c2)
  have hn2 := h.b2
  clear hB h
  have hR := refRight_any A1 n1 c1 A2 n2 c2 m _ H.out
  by_cases hr : m.right = true
  · rw [hr] at hR
    have HRt := Lib.hid hR
    have HV := Lib.hid (show m.find t = (match m.syms.find? (fun x => x.1 == t) with | some x => x.2 | none => -1) by
      rw [Img.find, if_pos hr]
      rfl)
    clear hR hr
    go_enter Tryz.func19, Tryz.ntmps19
    go_wp2_with fail
    refine HRt.out.mono ?_
    rintro e w1 ⟨rfl, hb1⟩
    have HB1 := Lib.hid (bT HB.out hb1)
    have H1 := Lib.hid (H.out.below hb1)
    have HN1 := Lib.hid (box_below HN.out hb1)
    clear hb1
    obtain ⟨r0, r1, r2, _⟩ := cells3 HN1.out
    go_wp2_with fail
    go_loop [6] (fun i => ∃ k : Nat, k ≤ n2 ∧ i = .int .i64 k ∧ ∀ j x, j < k → m.syms[j]? = some x → x.1 ≠ t) (fun i => n2 - (intOf i).toNat)
    case atStart => exact ⟨0, Nat.zero_le _, rfl, fun _ _ h => absurd h (by omega)⟩
    case round =>
      obtain ⟨k, hk, rfl, hall⟩ := hrel
      have HA := Lib.hid hall
      clear hall
      by_cases hlt : k < n2
      · obtain ⟨b, off, nm, pl, rfl, hx, hc, hd⟩ := H1.out.r2.sym hlt
        have HX := Lib.hid hx
        clear hx
        by_cases e : nm = t
        · subst e
          have HF := Lib.hid (show m.find nm = pl by
            have : m.syms.find? (fun x => x.1 == nm) = some (nm, pl) := by
              rw [List.find?_eq_some_iff_getElem]
              obtain ⟨hk', hkx⟩ := List.getElem?_eq_some_iff.1 HX.out
              refine ⟨by simp, k, hk', hkx, fun j hj => ?_⟩
              have := HA.out j _ hj (List.getElem?_eq_getElem (by omega))
              simpa using this
            rw [HV.out, this])
          go_wp2
          go_ret
          exact ⟨ret_int HF.out.symm, HB1.out⟩
        · have he : (nm == t) = false := by simpa using e
          have HE := Lib.hid e
          clear e
          go_wp2
          go_round
          case rel =>
            refine ⟨k + 1, by omega, by go_num, fun j x hj hx => ?_⟩
            by_cases e : j < k
            · exact HA.out j x e hx
            · obtain rfl : j = k := by omega
              rw [HX.out] at hx
              cases hx
              exact HE.out
          case measure => simp [intOf]; omega
      · have HF := Lib.hid (show m.find t = -1 by
          have : m.syms.find? (fun x => x.1 == t) = none := List.find?_eq_none.2 fun x hx => by
            obtain ⟨j, hj, rfl⟩ := List.getElem_of_mem hx
            have hl := H1.out.r2.sym_len
            have := HA.out j _ (by omega) (List.getElem?_eq_getElem hj)
            simpa using this
          rw [HV.out, this])
        go_wp2
        go_ret
        exact ⟨ret_int HF.out.symm, HB1.out⟩
  · have hr' : m.right = false := by simpa using hr
    rw [hr'] at hR
    have HRt := Lib.hid hR
    have HF := Lib.hid (show m.find t = -1 by rw [Img.find, if_neg hr])
    clear hR hr hr'
    go_enter Tryz.func19, Tryz.ntmps19
    go_wp2_with fail
    refine HRt.out.mono ?_
    rintro e w1 ⟨rfl, hb1⟩
    have HB1 := Lib.hid (bT HB.out hb1)
    have HN1 := Lib.hid (box_below HN.out hb1)
    clear hb1
    obtain ⟨r0, r1, r2, _⟩ := cells3 HN1.out
    go_wp2_with fail
    go_loop [6] (fun i => i = .int .i64 0) (fun _ => 0)
    case atStart => rfl
    case round =>
      subst hrel
      by_cases h0 : 0 < n2
      · go_wp2
        go_ret
        exact ⟨ret_int HF.out.symm, HB1.out⟩
      · go_wp2
        go_ret
        exact ⟨ret_int HF.out.symm, HB1.out⟩

/-! ### the words' text, word for word (plain) -/
def wEnd (n i : Nat) : UInt8 := if i % 8 = 7 ∨ i + 1 = n then 10 else 32
def refW (zs : List Int) (k : Nat) : List UInt8 := (List.range k).flatMap fun i => digN 8 (zs.getD i 0).toNat ++ [wEnd zs.length i]

theorem refW_succ (zs : List Int) (k : Nat) : refW zs (k + 1) = refW zs k ++ (digN 8 (zs.getD k 0).toNat ++ [wEnd zs.length k]) := by simp [refW, List.range_succ]

theorem range_flat8 {α : Type} (f : Nat → List α) (a b : Nat) : (List.range (a + b)).flatMap f = (List.range a).flatMap f ++ (List.range b).flatMap fun i => f (a + i) := by
  rw [List.range_add, List.flatMap_append, List.flatMap_map]

theorem first_chunk (zs : List Int) (hne : zs ≠ []) : refW zs (min 8 zs.length) = wordLine (zs.take 8) := by
  obtain ⟨m, hm⟩ : ∃ m, min 8 zs.length = m + 1 := ⟨min 8 zs.length - 1, by have := List.length_pos_iff.2 hne; omega⟩
  have h1 : zs.take 8 = zs.take m ++ [zs.getD m 0] := by
    have hml : m < zs.length := by omega
    have e : zs.take 8 = zs.take (m + 1) := by
      rcases Nat.lt_or_ge 8 zs.length with h | h
      · have : m + 1 = 8 := by omega
        rw [this]
      · have : m + 1 = zs.length := by omega
        rw [this, List.take_of_length_le h, List.take_of_length_le (Nat.le_refl _)]
    rw [e, List.take_succ_eq_append_getElem hml, List.getD_eq_getElem?_getD, List.getElem?_eq_getElem hml]
    rfl
  rw [hm, refW_succ, wordLine, h1, List.map_append, List.map_cons, List.map_nil, join_lines]
  have h2 : wEnd zs.length m = 10 := by
    unfold wEnd
    rw [if_pos (by omega)]
  have h3 : refW zs m = ((zs.take m).map fun z => digN 8 z.toNat).flatMap fun l => l ++ [32] := by
    have : ∀ k, k ≤ m → refW zs k = ((zs.take k).map fun z => digN 8 z.toNat).flatMap fun l => l ++ [32] := by
      intro k
      induction k with
      | zero => intro _; simp [refW]
      | succ k ih =>
        intro hk
        have hkl : k < zs.length := by omega
        have he : wEnd zs.length k = 32 := by
          unfold wEnd
          rw [if_neg (by omega)]
        rw [refW_succ, ih (by omega), he, List.take_succ_eq_append_getElem hkl, List.getD_eq_getElem?_getD, List.getElem?_eq_getElem hkl]
        simp only [List.map_append, List.flatMap_append, List.map_cons, List.map_nil, List.flatMap_cons, List.flatMap_nil, List.append_nil, Option.getD_some]
    exact this m (Nat.le_refl _)
  rw [h2, h3, List.append_assoc]

theorem refW_drop (zs : List Int) (h : 8 ≤ zs.length) (k : Nat) : refW zs (8 + k) = refW zs 8 ++ refW (zs.drop 8) k := by
  unfold refW
  rw [range_flat8]
  congr 1
  apply congrFun
  apply congrArg
  funext i
  have e1 : (zs.drop 8).getD i 0 = zs.getD (8 + i) 0 := by simp [List.getD_eq_getElem?_getD]
  have e2 : wEnd (zs.drop 8).length i = wEnd zs.length (8 + i) := by
    unfold wEnd
    rw [List.length_drop]
    have : (i % 8 = 7 ∨ i + 1 = zs.length - 8) ↔ ((8 + i) % 8 = 7 ∨ 8 + i + 1 = zs.length) := by omega
    simp only [this]
  rw [e1, e2]

theorem pieces_cons (zs : List Int) (k : Nat) : pieces zs (k + 1) = zs.take 8 :: pieces (zs.drop 8) k := by
  unfold pieces
  rw [List.range_succ_eq_map, List.map_cons, List.map_map]
  congr 1
  apply List.map_congr_left
  intro j _
  simp only [Function.comp, pieceAt, List.drop_drop]
  congr 2
  omega

theorem refW_pieces : ∀ (n : Nat) (zs : List Int), zs.length = n → refW zs n = (pieces zs ((n + 7) / 8)).flatMap wordLine := by
  intro n
  induction n using Nat.strongRecOn with
  | _ n ih =>
    intro zs hz
    by_cases h0 : n = 0
    · subst h0
      simp [refW, pieces]
    · have hne : zs ≠ [] := fun e => h0 (by rw [e] at hz; exact hz.symm)
      have e1 : (n + 7) / 8 = (n - 8 + 7) / 8 + 1 ∨ (n ≤ 8 ∧ (n + 7) / 8 = 1) := by omega
      by_cases h8 : n ≤ 8
      · have hq : (n + 7) / 8 = 0 + 1 := by omega
        have hf := first_chunk zs hne
        rw [hz, Nat.min_eq_right h8] at hf
        rw [hq, pieces_cons, List.flatMap_cons, hf]
        simp [pieces]
      · have hq : (n + 7) / 8 = (n - 8 + 7) / 8 + 1 := by omega
        have hf := first_chunk zs hne
        rw [hz, Nat.min_eq_left (by omega)] at hf
        have hd : n = 8 + (n - 8) := by omega
        rw [hq, pieces_cons, List.flatMap_cons, ← hf, ← ih (n - 8) (by omega) (zs.drop 8) (by rw [List.length_drop, hz]), ← refW_drop zs (by omega), ← hd]
end Go.Proofs.YtgajlhejefjhhaaGreatDoor
