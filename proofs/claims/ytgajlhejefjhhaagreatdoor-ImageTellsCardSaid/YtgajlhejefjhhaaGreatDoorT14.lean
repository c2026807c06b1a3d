/- A contract: a line is read. No condition of ours. -/
import Derived.Test.YtgajlhejefjhhaaGreatDoorT13
namespace Go.Proofs.YtgajlhejefjhhaaGreatDoor
open Go.RowKit

/-- what a line behind the first one does -/
noncomputable def stepO (m : Img) (code : Bool) (l : List UInt8) : Option (Img × Bool) :=
  if code = true then (if ((Lib.split l [32]).all fun p => (hexO p).isSome) = true then some ({ m with words := m.words ++ (Lib.split l [32]).map hexV }, true) else none)
  else if l = [99, 111, 100, 101] then some (m, true)
  else match hexO (Lib.cut l [32]).1 with
    | some v => if (Lib.cut l [32]).2.2 = true then some ({ m with syms := m.syms ++ [((Lib.cut l [32]).2.1, (v : Int))] }, false) else none
    | none => none

theorem cut_len (s sep : List UInt8) : (Lib.cut s sep).1.length ≤ s.length ∧ (Lib.cut s sep).2.1.length ≤ s.length := by
  unfold Lib.cut
  split
  · simp only [List.length_take, List.length_drop]
    omega
  · simp

/-- a flag turned -/
theorem Psr.flag {b : Nat} {m : Img} {code : Bool} {w : World} (h : Psr b m code w) (c : Bool) : Psr b m c (w.setCell ⟨b, 3, none⟩ (.bool c)) := by
  obtain ⟨v1, v2, h1, h2, h3⟩ := h
  exact ⟨v1, v2, heap_setCell_same h1 _, ownsRow_setCell_below h2 (a := ⟨b, 3, none⟩) (by simp) _, ownsRow_setCell_below h3 (a := ⟨b, 3, none⟩) (by simp) _⟩

theorem symCells_snoc (l : List (List UInt8 × Int)) (nm : List UInt8) (z : Int) : symCells (l ++ [(nm, z)]) = symCells l ++ [.string (str nm), .int .i64 z] := by
  simp [symCells]

/-- a symbol more -/
theorem Psr.sym {b : Nat} {m : Img} {code : Bool} {w w' : World} {v1 v2 v' : Value} {nm : List UInt8} {z : Int} (h1 : w.heap[b]? = some (.cells #[v1, .int .i64 m.mem, v2, .bool code] 100)) (h2 : w.ownsRow (b + 1) 3 1 v1 m.words.length (m.words.map (Value.int .i64)))
    (h3 : w.ownsRow (b + 1) 45 2 v2 m.syms.length (symCells m.syms)) (ho : w'.ownsRow (b + 1) 45 2 v' (m.syms.length + 1) (symCells m.syms ++ [.string (str nm), .int .i64 z])) (hg : w.grownBy w' v2.ownBlock) :
    Psr b { m with syms := m.syms ++ [(nm, z)] } code (w'.setCell ⟨b, 2, none⟩ v') := by
  refine ⟨v1, v', ?_, ?_, ?_⟩
  · exact heap_setCell_same (grown_keep h3 hg h1 (.inl (by decide))) v'
  · exact ownsRow_setCell_below (h2.kept hg (own_apart h2 h3 (by decide))) (a := ⟨b, 2, none⟩) (by simp) v'
  · have := ownsRow_setCell_below ho (a := ⟨b, 2, none⟩) (by simp) v'
    rw [symCells_snoc]
    simpa using this
theorem sym_info : (Tryz.prog.info? 45).map (fun i => (i.zero, i.size, i.bytes)) = some (some (.agg #[.string ⟨#[]⟩, .int .i64 0]), 2, 24) := by kernel_rfl

theorem two_new (w : World) (a b : Value) (t : TypeId) : ∀ j u, [a, b][j]? = some u → (w.alloc (.cells #[a, b] t)).cell? (Addr.add ⟨w.heap.size, 0, none⟩ j) = some u := by
  intro j u h
  have := new_cell (w := w) (C := #[a, b]) (t := t) (fz := (0, 0)) (j := j) (v := u) (by simpa using h)
  have e : Addr.add ⟨w.heap.size, 0, none⟩ j = ⟨w.heap.size, j, none⟩ := by
    unfold Addr.add
    split
    · rename_i h0
      rw [h0]
    · simp
  rw [e]
  exact this

theorem step_code (m : Img) (l : List UInt8) : stepO m true l = if ((Lib.split l [32]).all fun p => (hexO p).isSome) = true then some ({ m with words := m.words ++ (Lib.split l [32]).map hexV }, true) else none := by
  rw [stepO, if_pos rfl]
theorem step_sym (m : Img) {l pl nm : List UInt8} {ok : Bool} (h : l ≠ [99, 111, 100, 101]) (hc : Lib.cut l [32] = (pl, nm, ok)) :
    stepO m false l = match hexO pl with
      | some v => if ok = true then some ({ m with syms := m.syms ++ [(nm, (v : Int))] }, false) else none
      | none => none := by
  rw [stepO, if_neg (by decide), if_neg h, hc]
theorem step_sym' (m : Img) {l pl nm : List UInt8} {ok is : Bool} {q : Nat} (h : l ≠ [99, 111, 100, 101]) (hc : Lib.cut l [32] = (pl, nm, ok)) (hx : (is = true ∧ hexO pl = some q) ∨ (is = false ∧ hexO pl = none)) :
    stepO m false l = if (ok && is) = true then some ({ m with syms := m.syms ++ [(nm, (q : Int))] }, false) else none := by
  rw [step_sym m h hc]
  rcases hx with ⟨rfl, hx⟩ | ⟨rfl, hx⟩ <;> rw [hx] <;> cases ok <;> rfl

set_option maxHeartbeats 1000000 in
set_option maxRecDepth 100000 in
theorem line_any (b : Nat) (m : Img) (code : Bool) (l : List UInt8) (w : World) (hP : Psr b m code w) (hG : Glob w) (hb6 : 6 ≤ b) (hl : l.length ≤ 1000000) (hm : m.words.length ≤ 2000000000000) (hm2 : m.syms.length ≤ 1000000000000) :
    Calls Tryz.prog 63 #[.pointer (some ⟨b, 0, none⟩), .string (str l)] w fun e w' =>
      ((∃ m' c', stepO m code l = some (m', c') ∧ e = .returned (.bool true) ∧ Psr b m' c' w') ∨ (stepO m code l = none ∧ e = .returned (.bool false))) ∧ Below b w w' ∧ KeepS w w' := by
  have hbw := hP.lt
  have hcode : w.cell? ⟨b, 3, none⟩ = some (.bool code) := by
    obtain ⟨v1, v2, h1, _⟩ := hP
    rw [cell_of_row w b 3 _ _ _ h1]
    rfl
  cases code with
  | true =>
    have hw := words_any b m l w hP hG hb6 hl hm
    have HW := Lib.hid hw
    have HS := Lib.hid (step_code m l)
    clear hw hP hG
    go_enter Tryz.func63, Tryz.ntmps63
    go_wp2_with fail
    refine HW.out.mono ?_
    rintro e w1 ⟨he, hb⟩
    have HB := Lib.hid hb
    clear hb
    rcases he with ⟨ha, rfl, hp⟩ | ⟨ha, rfl⟩
    · have HA := Lib.hid ha
      have HP := Lib.hid hp
      clear ha hp
      go_wp2
      go_ret
      exact ⟨.inl ⟨_, _, by rw [HS.out, if_pos HA.out], rfl, HP.out⟩, HB.out⟩
    · have HA := Lib.hid ha
      clear ha
      go_wp2
      go_ret
      exact ⟨.inr ⟨by rw [HS.out, if_neg (by simp [HA.out])], rfl⟩, HB.out⟩
  | false =>
    have HG := Lib.hid hG
    have HP := Lib.hid hP
    clear hG hP
    by_cases hc : l = [99, 111, 100, 101]
    · subst hc
      have hfr : w.frozen? ⟨b, 3, none⟩ = false := by
        obtain ⟨v1, v2, h1, _⟩ := HP.out
        exact not_frozen h1
      have HF := Lib.hid (HP.out.flag true)
      have HKS := Lib.hid (show KeepS w (w.setCell ⟨b, 3, none⟩ (.bool true)) by
        obtain ⟨v1, v2, h1, _⟩ := HP.out
        exact KeepS.set h1 (by decide))
      have HB := Lib.hid ((Below.refl b w).setCell (p := ⟨b, 3, none⟩) (by simp) (.bool true))
      go_enter Tryz.func63, Tryz.ntmps63
      go_wp2
      go_ret
      exact ⟨.inl ⟨m, true, rfl, rfl, HF.out⟩, HB.out, HKS.out⟩
    · have hc' : (l == [99, 111, 100, 101]) = false := by simpa using hc
      have HC := Lib.hid hc
      obtain ⟨mx, hmx⟩ := HG.out.mx
      obtain ⟨pl, nm, ok, hcut⟩ : ∃ pl nm ok, Lib.cut l [32] = (pl, nm, ok) := ⟨_, _, _, rfl⟩
      have hcl := cut_len l [32]
      rw [hcut] at hcl
      obtain ⟨hcl1, hcl2⟩ := hcl
      have HCt := Lib.hid (Tryz.strings_Cut (str l) (str [32]) mx w (by show l.length < _; omega) hmx)
      have HK := Lib.hid hcut
      clear hc hcut hmx
      go_enter Tryz.func63, Tryz.ntmps63
      go_wp2_with fail
      refine HCt.out.mono ?_
      rintro e w1 ⟨rfl, n, rfl⟩
      have hk : Lib.cut (str l).data.toList (str [32]).data.toList = (pl, nm, ok) := HK.out
      rw [hk]
      clear hk
      go_wp2_with fail
      refine (hex_any pl _ (by omega) (HG.out.below (bN (bR w)))).mono ?_
      rintro e w2 ⟨he, hb2⟩
      have hx : ∃ (is : Bool) (q : Nat), e = .returned (.tuple #[.int .i64 (q : Nat), .bool is]) ∧ ((is = true ∧ hexO pl = some q) ∨ (is = false ∧ hexO pl = none)) := by
        rcases he with ⟨v, hv, _, rfl⟩ | ⟨q, hv, _, rfl⟩
        · exact ⟨true, v, rfl, .inl ⟨rfl, hv⟩⟩
        · exact ⟨false, q, rfl, .inr ⟨rfl, hv⟩⟩
      clear he
      obtain ⟨is, q, rfl, hx⟩ := hx
      have HS := Lib.hid (step_sym' m HC.out HK.out hx)
      have HB2 := Lib.hid (bT (bN (bR w)) hb2)
      have HP2 := Lib.hid ((HP.out.below (bN (bR w))).below hb2)
      clear hb2 hx
      have hw2 := HB2.out.size
      obtain ⟨v1, v2, h1, h2, h3⟩ := HP2.out
      have H1 := Lib.hid h1
      have H2 := Lib.hid h2
      have H3 := Lib.hid h3
      have hcell : w2.cell? ⟨b, 2, none⟩ = some v2 := by rw [cell_of_row w2 b 2 _ _ _ h1]; rfl
      clear h1 h2 h3
      obtain ⟨i0, hi, hz0, hz1, hz2⟩ := info_parts sym_info
      cases ok
      all_goals
        go_wp2_with (at_builtin; refine wpList_append_own _ rfl (.tmp 38) (.tmp 42) 23 rfl (b + 1) 45 i0 _ 2 24 Tryz.underlying23 hi hz0 hz1 hz2 rfl (by decide) v2 m.syms.length _ rfl (H3.out.alloc _) ⟨w2.heap.size, 0, none⟩ 1 1 [.string (str nm), .int .i64 (q : Int)] rfl rfl (two_new _ _ _ _) (by simp [Value.oneCell']) (by unfold maxLen; omega) (by omega) (by simp; omega) ?_; intro v' w3 hown' hgrow _; obtain ⟨A', c', rfl, _⟩ := own_slice hown'; have hk3 := grown_keep (H3.out.alloc (.cells #[.string (str nm), .int .i64 (q : Int)] 45)) hgrow ((Below.heap_alloc w2 _ b (by omega)).trans H1.out) (.inl (by decide)); have hcell3 : w3.cell? ⟨b, 2, none⟩ = some v2 := (by rw [cell_of_row w3 b 2 _ _ _ hk3]; rfl); have hfr := not_frozen (i := 2) hk3; have HOwn := Lib.hid hown'; have HGrow := Lib.hid hgrow; clear hown' hgrow)
        have hB4 : Below b w (w3.setCell ⟨b, 2, none⟩ (.slice A' (m.syms.length + 1) c')) :=
          ((((HB2.out.mono (by omega)).alloc (by omega) _).trans (grown_own (H3.out.alloc _) HGrow.out b (by omega) (by simp; omega)))).setCell (by simp) _
        have hP4 := Psr.sym ((Below.heap_alloc w2 (.cells #[.string (str nm), .int .i64 (q : Int)] 45) b (by omega)).trans H1.out) (H2.out.alloc _) (H3.out.alloc _) HOwn.out HGrow.out
        go_ret
        refine ⟨?_, hB4, ((KeepS.below HB2.out).trans (KeepS.below (bA (bR w2)))).trans ((KeepS.grown (H3.out.alloc _) HGrow.out (by decide)).trans (KeepS.set hk3 (by decide)))⟩
        rw [HS.out]
      · exact .inr ⟨rfl, rfl⟩
      · cases is with
        | true => exact .inl ⟨_, _, rfl, rfl, hP4⟩
        | false => exact .inr ⟨rfl, rfl⟩
end Go.Proofs.YtgajlhejefjhhaaGreatDoor
