/- A contract: a symbol is found. No condition of ours. -/
import Derived.Test.YtgajlhejefjhhaaGreatDoorT19
namespace Go.Proofs.YtgajlhejefjhhaaGreatDoor
open Go.RowKit

/-- a symbol's place; below 0: there is none -/
def Img.find (m : Img) (t : List UInt8) : Int := if m.right = true then (match m.syms.find? (fun x => x.1 == t) with | some x => x.2 | none => -1) else -1

theorem Img.rise {m : Img} (h : m.right = true) : Rise m.syms := by
  simp only [Img.right, Bool.and_eq_true] at h
  exact rise_of h.2.2.2.2

theorem rise_find {l : List (List UInt8 × Int)} (h : Rise l) {k : Nat} {x : List UInt8 × Int} (hx : l[k]? = some x) : l.find? (fun y => y.1 == x.1) = some x := by
  rw [List.find?_eq_some_iff_getElem]
  obtain ⟨hk, hkx⟩ := List.getElem?_eq_some_iff.1 hx
  refine ⟨by simp, k, hk, hkx, fun j hj => ?_⟩
  have := h j k _ x hj (List.getElem?_eq_getElem (by omega)) hx
  have hne : ¬ (l[j]).1 = x.1 := fun e => by
    rw [e, cmp_self] at this
    omega
  simpa using hne

set_option maxHeartbeats 400000 in
set_option maxRecDepth 100000 in
theorem find_any (A1 : Option Addr) (n1 c1 : Nat) (A2 : Option Addr) (n2 c2 : Nat) (m : Img) (t : List UInt8) (w : World) (h : IsImg w A1 n1 A2 n2 m) :
    Calls Tryz.prog 18 #[.agg #[.slice A1 n1 c1, .int .i64 m.mem, .slice A2 n2 c2], .string (str t)] w fun e w' => e = .returned (.int .i64 (m.find t)) ∧ Below w.heap.size w w' := by
  have hB := bA (o := .cells #[.slice A1 n1 c1, .int .i64 m.mem, .slice A2 n2 c2] 25) (bR w)
  have H := Lib.hid (h.below hB)
  have HB := Lib.hid hB
  have HN := Lib.hid (heap_alloc_new w (.cells #[.slice A1 n1 c1, .int .i64 m.mem, .slice A2 n2 c2] 25))
  clear hB h
  have hR := right_any A1 n1 c1 A2 n2 c2 m _ H.out
  by_cases hr : m.right = true
  · rw [hr] at hR
    have HRt := Lib.hid hR
    have HRise := Lib.hid (Img.rise hr)
    have hn2 : n2 ≤ 1000 := by
      have := (Img.good hr).nsyms
      rw [H.out.r2.sym_len] at this
      exact this
    have HV := Lib.hid (show m.find t = (match m.syms.find? (fun x => x.1 == t) with | some x => x.2 | none => -1) by rw [Img.find, if_pos hr])
    clear hR hr
    go_enter Tryz.func18, Tryz.ntmps18
    go_wp2_with fail
    refine HRt.out.mono ?_
    rintro e w1 ⟨rfl, hb1⟩
    obtain ⟨r0, r1, r2, _⟩ := cells3 ((hb1.block _ (by simp)).trans HN.out)
    have HB1 := Lib.hid (bT HB.out hb1)
    have H1 := Lib.hid (H.out.below hb1)
    have HN1 := Lib.hid ((hb1.block _ (by simp)).trans HN.out)
    clear hb1
    go_wp2_with fail
    refine (search_any A2 n2 c2 m.syms t _ H1.out.r2 (by omega) HRise.out).mono ?_
    rintro e w2 ⟨he, hb2⟩
    obtain ⟨q0, q1, q2, _⟩ := cells3 ((hb2.block _ (Array.getElem?_eq_some_iff.1 HN1.out).1).trans HN1.out)
    have HB2 := Lib.hid (bT HB1.out hb2)
    have H2 := Lib.hid (H1.out.below hb2)
    clear hb2 r0 r1 r2
    rcases he with ⟨k, x, rfl, hx, rfl⟩ | ⟨k, rfl, hno⟩
    · obtain ⟨b, off, nm, pl, rfl, hx2, hc1, hc2⟩ := H2.out.r2.sym (k := k) (by have := (List.getElem?_eq_some_iff.1 hx).1; have := H2.out.r2.sym_len; omega)
      have hkl : k < n2 := by have := (List.getElem?_eq_some_iff.1 hx).1; have := H2.out.r2.sym_len; omega
      rw [hx] at hx2
      cases hx2
      have HF := Lib.hid (show m.find nm = pl by rw [HV.out, rise_find HRise.out hx])
      clear hx
      go_wp2
      go_ret
      exact ⟨ret_int HF.out.symm, HB2.out⟩
    · have HF := Lib.hid (show m.find t = -1 by
        rw [HV.out]
        have : m.syms.find? (fun x => x.1 == t) = none := List.find?_eq_none.2 fun x hx => by simpa using hno x hx
        rw [this])
      clear hno
      go_wp2
      go_ret
      exact ⟨ret_int HF.out.symm, HB2.out⟩
  · have hr' : m.right = false := by simpa using hr
    rw [hr'] at hR
    have HRt := Lib.hid hR
    have HF := Lib.hid (show m.find t = -1 by rw [Img.find, if_neg hr])
    clear hR hr hr'
    go_enter Tryz.func18, Tryz.ntmps18
    go_wp2_with fail
    refine HRt.out.mono ?_
    rintro e w1 ⟨rfl, hb1⟩
    go_wp2
    go_ret
    exact ⟨ret_int HF.out.symm, bT HB.out hb1⟩
end Go.Proofs.YtgajlhejefjhhaaGreatDoor
