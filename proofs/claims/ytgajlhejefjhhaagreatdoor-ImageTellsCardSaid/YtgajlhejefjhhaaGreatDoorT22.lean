/- A contract: two images are alike. No condition of ours. -/
import Derived.Test.YtgajlhejefjhhaaGreatDoorT21
namespace Go.Proofs.YtgajlhejefjhhaaGreatDoor
open Go.RowKit

/-- are two the same -/
def Img.same (m k : Img) : Bool := decide (m.mem = k.mem) && (decide (m.words = k.words) && decide (m.syms = k.syms))

theorem same_iff (m k : Img) : m.same k = true ↔ m = k := by
  cases m
  cases k
  simp [Img.same]
  constructor
  · rintro ⟨h1, h2, h3⟩
    exact ⟨h2, h1, h3⟩
  · rintro ⟨h1, h2, h3⟩
    exact ⟨h2, h1, h3⟩

set_option maxHeartbeats 400000 in
set_option maxRecDepth 100000 in
theorem same_any (A1 : Option Addr) (n1 c1 : Nat) (A2 : Option Addr) (n2 c2 : Nat) (m : Img) (B1 : Option Addr) (k1 d1 : Nat) (B2 : Option Addr) (k2 d2 : Nat) (k : Img) (w : World) (h : IsImg w A1 n1 A2 n2 m) (h' : IsImg w B1 k1 B2 k2 k) :
    Calls Tryz.prog 20 #[.agg #[.slice A1 n1 c1, .int .i64 m.mem, .slice A2 n2 c2], .agg #[.slice B1 k1 d1, .int .i64 k.mem, .slice B2 k2 d2]] w fun e w' => e = .returned (.bool (m.same k)) ∧ Below w.heap.size w w' := by
  obtain ⟨a, ha⟩ : ∃ a, a = m.mem := ⟨_, rfl⟩
  obtain ⟨b, hb⟩ : ∃ b, b = k.mem := ⟨_, rfl⟩
  rw [← ha, ← hb]
  have hB := bA (o := .cells #[.slice B1 k1 d1, .int .i64 b, .slice B2 k2 d2] 25) (bA (o := .cells #[.slice A1 n1 c1, .int .i64 a, .slice A2 n2 c2] 25) (bR w))
  have H := Lib.hid (h.below hB)
  have H' := Lib.hid (h'.below hB)
  have HB := Lib.hid hB
  have hn' := heap_alloc_new (w.alloc (.cells #[.slice A1 n1 c1, .int .i64 a, .slice A2 n2 c2] 25)) (.cells #[.slice B1 k1 d1, .int .i64 b, .slice B2 k2 d2] 25)
  rw [World.size_alloc] at hn'
  have HN' := Lib.hid hn'
  clear hn'
  have HN := Lib.hid ((Below.heap_alloc (w.alloc (.cells #[.slice A1 n1 c1, .int .i64 a, .slice A2 n2 c2] 25)) (.cells #[.slice B1 k1 d1, .int .i64 b, .slice B2 k2 d2] 25) w.heap.size (by simp)).trans (heap_alloc_new w (.cells #[.slice A1 n1 c1, .int .i64 a, .slice A2 n2 c2] 25)))
  clear hB h h'
  have HE := Lib.hid (eqInt_any A1 n1 c1 B1 k1 d1 m.words k.words _ H.out.r1 H'.out.r1 H.out.b1 H'.out.b1)
  have HS := Lib.hid (show m.same k = (decide (m.mem = k.mem) && (decide (m.words = k.words) && decide (m.syms = k.syms))) from rfl)
  rw [← ha, ← hb] at HS
  clear ha hb
  by_cases hm : a = b
  · subst hm
    cases hw : decide (m.words = k.words) with
    | true =>
      rw [hw] at HE HS
      have HF := Lib.hid (show m.same k = decide (m.syms = k.syms) by rw [HS.out]; simp)
      clear hw
      go_enter Tryz.func20, Tryz.ntmps20
      go_wp2_with (first
        | (go_at_call 37; refine HE.out.mono ?_; rintro e w1 ⟨rfl, hb1⟩; obtain ⟨r0, r1, r2, _⟩ := cells3 ((hb1.block _ (Array.getElem?_eq_some_iff.1 HN.out).1).trans HN.out); obtain ⟨q0, q1, q2, _⟩ := cells3 ((hb1.block _ (Array.getElem?_eq_some_iff.1 HN'.out).1).trans HN'.out); have HB1 := Lib.hid hb1; clear hb1)
        | (go_at_call 38; refine (eqSym_any A2 n2 c2 B2 k2 d2 m.syms k.syms _ (H.out.below HB1.out).r2 (H'.out.below HB1.out).r2 H.out.b2 H'.out.b2).mono ?_; rintro e w2 ⟨rfl, hb2⟩; have HB2 := Lib.hid (bT HB.out (bT HB1.out hb2)); clear hb2))
      go_ret
      exact ⟨ret_bool HF.out.symm, HB2.out⟩
    | false =>
      rw [hw] at HE HS
      have HF := Lib.hid (show m.same k = false by rw [HS.out]; simp)
      clear hw
      go_enter Tryz.func20, Tryz.ntmps20
      go_wp2_with (go_at_call 37; refine HE.out.mono ?_; rintro e w1 ⟨rfl, hb1⟩; have HB1 := Lib.hid (bT HB.out hb1); clear hb1)
      go_ret
      exact ⟨ret_bool HF.out.symm, HB1.out⟩
  · have HF := Lib.hid (show m.same k = false by rw [HS.out]; simp [hm])
    have hm' : (a == b) = false := by simpa using hm
    clear HS
    go_enter Tryz.func20, Tryz.ntmps20
    go_wp2
    go_ret
    exact ⟨ret_bool HF.out.symm, HB.out⟩
end Go.Proofs.YtgajlhejefjhhaaGreatDoor
