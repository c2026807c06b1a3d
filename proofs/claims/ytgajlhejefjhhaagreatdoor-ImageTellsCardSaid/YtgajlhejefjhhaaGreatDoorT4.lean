/- A contract: an image may be. No condition of ours. -/
import Derived.Test.YtgajlhejefjhhaaGreatDoorT3
namespace Go.Proofs.YtgajlhejefjhhaaGreatDoor
open Go.RowKit

/-- an image, as plain data -/
structure Img where
  words : List Int
  mem : Int
  syms : List (List UInt8 × Int)

def Img.right (m : Img) : Bool := decide (m.words.length ≤ 65536) && (!m.words.any oddW && (decide (0 ≤ m.mem) && (decide (m.mem ≤ 4096) && symsB m.syms m.words.length)))

/-- the two slices and the number of an image read as m -/
structure IsImg (w : World) (A1 : Option Addr) (n1 : Nat) (A2 : Option Addr) (n2 : Nat) (m : Img) : Prop where
  r1 : Rd w 1 A1 n1 (m.words.map (Value.int .i64))
  r2 : Rd w 2 A2 n2 (symCells m.syms)
  b1 : n1 ≤ 9223372036854775807
  b2 : n2 ≤ 9223372036854775807
  wf : Wf m.words
  mw : -9223372036854775808 ≤ m.mem ∧ m.mem ≤ 9223372036854775807
  sz : ∀ x ∈ m.syms, x.1.length ≤ 9223372036854775807 ∧ -9223372036854775808 ≤ x.2 ∧ x.2 ≤ 9223372036854775807

theorem IsImg.below {w w' : World} {A1 : Option Addr} {n1 : Nat} {A2 : Option Addr} {n2 : Nat} {m : Img} (h : IsImg w A1 n1 A2 n2 m) (hb : Below w.heap.size w w') : IsImg w' A1 n1 A2 n2 m :=
  ⟨h.r1.below hb, h.r2.below hb, h.b1, h.b2, h.wf, h.mw, h.sz⟩

/-- the value of an image -/
abbrev imgV (A1 : Option Addr) (n1 c1 : Nat) (mem : Int) (A2 : Option Addr) (n2 c2 : Nat) : Value := .agg #[.slice A1 n1 c1, .int .i64 mem, .slice A2 n2 c2]

set_option maxHeartbeats 1000000 in
set_option maxRecDepth 100000 in
theorem right_any (A1 : Option Addr) (n1 c1 : Nat) (A2 : Option Addr) (n2 c2 : Nat) (m : Img) (w : World) (h : IsImg w A1 n1 A2 n2 m) :
    Calls Tryz.prog 14 #[.agg #[.slice A1 n1 c1, .int .i64 m.mem, .slice A2 n2 c2]] w fun e w' => e = .returned (.bool m.right) ∧ Below w.heap.size w w' := by
  have hl := h.r1.int_len
  have b1 := h.b1
  have b2 := h.b2
  obtain ⟨m1, m2⟩ := h.mw
  have H := Lib.hid h
  clear h
  have hr : m.right = (decide (m.words.length ≤ 65536) && (!m.words.any oddW && (decide (0 ≤ m.mem) && (decide (m.mem ≤ 4096) && symsB m.syms m.words.length)))) := rfl
  rw [hl] at hr
  clear hl
  have HB1 := Lib.hid (H.out.below (bA (o := .cells #[.slice A1 n1 c1, .int .i64 m.mem, .slice A2 n2 c2] 25) (bR w)))
  have HBb := Lib.hid (bA (o := .cells #[.slice A1 n1 c1, .int .i64 m.mem, .slice A2 n2 c2] 25) (bR w))
  by_cases g1 : n1 ≤ 65536
  · have g1' : decide ((n1 : Int) ≤ 65536) = true := by simp; omega
    by_cases g2 : m.words.any oddW = true
    · have HR := Lib.hid (show m.right = false by rw [hr]; simp [g1, g2])
      clear hr
      go_enter Tryz.func14, Tryz.ntmps14
      go_wp2_with fail
      refine (containsFunc_any A1 n1 c1 m.words _ HB1.out.r1 b1 H.out.wf).mono ?_
      rintro e w1 ⟨rfl, rfl⟩
      go_wp2
      go_ret
      exact ⟨ret_bool HR.out.symm, HBb.out⟩
    · have g2' : m.words.any oddW = false := by simpa using g2
      clear g2
      by_cases g3 : 0 ≤ m.mem
      · by_cases g4 : m.mem ≤ 4096
        · have HR := Lib.hid (show m.right = symsB m.syms n1 by rw [hr]; simp [g1, g2', g3, g4])
          clear hr
          go_enter Tryz.func14, Tryz.ntmps14
          go_wp2_with fail
          refine (containsFunc_any A1 n1 c1 m.words _ HB1.out.r1 b1 H.out.wf).mono ?_
          rintro e w1 ⟨rfl, rfl⟩
          go_wp2_with fail
          refine (symbols_any A2 n2 c2 m.syms n1 _ HB1.out.r2 b2 (by omega) (by omega) H.out.sz).mono ?_
          rintro e w1 ⟨rfl, hb1⟩
          go_wp2
          go_ret
          exact ⟨ret_bool HR.out.symm, bT HBb.out hb1⟩
        · have HR := Lib.hid (show m.right = false by rw [hr]; simp [g4])
          clear hr
          have g4' : decide (m.mem ≤ 4096) = false := by simpa using g4
          go_enter Tryz.func14, Tryz.ntmps14
          go_wp2_with fail
          refine (containsFunc_any A1 n1 c1 m.words _ HB1.out.r1 b1 H.out.wf).mono ?_
          rintro e w1 ⟨rfl, rfl⟩
          go_wp2
          go_ret
          exact ⟨ret_bool HR.out.symm, HBb.out⟩
      · have HR := Lib.hid (show m.right = false by rw [hr]; simp [g3])
        clear hr
        have g3' : decide (0 ≤ m.mem) = false := by simpa using g3
        go_enter Tryz.func14, Tryz.ntmps14
        go_wp2_with fail
        refine (containsFunc_any A1 n1 c1 m.words _ HB1.out.r1 b1 H.out.wf).mono ?_
        rintro e w1 ⟨rfl, rfl⟩
        go_wp2
        go_ret
        exact ⟨ret_bool HR.out.symm, HBb.out⟩
  · have HR := Lib.hid (show m.right = false by rw [hr]; simp [g1])
    clear hr
    have g1' : decide ((n1 : Int) ≤ 65536) = false := by simp; omega
    go_enter Tryz.func14, Tryz.ntmps14
    go_wp2
    go_ret
    exact ⟨ret_bool HR.out.symm, HBb.out⟩
end Go.Proofs.YtgajlhejefjhhaaGreatDoor
