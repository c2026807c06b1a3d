/- An image that came in, as plain data. No condition of ours. -/
import Derived.Test.YtgajlhejefjhhaaGreatDoorT9
import Derived.Test.YtgajlhejefjhhaaGreatDoorRows
import Derived.ProofKit
import Derived.Deep.SlicePairs
import Derived.Lib.SmallJoins
import Derived.Lib.LaidTab
import Derived.LaidMore
namespace Go.Proofs.YtgajlhejefjhhaaGreatDoor
open Go.ChangeShapes Go.WideShapes Go.ChangeAt Go.RowKit

/-! ### an image that came in -/
theorem cells25 : Tryz.prog.cellsOf 25 = 3 := by kernel_rfl
theorem cells45 : Tryz.prog.cellsOf 45 = 2 := by kernel_rfl
theorem cells3' : Tryz.prog.cellsOf 3 = 1 := by kernel_rfl
theorem cells9 : Tryz.prog.cellsOf 9 = 1 := by kernel_rfl
theorem laidOut' : laidOutB Tryz.prog = true := by kernel_rfl

theorem add_at (b off j : Nat) : (Addr.add ⟨b, off, none⟩ j) = ⟨b, off + j, none⟩ := by
  unfold Addr.add
  split
  · rename_i h
    have : j = 0 := by simpa using h
    rw [this]
    rfl
  · rfl

section
variable {H : Type} {enc : TypeId × Value → H}

set_option maxRecDepth 100000 in
theorem img_in {W : World} {base : Nat} {v : Value} {d : DataW H} {p : List MemPlace} (hv : Value.okWide Tryz.prog W .any base 25 v) (h : DataW.Trod enc Tryz.prog W 0 (fun _ => true) true 25 v d p) :
    ∃ A1 n1 c1 A2 n2 c2 m, v = .agg #[.slice A1 n1 c1, .int .i64 m.mem, .slice A2 n2 c2] ∧ IsImg W A1 n1 A2 n2 m := by
  obtain ⟨v0, v1, v2, y0, y1, y2, n, rfl, rfl, rfl, h0, h1, h2⟩ := Joins.open_agg3 Tryz.underlying25 (by kernel_rfl) cells25 hv h
  obtain ⟨mem, e1, _, w1⟩ := DataW.trod_int Tryz.underlying3 h1
  obtain rfl : v1 = .int .i64 mem := by simpa using e1
  have hm : -9223372036854775808 ≤ mem ∧ mem ≤ 9223372036854775807 := by
    have := bounds_i64 w1
    omega
  have hw : ∃ A1 n1 c1 zs, v0 = .slice A1 n1 c1 ∧ Rd W 1 A1 n1 (List.map (Value.int .i64) zs) ∧ n1 ≤ 9223372036854775807 ∧ Wf zs := by
    rcases open_ints Tryz.underlying22 Tryz.underlying3 cells3' h0 with ⟨e, _⟩ | ⟨a, len, cap, zs, e, _, hl, hc, hz, _, hcell, hwf⟩
    · obtain rfl : v0 = .slice none 0 0 := by simpa using e
      exact ⟨none, 0, 0, [], rfl, Rd.nil_ _ _ _, by omega, fun z hz => by simp at hz⟩
    · obtain rfl : v0 = .slice (some a) len cap := by simpa using e
      simp only [if_true] at hz
      unfold maxLen at hc
      refine ⟨some a, len, cap, zs.take len, rfl, ⟨by simp; omega, fun hn => ?_⟩, by omega, fun z hz' => ?_⟩
      · have hc0 := hcell 0 (by omega)
        obtain ⟨b, off, spot⟩ := a
        have hspot : spot = none := by simpa [Addr.add] using World.cell?_spot hc0
        subst hspot
        refine ⟨b, off, rfl, cell_lt (by simpa [Addr.add] using hc0), fun j u hu => ?_⟩
        rw [List.getElem?_map, List.getElem?_take] at hu
        split at hu
        · rename_i hj
          have := hcell j (by omega)
          rw [List.getD_eq_getElem?_getD] at this
          rw [List.getElem?_eq_getElem (by omega)] at this hu
          simp only [Option.map_some, Option.some.injEq] at hu
          rw [← hu]
          exact (add_at b off j ▸ this)
        · simp at hu
      · have := bounds_i64 (hwf z (List.mem_of_mem_take hz'))
        omega
  have hs : ∃ A2 n2 c2 l, v2 = .slice A2 n2 c2 ∧ Rd W 2 A2 n2 (symCells l) ∧ n2 ≤ 9223372036854775807 ∧ ∀ x ∈ l, x.1.length ≤ 9223372036854775807 ∧ -9223372036854775808 ≤ x.2 ∧ x.2 ≤ 9223372036854775807 := by
    rcases Deep.open_slice_pairs Tryz.underlying23 Tryz.underlying45 cells45 rfl rfl cells9 cells3' h2 with ⟨e, _⟩ | ⟨a, len, cap, m, k, V0, V1, D0, D1, P0, P1, e, _, hl, hc, hmm, _, hx⟩
    · obtain rfl : v2 = .slice none 0 0 := by simpa using e
      exact ⟨none, 0, 0, [], rfl, Rd.nil_ _ _ _, by omega, fun z hz => by simp at hz⟩
    · obtain rfl : v2 = .slice (some a) len cap := by simpa using e
      simp only [if_true] at hmm
      unfold maxLen at hc
      have hel : ∀ i, i < len → ∃ (s : List UInt8) (z : Int), V0 i = .string (str s) ∧ V1 i = .int .i64 z ∧ s.length ≤ 9223372036854775807 ∧ -9223372036854775808 ≤ z ∧ z ≤ 9223372036854775807 := fun i hi => by
        obtain ⟨_, _, t0, t1⟩ := hx i (by omega)
        obtain ⟨s, es, _, ws⟩ := DataW.trod_string Tryz.underlying9 t0
        obtain ⟨z, ez, _, wz⟩ := DataW.trod_int Tryz.underlying3 t1
        have := bounds_i64 wz
        refine ⟨s.data.toList, z, by simpa using es, by simpa using ez, ?_, by omega, by omega⟩
        unfold maxLen at ws
        simpa using ws
      obtain ⟨f, hf⟩ := Classical.axiomOfChoice (show ∀ i, ∃ x : List UInt8 × Int, i < len → V0 i = .string (str x.1) ∧ V1 i = .int .i64 x.2 ∧ x.1.length ≤ 9223372036854775807 ∧ -9223372036854775808 ≤ x.2 ∧ x.2 ≤ 9223372036854775807 from fun i => by
        by_cases hi : i < len
        · obtain ⟨s, z, h1, h2, h3, h4, h5⟩ := hel i hi
          exact ⟨(s, z), fun _ => ⟨h1, h2, h3, h4, h5⟩⟩
        · exact ⟨([], 0), fun h => absurd h hi⟩)
      refine ⟨some a, len, cap, (List.range len).map f, rfl, ⟨by rw [symCells_length]; simp, fun hn => ?_⟩, by omega, fun x hx' => ?_⟩
      · obtain ⟨hc0, _⟩ := hx 0 (by omega)
        obtain ⟨b, off, spot⟩ := a
        have hspot : spot = none := by simpa [Addr.add] using World.cell?_spot hc0
        subst hspot
        refine ⟨b, off, rfl, cell_lt (by simpa [Addr.add] using hc0), fun j u hu => ?_⟩
        have hj : j < len * 2 := by
          have := (List.getElem?_eq_some_iff.1 hu).1
          rw [symCells_length] at this
          simpa using this
        have hi : j / 2 < len := by omega
        obtain ⟨k0, k1, _, _⟩ := hx (j / 2) (by omega)
        obtain ⟨g0, g1, _⟩ := hf (j / 2) hi
        have hl' : ((List.range len).map f)[j / 2]? = some (f (j / 2)) := by rw [List.getElem?_map, List.getElem?_range hi]; rfl
        obtain ⟨q0, q1⟩ := symCells_at _ _ _ hl'
        rcases Nat.mod_two_eq_zero_or_one j with e | e
        · have ej : 2 * (j / 2) = j := by omega
          rw [ej, hu] at q0
          rw [Option.some.inj q0, ← g0]
          have e2 : j / 2 * 2 = j := by omega
          rw [e2, add_at] at k0
          exact k0
        · have ej : 2 * (j / 2) + 1 = j := by omega
          rw [ej, hu] at q1
          rw [Option.some.inj q1, ← g1]
          have e2 : j / 2 * 2 + 1 = j := by omega
          rw [e2, add_at] at k1
          exact k1
      · obtain ⟨i, hi, rfl⟩ := List.mem_map.1 hx'
        obtain ⟨_, _, h3, h4, h5⟩ := hf i (List.mem_range.1 hi)
        exact ⟨h3, h4, h5⟩
  obtain ⟨A1, n1, c1, zs, rfl, r1, b1, wf⟩ := hw
  obtain ⟨A2, n2, c2, l, rfl, r2, b2, sz⟩ := hs
  exact ⟨A1, n1, c1, A2, n2, c2, ⟨zs, mem, l⟩, rfl, ⟨r1, r2, b1, b2, wf, hm, sz⟩⟩
end
end Go.Proofs.YtgajlhejefjhhaaGreatDoor
