/- Contracts and words: as long as an event is left, one of sixteen picks may be; a script that ends a program. No condition of ours. -/
import Derived.Test.YtnigadeohmlpiaaGreatDoorC26
import Derived.Test.YtnigadeohmlpiaaGreatDoorC22
import Derived.Test.YtnigadeohmlpiaaGreatDoorC40
import Derived.Test.YtnigadeohmlpiaaGreatDoorC27
import Derived.Test.YtnigadeohmlpiaaGreatDoorC23
import Derived.Deep.CutRange
namespace Go.Proofs.YtnigadeohmlpiaaGreatDoor
def candC (c : Nat) : Pk := ⟨((c % 4 : Nat) : Int), decide (4 ≤ c), ((c / 4 - 1 : Nat) : Int)⟩
def freeL (l : List Ev) (s : St) (k : Nat) : List Pk := ((List.range k).map candC).filter fun x => (s.next l x).isSome
theorem freeL_succ (l : List Ev) (s : St) (k : Nat) : freeL l s (k + 1) = freeL l s k ++ if (s.next l (candC k)).isSome then [candC k] else [] := by
 unfold freeL
 rw [List.range_succ, List.map_append, List.filter_append]
 congr 1
 simp only [List.map_cons, List.map_nil, List.filter_cons, List.filter_nil]
theorem freeL_len (l : List Ev) (s : St) (k : Nat) : (freeL l s k).length ≤ k := by
 unfold freeL
 exact Nat.le_trans (List.length_filter_le _ _) (by simp)
theorem freeL_mem {l : List Ev} {s : St} {k : Nat} {x : Pk} (h : x ∈ freeL l s k) : (s.next l x).isSome = true ∧ ∃ c, c < k ∧ x = candC c := by
 unfold freeL at h
 rw [List.mem_filter, List.mem_map] at h
 obtain ⟨⟨c, hc, rfl⟩, h2⟩ := h
 exact ⟨h2, c, List.mem_range.1 hc, rfl⟩
theorem candC_rng (c : Nat) (hc : c < 16) : 0 ≤ (candC c).h ∧ (candC c).h < 4 ∧ 0 ≤ (candC c).w ∧ (candC c).w < 4 := by
 unfold candC
 dsimp only
 omega
theorem can_go {l : List Ev} {s : St} (hl : Prog l) (hs : s.Ok l.length) (hd : s.done.all id = false) : ∃ c, c < 16 ∧ (s.next l (candC c)).isSome = true := by
 obtain ⟨b, hb, hb2⟩ := List.all_eq_false.1 hd
 obtain rfl : b = false := by simpa using hb2
 obtain ⟨i, hi, hib⟩ := List.mem_iff_getElem.1 hb
 have hil : i < l.length := by rw [← hs.d]; exact hi
 have he : l[i]? = some l[i] := List.getElem?_eq_getElem hil
 obtain ⟨h0, h4⟩ := (hl.ok _ (List.getElem_mem hil)).h
 obtain ⟨hN, hhN⟩ : ∃ hN : Nat, l[i].h = (hN : Int) := ⟨l[i].h.toNat, by omega⟩
 have hN4 : hN < 4 := by omega
 have hdue : ∃ j, s.due l (hN : Int) = some j := by
  cases hx : s.due l (hN : Int) with
  | some j => exact ⟨j, rfl⟩
  | none =>
   unfold St.due at hx
   rw [List.find?_eq_none] at hx
   have := hx i (List.mem_range.2 hil)
   refine absurd ?_ this
   unfold St.at_
   rw [he, Bool.and_eq_true]
   refine ⟨by simpa using hhN, ?_⟩
   rw [List.getD_eq_getElem?_getD, List.getElem?_eq_getElem hi, hib]
   rfl
 obtain ⟨j, hj⟩ := hdue
 obtain ⟨e, hej, heh, _⟩ := St.due_parts hj
 have hn := next_of_due hj hej
 have hc : candC hN = ⟨(hN : Int), false, 0⟩ := by
  unfold candC
  rw [Nat.mod_eq_of_lt hN4, decide_eq_false (by omega), show hN / 4 - 1 = 0 by omega]
  rfl
 by_cases h1 : e.k = 1
 ·
  refine ⟨hN, by omega, ?_⟩
  rw [hc, hn]
  unfold St.step
  rw [if_pos h1]
  rfl
 ·
  by_cases h2 : e.k = 2
  ·
   refine ⟨hN, by omega, ?_⟩
   rw [hc, hn]
   unfold St.step
   rw [if_neg h1, if_pos h2]
   rfl
  ·
   by_cases h3 : s.m.pend.getD e.h.toNat [] = []
   ·
    refine ⟨hN, by omega, ?_⟩
    rw [hc, hn]
    unfold St.step
    rw [if_neg h1, if_neg h2, if_pos h3]
    rfl
   ·
    refine ⟨4 + hN, by omega, ?_⟩
    have hc2 : candC (4 + hN) = ⟨(hN : Int), true, ((0 : Nat) : Int)⟩ := by
     unfold candC
     rw [show (4 + hN) % 4 = hN by omega, decide_eq_true (by omega), show (4 + hN) / 4 - 1 = 0 by omega]
    rw [heh, show ((hN : Int)).toNat = hN from rfl] at h3
    have hdr : ∃ M', s.m.drain hN 0 = some M' := by
     unfold Mm.drain
     cases hp : s.m.pend.getD hN [] with
     | nil => exact absurd hp h3
     | cons x p => exact ⟨⟨s.m.words.set x.1.toNat x.2, s.m.pend.set hN p⟩, by simp⟩
    obtain ⟨M', hM⟩ := hdr
    rw [hc2, next_of_drain hN4 hM]
    rfl
end Go.Proofs.YtnigadeohmlpiaaGreatDoor

namespace Go.Proofs.YtnigadeohmlpiaaGreatDoor
open Go.RowKit
attribute [local go_sem] Oper.semAt_some
structure IsTri (w : World) (A : Option Addr) (n : Nat) (zs : List Int) : Prop where
 rd : Rd w 3 A n (ints zs)
 ok : ∀ z ∈ zs, I64ok z
theorem IsTri.below {w w' : World} {A : Option Addr} {n : Nat} {zs : List Int} (h : IsTri w A n zs) (hb : Below w.heap.size w w') : IsTri w' A n zs := ⟨h.rd.below hb, h.ok⟩
theorem IsTri.at_ {w : World} {A : Option Addr} {n k : Nat} {zs : List Int} (h : IsTri w A n zs) (hk : k < n) : ∃ g o x y z, A = some ⟨g, o, none⟩ ∧ w.cell? ⟨g, o + k * 3, none⟩ = some (.int .i64 x) ∧ w.cell? ⟨g, o + k * 3 + 1, none⟩ = some (.int .i64 y) ∧ w.cell? ⟨g, o + k * 3 + 2, none⟩ = some (.int .i64 z) ∧ I64ok x ∧ I64ok y ∧ I64ok z := by
 have hl : zs.length = n * 3 := by have := h.rd.1; simpa [ints] using this
 obtain ⟨g, o, hA, _, hc⟩ := h.rd.2 (by omega)
 have hg : ∀ j, j < n * 3 → ∃ x, I64ok x ∧ w.cell? ⟨g, o + j, none⟩ = some (.int .i64 x) := fun j hj => by
  have hj' : j < zs.length := by omega
  have hx : zs[j]? = some zs[j] := List.getElem?_eq_getElem hj'
  exact ⟨zs[j], h.ok _ (List.getElem_mem _), hc j _ (by show (zs.map (Value.int .i64))[j]? = _; rw [List.getElem?_map, hx]; rfl)⟩
 obtain ⟨x, hx, cx⟩ := hg (k * 3) (by omega)
 obtain ⟨y, hy, cy⟩ := hg (k * 3 + 1) (by omega)
 obtain ⟨z, hz, cz⟩ := hg (k * 3 + 2) (by omega)
 exact ⟨g, o, x, y, z, hA, cx, cy, cz, hx, hy, hz⟩
theorem NextIs.form {n : Nat} {o : Option St} {e : Ending} {w : World} (h : NextIs n o e w) : ∃ a1 m1 d1 a2 m2 d2 a3 m3 d3 a4 m4 d4 a5 m5 d5, e = .returned (.tuple #[.agg #[.slice a1 m1 d1, .slice a2 m2 d2, .slice a3 m3 d3, .slice a4 m4 d4, .slice a5 m5 d5], .bool o.isSome]) ∧ ∀ s', o = some s' → IsSt w (.agg #[.slice a1 m1 d1, .slice a2 m2 d2, .slice a3 m3 d3, .slice a4 m4 d4, .slice a5 m5 d5]) n s' := by
 cases o with
 | none =>
  obtain ⟨u1, u2, u3, u4, u5, ⟨a1, n1, c1, rfl⟩, ⟨a2, n2, c2, rfl⟩, ⟨a3, n3, c3, rfl⟩, ⟨a4, n4, c4, rfl⟩, ⟨a5, n5, c5, rfl⟩, rfl⟩ := h
  exact ⟨_, _, _, _, _, _, _, _, _, _, _, _, _, _, _, rfl, fun s' h => by cases h⟩
 | some s' =>
  obtain ⟨v, rfl, hs⟩ := h
  obtain ⟨A1, c1, A2, c2, A3, c3, AD, cD, AT, cT, rfl⟩ := hs.form
  exact ⟨_, _, _, _, _, _, _, _, _, _, _, _, _, _, _, rfl, fun s h => by cases h; exact hs⟩
theorem pkCells_append (p q : List Pk) : pkCells (p ++ q) = pkCells p ++ pkCells q := by simp [pkCells]
theorem three_cell {w : World} {g j : Nat} {x y z u : Value} {t : TypeId} (h : w.heap[g]? = some (.cells #[x, y, z] t)) (hu : [x, y, z][j]? = some u) : w.cell? ⟨g, 0 + j, none⟩ = some u := by
 rw [cell_of_row w g _ _ _ _ h]
 simpa using hu
set_option maxHeartbeats 16000000 in
set_option maxRecDepth 100000 in
theorem play13_any (A : Option Addr) (n c : Nat) (pl : List Ev) (B : Option Addr) (m d : Nat) (zs : List Int) (w : World) (hl : Prog pl) (he : IsEvs w A n c pl) (hz : IsTri w B m zs) :
  Calls Tryz.prog 13 #[.slice A n c, .slice B m d] w fun e w' => (∃ A' k c' xs z, e = .returned (.slice A' k c') ∧ IsPks w' A' k c' xs ∧ k ≤ 12 ∧ k ≤ c' ∧ playP pl xs = some z) ∧ Below w.heap.size w w' := by
 have hn : n ≤ 6 := he.len ▸ hl.few
 obtain ⟨i0, hi0, hz0, hz1, hz2⟩ := info_parts pick_info
 have HPg := Lib.hid hl
 have HE := Lib.hid he
 have HZ := Lib.hid hz
 have HSt := Lib.hid (start28_any A n c w hn)
 clear he hz hl
 go_enter Tryz.func13, Tryz.ntmps13
 go_wp2_with fail
 refine HSt.out.mono ?_
 rintro e w1 ⟨⟨v0, rfl, hs0⟩, hb1⟩
 obtain ⟨A1, c1, A2, c2, A3, c3, AD, cD, AT, cT, rfl⟩ := hs0.form
 obtain ⟨b6, hb6⟩ : ∃ b, b = w1.heap.size := ⟨_, rfl⟩
 obtain ⟨W2, hW2⟩ : ∃ X, X = w1.alloc (.cells #[.slice A1 4 c1, .slice A2 4 c2, .slice A3 4 c3, .slice AD n cD, .slice AT n cT] 62) := ⟨_, rfl⟩
 have k2 : Below w1.heap.size w1 W2 := hW2 ▸ bA (bR w1)
 have HB2 := Lib.hid (bT hb1 k2)
 have H62 := Lib.hid (show W2.heap[b6]? = some (.cells #[.slice A1 4 c1, .slice A2 4 c2, .slice A3 4 c3, .slice AD n cD, .slice AT n cT] 62) by rw [hW2, hb6]; exact heap_alloc_new w1 _)
 have HS2 := Lib.hid (hs0.sees (Below.sees k2))
 have HLb := Lib.hid (show w.heap.size ≤ b6 from by rw [hb6]; exact hb1.size)
 have HRun := Lib.hid (show (St.first n).run pl [] = some (St.first n) from rfl)
 have HMs := Lib.hid (first_meas n)
 clear k2 hb1 hs0
 go_upto_region 4 with fail
 rw [← hW2, ← hb6]
 clear hW2 hb6
 go_loopw [5, 7] (fun vd vi wr => ∃ (xs : List Pk) (q : Nat) (s : St) (x1 x2 x3 x4 x5 : Value), q = xs.length ∧ q + s.meas ≤ 2 * n ∧ vi = .int .i64 q ∧ Below w.heap.size w wr ∧ wr.heap[b6]? = some (.cells #[x1, x2, x3, x4, x5] 62) ∧ IsSt wr (.agg #[x1, x2, x3, x4, x5]) n s ∧ (St.first n).run pl xs = some s ∧ wr.ownsRow w.heap.size 56 3 vd q (pkCells xs) ∧ ∀ x ∈ xs, I64ok x.h ∧ I64ok x.w) (fun _ vi _ => 20 - (intOf vi).toNat)
 case atStart => exact ⟨[], 0, St.first n, _, _, _, _, _, rfl, by rw [HMs.out]; omega, rfl, HB2.out, H62.out, HS2.out, HRun.out, World.ownsRow_nil _ _ _ _, fun x h => by cases h⟩
 case round =>
  obtain ⟨xs, q, s, x1, x2, x3, x4, x5, hq, hms, rfl, hbw, h6, hst, hrun, hown, hrng⟩ := hrel
  obtain ⟨wo, rfl⟩ : ∃ x, x = wr := ⟨wr, rfl⟩
  have HQ := Lib.hid hq
  have HMS := Lib.hid hms
  have HBW := Lib.hid hbw
  have H6 := Lib.hid h6
  have HST := Lib.hid hst
  have HRU := Lib.hid hrun
  have HOW := Lib.hid hown
  have HRN := Lib.hid hrng
  obtain ⟨AP, cP, rfl, hcP, _⟩ := own_slice hown
  have hq20 : decide ((q : Int) < 20) = true := by simp; omega
  have hq12 : q ≤ 12 := by omega
  have HEn := Lib.hid (ended29_any n _ s wo hst hn)
  clear hq hms hbw h6 hst hrun hown hrng
  obtain ⟨r0, r1, r2, r3, r4, _⟩ := cells5 H6.out
  go_wp2_with fail
  refine HEn.out.mono ?_
  rintro e w3 ⟨rfl, hb3⟩
  have HB3 := Lib.hid hb3
  clear r0 r1 r2 r3 r4 hb3
  cases hdn : s.done.all id with
  | true =>
   have HO := Lib.hid (show ∃ z, playP pl xs = some z from by
    unfold playP
    rw [HE.out.len, HRU.out]
    show ∃ z, s.outcome pl = some z
    unfold St.outcome
    rw [if_pos hdn]
    exact ⟨_, rfl⟩)
   clear hdn
   go_wp2_with fail
   go_ret
   obtain ⟨z, hz⟩ := HO.out
   exact ⟨⟨AP, q, cP, xs, z, rfl, ⟨HQ.out.symm, (Row.of_own HOW.out).below HB3.out, HRN.out⟩, hq12, hcP, hz⟩, bT HBW.out HB3.out⟩
  | false =>
   have HGo := Lib.hid (can_go HPg.out (by rw [HE.out.len]; exact HST.out.ok) hdn)
   clear hdn
   have H63 := Lib.hid (blk_below HB3.out H6.out)
   have HE3 := Lib.hid (HE.out.sees (Below.sees (bT HBW.out HB3.out)))
   have HST3 := Lib.hid (HST.out.sees (Below.sees HB3.out))
   go_upto_region 11 with fail
   go_loopw [9, 10] (fun vf vc wr => ∃ (cc fl : Nat) (F : List Pk), cc ≤ 16 ∧ vc = .int .i64 cc ∧ F = freeL pl s cc ∧ fl = F.length ∧ Below w3.heap.size w3 wr ∧ wr.ownsRow w3.heap.size 56 3 vf fl (pkCells F)) (fun _ vc _ => 16 - (intOf vc).toNat)
   case atStart => exact ⟨0, 0, [], by omega, rfl, rfl, rfl, bR w3, World.ownsRow_nil _ _ _ _⟩
   case round =>
    obtain ⟨cc, fl, F, hcc, rfl, hF, hfl, hbi, hof⟩ := hrel
    obtain ⟨wi, rfl⟩ : ∃ x, x = wr := ⟨wr, rfl⟩
    have hfl16 : fl ≤ 16 := by rw [hfl, hF]; exact Nat.le_trans (freeL_len pl s cc) hcc
    have HF := Lib.hid hF
    have HFl := Lib.hid hfl
    have HBI := Lib.hid hbi
    have HOF := Lib.hid hof
    obtain ⟨AF, cF, rfl, _, _⟩ := own_slice hof
    clear hF hfl hbi hof
    by_cases hlt : cc < 16
    ·
     have hlb : decide ((cc : Int) < 16) = true := by simp; omega
     have ht4 : Int.tmod (cc : Int) 4 = ((cc % 4 : Nat) : Int) := (Int.ofNat_tmod cc 4).symm
     have hd4 : Int.tdiv (cc : Int) 4 = ((cc / 4 : Nat) : Int) := (Int.ofNat_tdiv cc 4).symm
     have hsw : IntKind.i64.wrap (((cc / 4 : Nat) : Int) - 1) = ((cc / 4 : Nat) : Int) - 1 := IntWalk.i64_in _ (by omega)
     go_upto_region 14 with fail
     obtain ⟨xh, hxh⟩ : ∃ z, z = (cc : Int) % 4 := ⟨_, rfl⟩
     obtain ⟨xd, hxd⟩ : ∃ z, z = decide (4 ≤ (cc : Int)) := ⟨_, rfl⟩
     obtain ⟨xw, hxw⟩ : ∃ z, z = max ((cc : Int) / 4 - 1) 0 := ⟨_, rfl⟩
     rw [← hxh, ← hxd, ← hxw]
     have HX := Lib.hid (show candC cc = ⟨xh, xd, xw⟩ from by
      unfold candC
      rw [hxh, hxd, hxw]
      congr 1
      ·
       simp
       omega
      ·
       omega)
     obtain ⟨b11, hb11⟩ : ∃ b, b = wi.heap.size := ⟨_, rfl⟩
     obtain ⟨W4, hW4⟩ : ∃ X, X = wi.alloc (.cells #[.int .i64 xh, .bool xd, .int .i64 xw] 56) := ⟨_, rfl⟩
     rw [← hW4, ← hb11]
     have k4 : Below wi.heap.size wi W4 := hW4 ▸ bA (bR wi)
     have HB4 := Lib.hid (bT HBI.out k4)
     have H114 := Lib.hid (show W4.heap[b11]? = some (.cells #[.int .i64 xh, .bool xd, .int .i64 xw] 56) by rw [hW4, hb11]; exact heap_alloc_new wi _)
     have HOF4 := Lib.hid (own_tk (T := []) HOF.out (Tk.below k4) (by decide))
     have HNx := Lib.hid (next30_any A n c pl (.agg #[x1, x2, x3, x4, x5]) s (candC cc) W4 HPg.out (HE3.out.sees (Below.sees HB4.out)) (HST3.out.sees (Below.sees HB4.out)))
     have hpv : pickV (candC cc) = .agg #[.int .i64 xh, .bool xd, .int .i64 xw] := by rw [HX.out]; rfl
     rw [hpv] at HNx
     clear hxh hxd hxw hb11 hW4 k4 hpv ht4 hd4 hsw
     obtain ⟨r0, r1, r2, r3, r4, _⟩ := cells5 (blk_below HB4.out H63.out)
     obtain ⟨p0, p1, p2, _⟩ := cells3 H114.out
     go_wp2_with fail
     refine HNx.out.mono ?_
     rintro e w5 ⟨hnx, hb5⟩
     obtain ⟨a1, m1, d1, a2, m2, d2, a3, m3, d3, a4, m4, d4, a5, m5, d5, rfl, _⟩ := hnx.form
     obtain ⟨qb, hqb⟩ : ∃ b, b = (s.next pl (candC cc)).isSome := ⟨_, rfl⟩
     rw [← hqb]
     have HFS := Lib.hid (show freeL pl s (cc + 1) = F ++ if qb then [candC cc] else [] from by rw [freeL_succ, HF.out, hqb])
     obtain ⟨W6, hW6⟩ : ∃ X, X = w5.alloc (.cells #[.slice a1 m1 d1, .slice a2 m2 d2, .slice a3 m3 d3, .slice a4 m4 d4, .slice a5 m5 d5] 62) := ⟨_, rfl⟩
     have k6 : Below W4.heap.size W4 W6 := hW6 ▸ bT hb5 (bA (bR w5))
     have HB6 := Lib.hid (bT HB4.out k6)
     have H116 := Lib.hid (blk_below k6 H114.out)
     have HOF6 := Lib.hid (own_tk (T := []) HOF4.out (Tk.below k6) (by decide))
     clear hnx hqb hb5 k6 r0 r1 r2 r3 r4 p0 p1 p2
     go_upto_region 15 with fail
     rw [← hW6]
     clear hW6
     cases qb with
     | false =>
      have HF1 := Lib.hid (show freeL pl s (cc + 1) = F from by rw [HFS.out]; simp)
      go_wp2_with fail
      go_roundw
      case rel => exact ⟨cc + 1, fl, F, by omega, by go_num, HF1.out.symm, HFl.out, HB6.out, HOF6.out⟩
      case measure => simp [intOf]; omega
     | true =>
      have HF1 := Lib.hid (show freeL pl s (cc + 1) = F ++ [candC cc] from HFS.out)
      obtain ⟨p0, p1, p2, _⟩ := cells3 H116.out
      have HNw := Lib.hid (heap_alloc_new W6 (.cells #[.int .i64 xh, .bool xd, .int .i64 xw] 56))
      have kA : Below W6.heap.size W6 (W6.alloc (.cells #[.int .i64 xh, .bool xd, .int .i64 xw] 56)) := bA (bR W6)
      have HOl := Lib.hid (own_tk (T := []) HOF6.out (Tk.below kA) (by decide))
      have HBl := Lib.hid (bT HB6.out kA)
      have HPe := Lib.hid (show pkCells (F ++ [candC cc]) = pkCells F ++ [.int .i64 xh, .bool xd, .int .i64 xw] from by rw [pkCells_append, HX.out]; rfl)
      clear kA
      go_upto_region 16 with fail
      go_wp2_with (
       at_builtin
       refine wpList_append_rd _ rfl (.tmp 46) (.tmp 48) 27 rfl w3.heap.size 56 i0 _ 3 24 Tryz.underlying27 hi0 hz0 hz1 hz2 rfl (by decide) (.slice AF fl cF) fl (pkCells F) rfl HOl.out (some ⟨W6.heap.size, 0, none⟩) 1 1 [.int .i64 xh, .bool xd, .int .i64 xw] rfl ⟨rfl, fun _ => ⟨W6.heap.size, 0, rfl, blk_lt HNw.out, fun j u hu => three_cell HNw.out hu⟩⟩ (by simp [Value.oneCell']) (by unfold maxLen; omega) (by omega) HBl.out.size ?_
       intro v7 w7 hown7 hg7
       obtain ⟨A7, c7, rfl, _, _⟩ := own_slice hown7
       have HO7 := Lib.hid (show w7.ownsRow w3.heap.size 56 3 (.slice A7 (fl + 1) c7) (fl + 1) (pkCells (F ++ [candC cc])) from by rw [HPe.out]; exact hown7)
       have HB7 := Lib.hid (HBl.out.grown hg7 HBl.out.size (fun r e => (HOl.out.lt r e).1))
       clear hown7 hg7 p0 p1 p2)
      go_roundw
      case rel => exact ⟨cc + 1, fl + 1, F ++ [candC cc], by omega, by go_num, HF1.out.symm, by rw [List.length_append, ← HFl.out]; rfl, HB7.out, HO7.out⟩
      case measure => simp [intOf]; omega
    ·
     have hlb : decide ((cc : Int) < 16) = false := by simp; omega
     have hc16 : cc = 16 := by omega
     have HF16 := Lib.hid (show F = freeL pl s 16 from by rw [HF.out, hc16])
     have hfl0 : 0 < fl := by
      obtain ⟨c0, hc0, hs0⟩ := HGo.out
      have : candC c0 ∈ F := by
       rw [HF16.out]
       unfold freeL
       rw [List.mem_filter, List.mem_map]
       exact ⟨⟨c0, List.mem_range.2 hc0, rfl⟩, hs0⟩
      rw [HFl.out]
      exact List.length_pos_of_mem this
     have hflb : ((fl : Int) == 0) = false := by simp; omega
     clear hc16
     go_upto_if 57 with fail
     go_cut [14] from 17 to 82 (fun vj wx => ∃ j : Nat, vj = .int .i64 j ∧ j < fl ∧ wx = wi)
     case first =>
      by_cases hqm : q < m
      ·
       have hqb : decide ((q : Int) < (m : Int)) = true := by simp; omega
       have hqb2 : decide (q < m) = true := by simpa using hqm
       obtain ⟨g, o, zx, zy, zz, rfl, hc0, _, _, hzx, _, _⟩ := (HZ.out.below (bT HBW.out (bT HB3.out HBI.out))).at_ hqm
       have HPk := Lib.hid (pick24_any zx fl wi (by omega) hzx.1 hzx.2)
       have h0 : 0 ≤ pk zx fl := pk_lo zx fl (by omega)
       have h1 : pk zx fl < fl := pk_hi zx fl (by omega)
       obtain ⟨j, hj⟩ : ∃ j : Nat, pk zx fl = (j : Int) := ⟨(pk zx fl).toNat, by omega⟩
       rw [hj] at HPk h1
       have hqi : (q : Int) < (m : Int) := by omega
       have hq0 : decide ((q : Int) < 0) = false := by simp
       clear h0 hj hzx
       go_wp2_with fail
       refine HPk.out.mono ?_
       rintro e w9 ⟨rfl, rfl⟩
       go_wp2_with fail
       go_meet
       exact ⟨j, rfl, by omega, rfl⟩
      ·
       have hqb : decide ((q : Int) < (m : Int)) = false := by simp; omega
       have hqb2 : decide (q < m) = false := by simpa using hqm
       go_wp2_with fail
       go_meet
       exact ⟨0, rfl, hfl0, rfl⟩
     case rest =>
      obtain ⟨j, rfl, hj, rfl⟩ := hcut
      have hFj : ∃ x, F[j]? = some x := ⟨_, List.getElem?_eq_getElem (by rw [← HFl.out]; exact hj)⟩
      obtain ⟨x, hx⟩ := hFj
      obtain ⟨hsm, c0, hc0, hxc⟩ := freeL_mem (show x ∈ freeL pl s 16 from by rw [← HF16.out]; exact List.mem_of_getElem? hx)
      obtain ⟨s1, hs1⟩ := Option.isSome_iff_exists.1 hsm
      have HS1 := Lib.hid hs1
      have HXR := Lib.hid (show I64ok x.h ∧ I64ok x.w from by
       have := candC_rng c0 hc0
       rw [← hxc] at this
       exact ⟨⟨by omega, by omega⟩, ⟨by omega, by omega⟩⟩)
      obtain ⟨xh, hxh⟩ : ∃ z, z = x.h := ⟨_, rfl⟩
      obtain ⟨xd, hxd⟩ : ∃ z, z = x.d := ⟨_, rfl⟩
      obtain ⟨xw, hxw⟩ : ∃ z, z = x.w := ⟨_, rfl⟩
      have HPv := Lib.hid (show pickV x = .agg #[.int .i64 xh, .bool xd, .int .i64 xw] from by rw [hxh, hxd, hxw]; rfl)
      obtain ⟨gF, capF, eF, hgF, _⟩ := own_form HOF.out hfl0
      injection eF with eF1 _ eF3
      subst eF1 eF3
      have hpl : (pkCells F).length = fl * 3 := HOF.out.1
      have hcl : ∀ wx : World, wx.ownsRow w3.heap.size 56 3 (.slice (some ⟨gF, 0, none⟩) fl cF) fl (pkCells F) → wx.cell? ⟨gF, j * 3, none⟩ = some (.int .i64 xh) ∧ wx.cell? ⟨gF, j * 3 + 1, none⟩ = some (.bool xd) ∧ wx.cell? ⟨gF, j * 3 + 2, none⟩ = some (.int .i64 xw) := fun wx ho => by
       obtain ⟨q0, q1, q2⟩ := pk_at F j x hx
       rw [← hxh] at q0
       rw [← hxd] at q1
       rw [← hxw] at q2
       exact ⟨(ho.cellAt (j * 3) (by omega)).trans q0, (ho.cellAt (j * 3 + 1) (by omega)).trans q1, (ho.cellAt (j * 3 + 2) (by omega)).trans q2⟩
      have HCl := Lib.hid hcl
      have HPx := Lib.hid (show pkCells (xs ++ [x]) = pkCells xs ++ [.int .i64 xh, .bool xd, .int .i64 xw] from by rw [pkCells_append, hxh, hxd, hxw]; rfl)
      have hj0 : decide ((j : Int) < 0) = false := by simp
      have hjf : (j : Int) < (fl : Int) := by omega
      have HBi := Lib.hid (bT HBW.out (bT HB3.out HBI.out))
      have hw3 : w.heap.size ≤ w3.heap.size := Nat.le_trans HBW.out.size HB3.out.size
      clear hx hsm hc0 hxc hs1 hxh hxd hxw hcl hpl hgF
      go_upto_region 22 with fail
      have hq : ∀ (k9 : Nat), k9 ≠ 10 → ∀ (l : Nat → Bool) (wx : World), (Below w.heap.size w wx ∧ (l 10 = false → wx.heap[b6]? = some (.cells #[x1, x2, x3, x4, x5] 62)) ∧ wx.ownsRow w.heap.size 56 3 (.slice AP q cP) q (pkCells xs) ∧ wx.ownsRow w3.heap.size 56 3 (.slice (some ⟨gF, 0, none⟩) fl cF) fl (pkCells F) ∧ IsEvs wx A n c pl ∧ IsSt wx (.agg #[x1, x2, x3, x4, x5]) n s) → (Below w.heap.size w wx ∧ ((decide (10 = k9) || l 10) = false → wx.heap[b6]? = some (.cells #[x1, x2, x3, x4, x5] 62)) ∧ wx.ownsRow w.heap.size 56 3 (.slice AP q cP) q (pkCells xs) ∧ wx.ownsRow w3.heap.size 56 3 (.slice (some ⟨gF, 0, none⟩) fl cF) fl (pkCells F) ∧ IsEvs wx A n c pl ∧ IsSt wx (.agg #[x1, x2, x3, x4, x5]) n s) := fun k9 h7 l wx h => ⟨h.1, fun hl => h.2.1 (Bool.or_eq_false_iff.1 hl).2, h.2.2⟩
      have rr : ∀ {T : List TypeId} (wx : World), Tk T wx wx := fun wx => Tk.refl _ wx
      have nt : ∀ (i e : Nat), e ≠ 62 → e ∉ (if i = 10 then [62] else [] : List TypeId) := fun i e h => by
       split
       ·
        simpa using h
       ·
        simp
      refine wp_region_det (by kernel_rfl) (fun f => (⟨#[Value.slice A n c, Value.slice B m d, undef, undef, u4, Value.slice AP q cP, Value.pointer (some ⟨b6, 0, none⟩), .int .i64 (q : Int), Value.bool false, Value.slice (some ⟨gF, 0, none⟩) fl cF, .int .i64 (cc : Int), u11, u12, u13, .int .i64 (j : Int), Value.slice A n c, Value.agg #[Value.slice A1 4 c1, Value.slice A2 4 c2, Value.slice A3 4 c3, Value.slice AD n cD, Value.slice AT n cT], u17, u18, u19, u20, u21, u22, u23, u24, u25, u26, u27, u28, u29, u30, u31, u32, u33, u34, u35, u36, u37, u38, u39, u40, u41, u42, u43, u44, u45, u46, u47, u48, u49, u50, u51, u52, u53, u54, u55, u56, u57, u58, u59, u60, u61, u62, u63, u64, u65, f 7, f 0, f 1, f 2, f 3, f 4, f 5, f 6, f 8, f 9, u76, u77, u78, u79, u80, u81, u82, undef], []⟩ : Act)) (fun (iv : Nat) (lv : Nat → Bool) (fv : Nat → Value) (wx : World) => match iv with | 0 => fv 0 = .slice A n c | 1 => fv 1 = .agg #[x1, x2, x3, x4, x5] | 2 => fv 2 = .slice (some ⟨gF, 0, none⟩) fl cF | 3 => fv 3 = .int .i64 (j : Int) | 4 => fv 4 = .pointer (some ⟨gF, j * 3, none⟩) | 5 => fv 5 = .agg #[.int .i64 xh, .bool xd, .int .i64 xw] | 6 => ∃ ga1 gm1 gd1 ga2 gm2 gd2 ga3 gm3 gd3 ga4 gm4 gd4 ga5 gm5 gd5, (fv 6) = .tuple #[.agg #[.slice ga1 gm1 gd1, .slice ga2 gm2 gd2, .slice ga3 gm3 gd3, .slice ga4 gm4 gd4, .slice ga5 gm5 gd5], .bool true] ∧ IsSt wx (.agg #[.slice ga1 gm1 gd1, .slice ga2 gm2 gd2, .slice ga3 gm3 gd3, .slice ga4 gm4 gd4, .slice ga5 gm5 gd5]) n s1 | 7 => ∃ x, (fv 7) = .tuple #[x, .bool true] ∧ (fv 6) = .tuple #[x, .bool true] | 8 => ∃ x, (fv 7) = .tuple #[x, .bool true] ∧ (fv 8) = x | 9 => fv 9 = .bool true | 10 => ∃ ga1 gm1 gd1 ga2 gm2 gd2 ga3 gm3 gd3 ga4 gm4 gd4 ga5 gm5 gd5, (fv 8) = .agg #[.slice ga1 gm1 gd1, .slice ga2 gm2 gd2, .slice ga3 gm3 gd3, .slice ga4 gm4 gd4, .slice ga5 gm5 gd5] ∧ wx.heap[b6]? = some (.cells #[.slice ga1 gm1 gd1, .slice ga2 gm2 gd2, .slice ga3 gm3 gd3, .slice ga4 gm4 gd4, .slice ga5 gm5 gd5] 62) ∧ IsSt wx (.agg #[.slice ga1 gm1 gd1, .slice ga2 gm2 gd2, .slice ga3 gm3 gd3, .slice ga4 gm4 gd4, .slice ga5 gm5 gd5]) n s1 | _ => True) (fun lv wx => Below w.heap.size w wx ∧ (lv 10 = false → wx.heap[b6]? = some (.cells #[x1, x2, x3, x4, x5] 62)) ∧ wx.ownsRow w.heap.size 56 3 (.slice AP q cP) q (pkCells xs) ∧ wx.ownsRow w3.heap.size 56 3 (.slice (some ⟨gF, 0, none⟩) fl cF) fl (pkCells F) ∧ IsEvs wx A n c pl ∧ IsSt wx (.agg #[x1, x2, x3, x4, x5]) n s) (fun i w1 w2 => Tk (if i = 10 then [62] else []) w1 w2) (by kernel_rfl) (fun k => match k with | 0 => u67 | 1 => u68 | 2 => u69 | 3 => u70 | 4 => u71 | 5 => u72 | 6 => u73 | 7 => u66 | 8 => u74 | 9 => u75 | _ => undef) rfl ?keep ⟨bD HBi.out, fun _ => blk_below (bD HBI.out) H63.out, own_tk (T := []) HOW.out (Tk.below (bT HB3.out (bD HBI.out))) (by decide), own_tk (T := []) HOF.out (Tk.below (bD (bR wc))) (by decide), HE3.out.sees (Below.sees (bD HBI.out)), HST3.out.sees (Below.sees (bD HBI.out))⟩ ?steps ?fin
      case keep =>
       intro iv j hij hd l f f' w1 w2 hf hR
       match j with
       | 0 | 1 | 2 | 3 | 4 | 5 | 9 => exact fun h => (hf _ (Ne.symm hij)).trans h
       | 6 =>
        intro h
        have h : ∃ ga1 gm1 gd1 ga2 gm2 gd2 ga3 gm3 gd3 ga4 gm4 gd4 ga5 gm5 gd5, (f 6) = .tuple #[.agg #[.slice ga1 gm1 gd1, .slice ga2 gm2 gd2, .slice ga3 gm3 gd3, .slice ga4 gm4 gd4, .slice ga5 gm5 gd5], .bool true] ∧ IsSt w1 (.agg #[.slice ga1 gm1 gd1, .slice ga2 gm2 gd2, .slice ga3 gm3 gd3, .slice ga4 gm4 gd4, .slice ga5 gm5 gd5]) n s1 := h
        show ∃ ga1 gm1 gd1 ga2 gm2 gd2 ga3 gm3 gd3 ga4 gm4 gd4 ga5 gm5 gd5, (f' 6) = .tuple #[.agg #[.slice ga1 gm1 gd1, .slice ga2 gm2 gd2, .slice ga3 gm3 gd3, .slice ga4 gm4 gd4, .slice ga5 gm5 gd5], .bool true] ∧ IsSt w2 (.agg #[.slice ga1 gm1 gd1, .slice ga2 gm2 gd2, .slice ga3 gm3 gd3, .slice ga4 gm4 gd4, .slice ga5 gm5 gd5]) n s1
        rw [hf 6 (Ne.symm hij)]
        exact h.elim fun ga1 h => h.elim fun gm1 h => h.elim fun gd1 h => h.elim fun ga2 h => h.elim fun gm2 h => h.elim fun gd2 h => h.elim fun ga3 h => h.elim fun gm3 h => h.elim fun gd3 h => h.elim fun ga4 h => h.elim fun gm4 h => h.elim fun gd4 h => h.elim fun ga5 h => h.elim fun gm5 h => h.elim fun gd5 h => ⟨ga1, gm1, gd1, ga2, gm2, gd2, ga3, gm3, gd3, ga4, gm4, gd4, ga5, gm5, gd5, h.1, h.2.tk hR (nt _ 3 (by decide)) (nt _ 87 (by decide)) (nt _ 128 (by decide)) (nt _ 4 (by decide))⟩
       | 7 =>
        intro h
        have h : ∃ x, (f 7) = .tuple #[x, .bool true] ∧ (f 6) = .tuple #[x, .bool true] := h
        show ∃ x, (f' 7) = .tuple #[x, .bool true] ∧ (f' 6) = .tuple #[x, .bool true]
        rw [hf 7 (Ne.symm hij), hf 6 (fun e => hd (e ▸ of_decide_eq_true (by kernel_rfl)))]
        exact h
       | 8 =>
        intro h
        have h : ∃ x, (f 7) = .tuple #[x, .bool true] ∧ (f 8) = x := h
        show ∃ x, (f' 7) = .tuple #[x, .bool true] ∧ (f' 8) = x
        rw [hf 8 (Ne.symm hij), hf 7 (fun e => hd (e ▸ of_decide_eq_true (by kernel_rfl)))]
        exact h
       | 10 =>
        intro h
        have h : ∃ ga1 gm1 gd1 ga2 gm2 gd2 ga3 gm3 gd3 ga4 gm4 gd4 ga5 gm5 gd5, (f 8) = .agg #[.slice ga1 gm1 gd1, .slice ga2 gm2 gd2, .slice ga3 gm3 gd3, .slice ga4 gm4 gd4, .slice ga5 gm5 gd5] ∧ w1.heap[b6]? = some (.cells #[.slice ga1 gm1 gd1, .slice ga2 gm2 gd2, .slice ga3 gm3 gd3, .slice ga4 gm4 gd4, .slice ga5 gm5 gd5] 62) ∧ IsSt w1 (.agg #[.slice ga1 gm1 gd1, .slice ga2 gm2 gd2, .slice ga3 gm3 gd3, .slice ga4 gm4 gd4, .slice ga5 gm5 gd5]) n s1 := h
        show ∃ ga1 gm1 gd1 ga2 gm2 gd2 ga3 gm3 gd3 ga4 gm4 gd4 ga5 gm5 gd5, (f' 8) = .agg #[.slice ga1 gm1 gd1, .slice ga2 gm2 gd2, .slice ga3 gm3 gd3, .slice ga4 gm4 gd4, .slice ga5 gm5 gd5] ∧ w2.heap[b6]? = some (.cells #[.slice ga1 gm1 gd1, .slice ga2 gm2 gd2, .slice ga3 gm3 gd3, .slice ga4 gm4 gd4, .slice ga5 gm5 gd5] 62) ∧ IsSt w2 (.agg #[.slice ga1 gm1 gd1, .slice ga2 gm2 gd2, .slice ga3 gm3 gd3, .slice ga4 gm4 gd4, .slice ga5 gm5 gd5]) n s1
        rw [hf 8 (fun e => hd (e ▸ of_decide_eq_true (by kernel_rfl)))]
        exact h.elim fun ga1 h => h.elim fun gm1 h => h.elim fun gd1 h => h.elim fun ga2 h => h.elim fun gm2 h => h.elim fun gd2 h => h.elim fun ga3 h => h.elim fun gm3 h => h.elim fun gd3 h => h.elim fun ga4 h => h.elim fun gm4 h => h.elim fun gd4 h => h.elim fun ga5 h => h.elim fun gm5 h => h.elim fun gd5 h => ⟨ga1, gm1, gd1, ga2, gm2, gd2, ga3, gm3, gd3, ga4, gm4, gd4, ga5, gm5, gd5, h.1, Tk.at_ hR (by rw [if_neg (fun e => hij e)]; exact List.not_mem_nil) h.2.1, h.2.2.tk hR (nt _ 3 (by decide)) (nt _ 87 (by decide)) (nt _ 128 (by decide)) (nt _ 4 (by decide))⟩
       | _ + 11 => exact id
      case steps =>
       refine fun iv hiv => stepsOf_at (k := 0) (n := 11) ?_ iv (Nat.zero_le _) (by rw [Nat.zero_add]; exact hiv)
       refine sC 0 10 (at0) [] (by kernel_rfl) (fun _ _ => rfl) (fun f wq l hl hun hdn hS hd K' HK => ?_) ?_
       ·
        clear hd
        go_simp
        exact HK.out _ _ _ rfl rfl (hq 0 (by decide) l _ hS) (rr _)
       refine sC 1 9 (atS (at0)) [] (by kernel_rfl) (fun _ _ => rfl) (fun f wq l hl hun hdn hS hd K' HK => ?_) ?_
       ·
        clear hd
        obtain ⟨r0, r1, r2, r3, r4, _⟩ := cells5 (hS.2.1 (hun 10 (of_decide_eq_true (by kernel_rfl))))
        go_simp
        exact HK.out _ _ _ rfl rfl (hq 1 (by decide) l _ hS) (rr _)
       refine sC 2 8 (atS (atS (at0))) [] (by kernel_rfl) (fun _ _ => rfl) (fun f wq l hl hun hdn hS hd K' HK => ?_) ?_
       ·
        clear hd
        go_simp
        exact HK.out _ _ _ rfl rfl (hq 2 (by decide) l _ hS) (rr _)
       refine sC 3 7 (atS (atS (atS (at0)))) [] (by kernel_rfl) (fun _ _ => rfl) (fun f wq l hl hun hdn hS hd K' HK => ?_) ?_
       ·
        clear hd
        go_simp
        exact HK.out _ _ _ rfl rfl (hq 3 (by decide) l _ hS) (rr _)
       refine sC 4 6 (atS (atS (atS (atS (at0))))) [2, 3] (by kernel_rfl) (fun _ _ => rfl) (fun f wq l hl hun hdn hS hd K' HK => ?_) ?_
       ·
        obtain ⟨e2, e3, -⟩ := hd
        have e2 : f 2 = .slice (some ⟨gF, 0, none⟩) fl cF := e2
        have e3 : f 3 = .int .i64 (j : Int) := e3
        simp only [e2, e3]
        go_simp
        exact HK.out _ _ _ (by simp only [e2, e3]; rfl) rfl (hq 4 (by decide) l _ hS) (rr _)
       refine sC 5 5 (atS (atS (atS (atS (atS (at0)))))) [4] (by kernel_rfl) (fun _ _ => rfl) (fun f wq l hl hun hdn hS hd K' HK => ?_) ?_
       ·
        obtain ⟨e4, -⟩ := hd
        have e4 : f 4 = .pointer (some ⟨gF, j * 3, none⟩) := e4
        obtain ⟨r0, r1, r2⟩ := HCl.out wq hS.2.2.2.1
        simp only [e4]
        go_simp
        exact HK.out _ _ _ (by simp only [e4]; rfl) rfl (hq 5 (by decide) l _ hS) (rr _)
       refine sC 6 4 (atS (atS (atS (atS (atS (atS (at0))))))) [0, 1, 5] (by kernel_rfl) (fun _ _ => rfl) (fun f wq l hl hun hdn hS hd K' HK => ?_) ?_
       ·
        obtain ⟨e0, e1, e5, -⟩ := hd
        have e0 : f 0 = .slice A n c := e0
        have e1 : f 1 = .agg #[x1, x2, x3, x4, x5] := e1
        have e5 : f 5 = .agg #[.int .i64 xh, .bool xd, .int .i64 xw] := e5
        have HCz := Lib.hid (next30_any A n c pl (.agg #[x1, x2, x3, x4, x5]) s x wq HPg.out hS.2.2.2.2.1 hS.2.2.2.2.2)
        rw [HPv.out, HS1.out] at HCz
        have HS := Lib.hid hS
        clear hS
        simp only [e0, e1, e5]
        go_simp
        go_wp2_with fail
        refine HCz.out.mono ?_
        rintro e w9 ⟨hnx, hb9⟩
        obtain ⟨ga1, gm1, gd1, ga2, gm2, gd2, ga3, gm3, gd3, ga4, gm4, gd4, ga5, gm5, gd5, rfl, hy⟩ := hnx.form
        have hS := HS.out
        exact HK.out _ _ _ (by simp only [e0, e1, e5]; rfl) ⟨_, _, _, _, _, _, _, _, _, _, _, _, _, _, _, rfl, hy s1 rfl⟩ ⟨bT hS.1 hb9, fun hl => Tk.at_ (Tk.below (T := []) hb9) (by decide) (hS.2.1 (Bool.or_eq_false_iff.1 hl).2), own_tk hS.2.2.1 (Tk.below (T := []) hb9) (by decide), own_tk hS.2.2.2.1 (Tk.below (T := []) hb9) (by decide), hS.2.2.2.2.1.tk (Tk.below (T := []) hb9) (by decide), hS.2.2.2.2.2.tk (Tk.below (T := []) hb9) (by decide) (by decide) (by decide) (by decide)⟩ (Tk.below hb9)
       refine sC 7 3 (atS (atS (atS (atS (atS (atS (atS (at0)))))))) [6] (by kernel_rfl) (fun _ _ => rfl) (fun f wq l hl hun hdn hS hd K' HK => ?_) ?_
       ·
        obtain ⟨e6, -⟩ := hd
        have e6 : ∃ ga1 gm1 gd1 ga2 gm2 gd2 ga3 gm3 gd3 ga4 gm4 gd4 ga5 gm5 gd5, (f 6) = .tuple #[.agg #[.slice ga1 gm1 gd1, .slice ga2 gm2 gd2, .slice ga3 gm3 gd3, .slice ga4 gm4 gd4, .slice ga5 gm5 gd5], .bool true] ∧ IsSt wq (.agg #[.slice ga1 gm1 gd1, .slice ga2 gm2 gd2, .slice ga3 gm3 gd3, .slice ga4 gm4 gd4, .slice ga5 gm5 gd5]) n s1 := e6
        obtain ⟨ga1, gm1, gd1, ga2, gm2, gd2, ga3, gm3, gd3, ga4, gm4, gd4, ga5, gm5, gd5, h6, _⟩ := e6
        simp only [h6]
        go_simp
        exact HK.out _ _ _ (by simp only [h6]; rfl) ⟨_, rfl, h6⟩ (hq 7 (by decide) l _ hS) (rr _)
       refine sC 8 2 (atS (atS (atS (atS (atS (atS (atS (atS (at0))))))))) [7] (by kernel_rfl) (fun _ _ => rfl) (fun f wq l hl hun hdn hS hd K' HK => ?_) ?_
       ·
        obtain ⟨e7, -⟩ := hd
        have e7 : ∃ x, (f 7) = .tuple #[x, .bool true] ∧ (f 6) = .tuple #[x, .bool true] := e7
        obtain ⟨x7, h7, hz9⟩ := e7
        clear hz9
        simp only [h7]
        go_simp
        exact HK.out _ _ _ (by simp only [h7]; rfl) ⟨_, h7, rfl⟩ (hq 8 (by decide) l _ hS) (rr _)
       refine sC 9 1 (atS (atS (atS (atS (atS (atS (atS (atS (atS (at0)))))))))) [7] (by kernel_rfl) (fun _ _ => rfl) (fun f wq l hl hun hdn hS hd K' HK => ?_) ?_
       ·
        obtain ⟨e7, -⟩ := hd
        have e7 : ∃ x, (f 7) = .tuple #[x, .bool true] ∧ (f 6) = .tuple #[x, .bool true] := e7
        obtain ⟨x7, h7, hz9⟩ := e7
        clear hz9
        simp only [h7]
        go_simp
        exact HK.out _ _ _ (by simp only [h7]; rfl) rfl (hq 9 (by decide) l _ hS) (rr _)
       refine sC 10 0 (atS (atS (atS (atS (atS (atS (atS (atS (atS (atS (at0))))))))))) [6, 7, 8] (by kernel_rfl) (fun _ _ => rfl) (fun f wq l hl hun hdn hS hd K' HK => ?_) ?_
       ·
        obtain ⟨e6, e7, e8, -⟩ := hd
        have e6 : ∃ ga1 gm1 gd1 ga2 gm2 gd2 ga3 gm3 gd3 ga4 gm4 gd4 ga5 gm5 gd5, (f 6) = .tuple #[.agg #[.slice ga1 gm1 gd1, .slice ga2 gm2 gd2, .slice ga3 gm3 gd3, .slice ga4 gm4 gd4, .slice ga5 gm5 gd5], .bool true] ∧ IsSt wq (.agg #[.slice ga1 gm1 gd1, .slice ga2 gm2 gd2, .slice ga3 gm3 gd3, .slice ga4 gm4 gd4, .slice ga5 gm5 gd5]) n s1 := e6
        have e7 : ∃ x, (f 7) = .tuple #[x, .bool true] ∧ (f 6) = .tuple #[x, .bool true] := e7
        have e8 : ∃ x, (f 7) = .tuple #[x, .bool true] ∧ (f 8) = x := e8
        obtain ⟨ga1, gm1, gd1, ga2, gm2, gd2, ga3, gm3, gd3, ga4, gm4, gd4, ga5, gm5, gd5, h6, hy⟩ := e6
        obtain ⟨x7, h7, hz7⟩ := e7
        obtain ⟨x8, hz8, h8⟩ := e8
        rw [h6] at hz7
        rw [h7] at hz8
        obtain rfl : x7 = .agg #[.slice ga1 gm1 gd1, .slice ga2 gm2 gd2, .slice ga3 gm3 gd3, .slice ga4 gm4 gd4, .slice ga5 gm5 gd5] := by injection hz7 with hz7; simpa using hz7.symm
        obtain rfl : x8 = .agg #[.slice ga1 gm1 gd1, .slice ga2 gm2 gd2, .slice ga3 gm3 gd3, .slice ga4 gm4 gd4, .slice ga5 gm5 gd5] := by injection hz8 with hz8; simpa using hz8.symm
        clear hz7 hz8
        have hx := hS.2.1 hl
        obtain ⟨r0, r1, r2, r3, r4, r5, r6, r7, r8, r9⟩ := cells5 hx
        have HXb := Lib.hid hx
        have HY := Lib.hid hy
        have HS := Lib.hid hS
        clear hS hx hy
        simp only [h6, h7, h8]
        go_simp
        have hS := HS.out
        have hk := Tk.set5 (x' := .slice ga1 gm1 gd1) (y' := .slice ga2 gm2 gd2) (z' := .slice ga3 gm3 gd3) (u' := .slice ga4 gm4 gd4) (v' := .slice ga5 gm5 gd5) HXb.out
        exact HK.out undef _ _ (by simp only [h6, h7, h8]; rfl) ⟨_, _, _, _, _, _, _, _, _, _, _, _, _, _, _, h8, set5 HXb.out, HY.out.tk hk (by decide) (by decide) (by decide) (by decide)⟩ ⟨bS5 hS.1 HLb.out, fun hl => absurd hl (by simp), own_tk hS.2.2.1 hk (by decide), own_tk hS.2.2.2.1 hk (by decide), hS.2.2.2.2.1.tk hk (by decide), hS.2.2.2.2.2.tk hk (by decide) (by decide) (by decide) (by decide)⟩ hk
       exact trivial
      case fin =>
       intro fo wz lo hl hall hS
       have a6 : ∃ ga1 gm1 gd1 ga2 gm2 gd2 ga3 gm3 gd3 ga4 gm4 gd4 ga5 gm5 gd5, (fo 6) = .tuple #[.agg #[.slice ga1 gm1 gd1, .slice ga2 gm2 gd2, .slice ga3 gm3 gd3, .slice ga4 gm4 gd4, .slice ga5 gm5 gd5], .bool true] ∧ IsSt wz (.agg #[.slice ga1 gm1 gd1, .slice ga2 gm2 gd2, .slice ga3 gm3 gd3, .slice ga4 gm4 gd4, .slice ga5 gm5 gd5]) n s1 := hall 6 (by decide)
       have a7 : ∃ x, (fo 7) = .tuple #[x, .bool true] ∧ (fo 6) = .tuple #[x, .bool true] := hall 7 (by decide)
       have a10 : ∃ ga1 gm1 gd1 ga2 gm2 gd2 ga3 gm3 gd3 ga4 gm4 gd4 ga5 gm5 gd5, (fo 8) = .agg #[.slice ga1 gm1 gd1, .slice ga2 gm2 gd2, .slice ga3 gm3 gd3, .slice ga4 gm4 gd4, .slice ga5 gm5 gd5] ∧ wz.heap[b6]? = some (.cells #[.slice ga1 gm1 gd1, .slice ga2 gm2 gd2, .slice ga3 gm3 gd3, .slice ga4 gm4 gd4, .slice ga5 gm5 gd5] 62) ∧ IsSt wz (.agg #[.slice ga1 gm1 gd1, .slice ga2 gm2 gd2, .slice ga3 gm3 gd3, .slice ga4 gm4 gd4, .slice ga5 gm5 gd5]) n s1 := hall 10 (by decide)
       clear hall
       obtain ⟨ga1, gm1, gd1, ga2, gm2, gd2, ga3, gm3, gd3, ga4, gm4, gd4, ga5, gm5, gd5, h8, hblk, hy⟩ := a10
       obtain ⟨_, _, _, _, _, _, _, _, _, _, _, _, _, _, _, h6, _⟩ := a6
       obtain ⟨x7, h7, _⟩ := a7
       simp only [h6, h7, h8]
       have H6y := Lib.hid hblk
       have HY := Lib.hid hy
       have HSz := Lib.hid hS
       clear h6 h7 h8 hblk hy hS hq rr nt hl
       obtain ⟨WE, rfl⟩ : ∃ x, x = wz := ⟨wz, rfl⟩
       obtain ⟨r0, r1, r2⟩ := HCl.out WE HSz.out.2.2.2.1
       have HNw := Lib.hid (heap_alloc_new WE (.cells #[.int .i64 xh, .bool xd, .int .i64 xw] 56))
       have kA : Below WE.heap.size WE (WE.alloc (.cells #[.int .i64 xh, .bool xd, .int .i64 xw] 56)) := bA (bR WE)
       have HOl := Lib.hid (own_tk (T := []) HSz.out.2.2.1 (Tk.below kA) (by decide))
       have HBl := Lib.hid (bT HSz.out.1 kA)
       have H6l := Lib.hid (blk_below kA H6y.out)
       have HYl := Lib.hid (HY.out.sees (Below.sees kA))
       clear kA
       go_upto_region 23 with fail
       go_wp2_with (
        at_builtin
        refine wpList_append_rd _ rfl (.tmp 76) (.tmp 81) 27 rfl w.heap.size 56 i0 _ 3 24 Tryz.underlying27 hi0 hz0 hz1 hz2 rfl (by decide) (.slice AP q cP) q (pkCells xs) rfl HOl.out (some ⟨WE.heap.size, 0, none⟩) 1 1 [.int .i64 xh, .bool xd, .int .i64 xw] rfl ⟨rfl, fun _ => ⟨WE.heap.size, 0, rfl, blk_lt HNw.out, fun j u hu => three_cell HNw.out hu⟩⟩ (by simp [Value.oneCell']) (by unfold maxLen; omega) (by omega) HBl.out.size ?_
        intro v7 w7 hown7 hg7
        obtain ⟨A7, c7, rfl, _, _⟩ := own_slice hown7
        have HO7 := Lib.hid (show w7.ownsRow w.heap.size 56 3 (.slice A7 (q + 1) c7) (q + 1) (pkCells (xs ++ [x])) from by rw [HPx.out]; exact hown7)
        have htk := tk_grown HOl.out hg7
        have HB7 := Lib.hid (HBl.out.grown hg7 HBl.out.size (fun r e => (HOl.out.lt r e).1))
        have H67 := Lib.hid (htk.at_ (by decide) H6l.out)
        have HY7 := Lib.hid (HYl.out.tk htk (by decide) (by decide) (by decide) (by decide))
        clear hown7 hg7 r0 r1 r2 htk)
       go_roundw
       case rel =>
        have hmn := next_meas HS1.out
        have hms := HMS.out
        exact ⟨xs ++ [x], q + 1, s1, _, _, _, _, _, by rw [List.length_append, ← HQ.out]; rfl, by omega, by go_num, HB7.out, H67.out, HY7.out, by rw [run_snoc, HRU.out]; exact HS1.out, HO7.out, fun y hy => by
         rcases List.mem_append.1 hy with h | h
         ·
          exact HRN.out y h
         ·
          rw [List.mem_singleton.1 h]
          exact HXR.out⟩
       case measure => simp [intOf]; omega
end Go.Proofs.YtnigadeohmlpiaaGreatDoor
