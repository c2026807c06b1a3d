/- Contracts of the document's own functions: the head of an image as a text, its sum, its print. No condition of ours. -/
import Derived.Test.YtgajlhejefjhhaaGreatDoorT53
import Derived.Deep.DeepCutAuto
namespace Go.Proofs.YtgajlhejefjhhaaGreatDoor
open Go.RowKit

theorem refW_len (zs : List Int) : ∀ k, (refW zs k).length = 9 * k
  | 0 => rfl
  | k + 1 => by
    rw [refW_succ, List.length_append, refW_len zs k]
    simp [digN_length]
    omega

set_option maxHeartbeats 4000000 in
set_option maxRecDepth 100000 in
theorem refHead_any (A1 : Option Addr) (n1 c1 : Nat) (A2 : Option Addr) (n2 c2 : Nat) (m : Img) (w : World) (h : IsImg w A1 n1 A2 n2 m) (hr : m.right = true) :
    Calls Tryz.prog 28 #[.agg #[.slice A1 n1 c1, .int .i64 m.mem, .slice A2 n2 c2]] w fun e w' => e = .returned (.string (str m.head)) ∧ Below w.heap.size w w' := by
  obtain ⟨a, ha⟩ : ∃ a, a = m.mem := ⟨_, rfl⟩
  have hg := Img.good hr
  have hlw := h.r1.int_len
  have hls := h.r2.sym_len
  have hB := bA (o := .cells #[.slice A1 n1 c1, .int .i64 a, .slice A2 n2 c2] 25) (bR w)
  have H := Lib.hid (h.below hB)
  have HN := Lib.hid (box_new w A1 n1 c1 a A2 n2 c2)
  have HB := Lib.hid hB
  have HG := Lib.hid hg
  have HD := Lib.hid (fun w' => refDec_any a w' (ha ▸ hg.mem.1) (ha ▸ hg.mem.2))
  have hil := itoa_small m.mem hg.mem.1 hg.mem.2
  have hn1 : n1 ≤ 65536 := hlw ▸ hg.nwords
  have hn2 : n2 ≤ 1000 := hls ▸ hg.nsyms
  rw [← ha] at hil ⊢
  obtain ⟨q0, hq0⟩ : ∃ q0, q0 = Lib.itoa a := ⟨_, rfl⟩
  rw [← hq0] at hil HD
  obtain ⟨q1, hq1⟩ : ∃ q1, q1 = ([105, 109, 97, 103, 101, 32] : List UInt8) ++ q0 := ⟨_, rfl⟩
  obtain ⟨q2, hq2⟩ : ∃ q2, q2 = q1 ++ [10] := ⟨_, rfl⟩
  have hl1 : q1.length ≤ 10 := by rw [hq1, List.length_append]; simp; omega
  have hl2 : q2.length ≤ 11 := by rw [hq2, List.length_append]; simp; omega
  have cat1 := cat_at hq1 (by omega)
  have cat2 := cat_at hq2 (by omega)
  have HQ := Lib.hid (show q2 = headOf m.mem by rw [hq2, hq1, hq0, ha]; rfl)
  have HLw := Lib.hid hlw
  have HLs := Lib.hid hls
  have HHd := Lib.hid (show m.head = q2 ++ m.syms.flatMap symLine ++ [99, 111, 100, 101, 10] ++ refW m.words n1 by
    rw [refW_pieces n1 m.words hlw, HQ.out, ← hlw]
    rfl)
  clear hB h hr hg hlw hls hq0 hq1 hq2 ha
  go_enter Tryz.func28, Tryz.ntmps28
  obtain ⟨r0, r1, r2, _⟩ := cells3 HN.out
  go_wp2_with fail
  refine (HD.out _).mono ?_
  rintro e w1 ⟨rfl, hb1⟩
  have HB1 := Lib.hid (bT HB.out hb1)
  have H1 := Lib.hid (H.out.below hb1)
  have HN1 := Lib.hid (box_below HN.out hb1)
  clear hb1 r0 r1 r2 HD
  go_wp2_with fail
  clear cat1 cat2
  go_loopw [3, 4] (fun vo vi wr => ∃ k : Nat, ∃ out : List UInt8, k ≤ n2 ∧ vi = .int .i64 k ∧ vo = .string (str out) ∧ out = q2 ++ (m.syms.take k).flatMap symLine ∧ out.length ≤ 11 + 50 * k ∧ Below w1.heap.size w1 wr) (fun _ vi _ => n2 - (intOf vi).toNat)
  case atStart => exact ⟨0, q2, by omega, rfl, rfl, by simp, by omega, bR w1⟩
  case round =>
    obtain ⟨k, out, hk, rfl, rfl, hout, hol, hbr⟩ := hrel
    obtain ⟨w2, rfl⟩ : ∃ x, x = wr := ⟨wr, rfl⟩
    have HO := Lib.hid hout
    have HB2 := Lib.hid (bT HB1.out hbr)
    have HBr := Lib.hid hbr
    have H2 := Lib.hid (H1.out.below hbr)
    have HN2 := Lib.hid (box_below HN1.out hbr)
    clear hout hbr
    obtain ⟨r0, r1, r2, _⟩ := cells3 HN2.out
    by_cases hlt : k < n2
    · obtain ⟨b, off, nm, pl, rfl, hx, hc, hd⟩ := H2.out.r2.sym hlt
      obtain ⟨hnl, hp0, hp1⟩ := HG.out.syms _ (List.mem_of_getElem? hx)
      dsimp only at hnl hp0 hp1
      obtain ⟨pn, hpn⟩ : ∃ pn : Nat, pl = (pn : Int) := ⟨pl.toNat, by omega⟩
      have hsl : symLine (nm, pl) = digN 8 pn ++ [32] ++ nm ++ [10] := by
        have : pl.toNat = pn := by omega
        simp [symLine, this]
      have HX := Lib.hid (show q2 ++ (m.syms.take (k + 1)).flatMap symLine = out ++ (digN 8 pn ++ [32] ++ nm ++ [10]) by
        obtain ⟨hk', hkx⟩ := List.getElem?_eq_some_iff.1 hx
        rw [List.take_succ_eq_append_getElem hk', List.flatMap_append, HO.out, hkx]
        simp [hsl])
      have HDp := Lib.hid (fun w' => refHex_any pn w' (by omega))
      obtain ⟨t0, ht0⟩ : ∃ t0, t0 = digN 8 pn := ⟨_, rfl⟩
      have htl : t0.length = 8 := by rw [ht0, digN_length]
      rw [← ht0] at HX HDp
      obtain ⟨x1, hx1⟩ : ∃ x1, x1 = out ++ t0 := ⟨_, rfl⟩
      obtain ⟨x2, hx2⟩ : ∃ x2, x2 = x1 ++ [32] := ⟨_, rfl⟩
      obtain ⟨x3, hx3⟩ : ∃ x3, x3 = x2 ++ nm := ⟨_, rfl⟩
      obtain ⟨x4, hx4⟩ : ∃ x4, x4 = x3 ++ [10] := ⟨_, rfl⟩
      have k1 : x1.length = out.length + 8 := by rw [hx1, List.length_append, htl]
      have k2 : x2.length = out.length + 9 := by rw [hx2, List.length_append, k1]; rfl
      have k3 : x3.length ≤ out.length + 49 := by rw [hx3, List.length_append, k2]; omega
      have k4 : x4.length ≤ out.length + 50 := by rw [hx4, List.length_append]; simp; omega
      have cat1 := cat_at hx1 (by omega)
      have cat2 := cat_at hx2 (by omega)
      have cat3 := cat_at hx3 (by omega)
      have cat4 := cat_at hx4 (by omega)
      have HX4 := Lib.hid (show x4 = q2 ++ (m.syms.take (k + 1)).flatMap symLine by rw [HX.out, hx4, hx3, hx2, hx1]; simp)
      have hK4 : x4.length ≤ 11 + 50 * (k + 1) := by omega
      subst hpn
      clear hsl hx hx1 hx2 hx3 hx4 k1 k2 k3 k4 ht0 htl hnl
      have HK := Lib.hid (fun (w' : World) (hb : Below w2.heap.size w2 w') => show (w'.cell? ⟨w.heap.size, 2, none⟩ = some (.slice (some ⟨b, off, none⟩) n2 c2) ∧ w'.cell? ⟨b, off + k * 2, none⟩ = some (.string (str nm)) ∧ w'.cell? ⟨b, off + k * 2 + 1, none⟩ = some (.int .i64 (pn : Int))) from
        ⟨(hb.cell (p := ⟨w.heap.size, 2, none⟩) (cell_lt r2)).trans r2, (hb.cell (p := ⟨b, off + k * 2, none⟩) (cell_lt hc)).trans hc, (hb.cell (p := ⟨b, off + k * 2 + 1, none⟩) (cell_lt hd)).trans hd⟩)
      go_wp2_with fail
      go_region_held3 (fun w' => w'.cell? ⟨w.heap.size, 2, none⟩ = some (.slice (some ⟨b, off, none⟩) n2 c2) ∧ w'.cell? ⟨b, off + k * 2, none⟩ = some (.string (str nm)) ∧ w'.cell? ⟨b, off + k * 2 + 1, none⟩ = some (.int .i64 (pn : Int))) (first | exact HK.out _ (bT (bD (bR w2)) hb3) | exact HK.out _ (bD (bR w2)) | exact HK.out _ (bR w2))
        (first | (go_at_call 29; refine (HDp.out _).mono ?_; rintro e w3 ⟨rfl, hb3⟩))
      go_wp2_with fail
      have hB3 := (HBr.out.drew).trans (hb3.mono HBr.out.size)
      go_roundw
      case rel => exact ⟨k + 1, x4, by omega, by go_num, rfl, HX4.out, hK4, hB3⟩
      case measure => simp [intOf]; omega
    · have hkn : k = n2 := by omega
      obtain ⟨y1, hy1⟩ : ∃ y1, y1 = out ++ [99, 111, 100, 101, 10] := ⟨_, rfl⟩
      have hyl : y1.length ≤ 51000 := by rw [hy1, List.length_append]; simp; omega
      have caty := cat_at hy1 (by omega)
      have HY := Lib.hid (show m.head = y1 ++ refW m.words n1 by
        have : m.syms.take k = m.syms := List.take_of_length_le (by have := HLs.out; omega)
        rw [HHd.out, hy1, HO.out, this])
      clear hy1 hkn HO HHd
      go_wp2_with fail
      clear caty
      go_loopw [3, 5] (fun vo vi wr => ∃ k : Nat, ∃ out : List UInt8, k ≤ n1 ∧ vi = .int .i64 k ∧ vo = .string (str out) ∧ out = y1 ++ refW m.words k ∧ out.length ≤ 51000 + 9 * k ∧ Below w2.heap.size w2 wr) (fun _ vi _ => n1 - (intOf vi).toNat)
      case atStart => exact ⟨0, y1, by omega, rfl, rfl, by simp [refW], by omega, bR w2⟩
      case round =>
        clear hlt hol r0 r1 r2 hk
        obtain ⟨j, ot, hj, rfl, rfl, hout, hol, hbr⟩ := hrel
        obtain ⟨w3, rfl⟩ : ∃ x, x = wr := ⟨wr, rfl⟩
        have HO := Lib.hid hout
        have HB3 := Lib.hid (bT HB2.out hbr)
        have HBs := Lib.hid hbr
        have H3 := Lib.hid (H2.out.below hbr)
        have HN3 := Lib.hid (box_below HN2.out hbr)
        clear hout hbr
        obtain ⟨r0, r1, r2, _⟩ := cells3 HN3.out
        by_cases hlt : j < n1
        · obtain ⟨b, off, z, rfl, hz, hc⟩ := H3.out.r1.int hlt
          obtain ⟨hz0, hz1⟩ := HG.out.words z (List.mem_of_getElem? hz)
          obtain ⟨zn, hzn⟩ : ∃ zn : Nat, z = (zn : Int) := ⟨z.toNat, by omega⟩
          obtain ⟨en, hen⟩ : ∃ en, en = wEnd n1 j := ⟨_, rfl⟩
          have HX := Lib.hid (show y1 ++ refW m.words (j + 1) = ot ++ (digN 8 zn ++ [en]) by
            rw [refW_succ, HO.out, List.getD_eq_getElem?_getD, hz, HLw.out, hen, hzn]
            simp)
          have HDz := Lib.hid (fun w' => refHex_any zn w' (by omega))
          obtain ⟨t0, ht0⟩ : ∃ t0, t0 = digN 8 zn := ⟨_, rfl⟩
          have htl : t0.length = 8 := by rw [ht0, digN_length]
          rw [← ht0] at HX HDz
          obtain ⟨x1, hx1⟩ : ∃ x1, x1 = ot ++ t0 := ⟨_, rfl⟩
          obtain ⟨x2, hx2⟩ : ∃ x2, x2 = x1 ++ [en] := ⟨_, rfl⟩
          have k1 : x1.length = ot.length + 8 := by rw [hx1, List.length_append, htl]
          have k2 : x2.length = ot.length + 9 := by rw [hx2, List.length_append, k1]; rfl
          have cat1 := cat_at hx1 (by omega)
          have HX2 := Lib.hid (show x2 = y1 ++ refW m.words (j + 1) by rw [HX.out, hx2, hx1]; simp)
          have hK2 : x2.length ≤ 51000 + 9 * (j + 1) := by omega
          subst hzn
          have HC2 := Lib.hid (cat_at hx2 (by omega))
          clear hz hx1 hx2 k1 k2 ht0 htl
          have fin : ∀ w4, Below w3.heap.size w3 w4 → Below w2.heap.size w2 w4 := fun w4 hb => bT HBs.out hb
          have HFin := Lib.hid fin
          clear fin
          by_cases g1 : j % 8 = 7
          · obtain rfl : en = 10 := by rw [hen, wEnd, if_pos (.inl g1)]
            have hcat := HC2.out
            clear hen
            have g1' : (((j : Int) % 8) == 7) = true := by rw [beq_iff_eq]; omega
            go_wp2_with fail
            refine (HDz.out _).mono ?_
            rintro e w4 ⟨rfl, hb4⟩
            go_wp2_with fail
            go_roundw
            case rel => exact ⟨j + 1, x2, by omega, by go_num, rfl, HX2.out, hK2, HFin.out _ hb4⟩
            case measure => simp [intOf]; omega
          · have g1' : (((j : Int) % 8) == 7) = false := by rw [beq_eq_false_iff_ne]; omega
            by_cases g2 : j + 1 = n1
            · obtain rfl : en = 10 := by rw [hen, wEnd, if_pos (.inr g2)]
              have hcat := HC2.out
              clear hen g1
              have g2' : (((j : Int) + 1) == (n1 : Int)) = true := by rw [beq_iff_eq]; omega
              have HG2 := Lib.hid g2
              clear g2
              go_wp2_with fail
              refine (HDz.out _).mono ?_
              rintro e w4 ⟨rfl, hb4⟩
              go_wp2_with fail
              go_roundw
              case rel => exact ⟨j + 1, x2, by omega, by go_num, rfl, HX2.out, hK2, HFin.out _ hb4⟩
              case measure => simp [intOf]; omega
            · obtain rfl : en = 32 := by rw [hen, wEnd, if_neg (by omega)]
              have hcat := HC2.out
              have g2' : (((j : Int) + 1) == (n1 : Int)) = false := by rw [beq_eq_false_iff_ne]; omega
              clear hen g1 g2
              go_wp2_with fail
              refine (HDz.out _).mono ?_
              rintro e w4 ⟨rfl, hb4⟩
              go_wp2_with fail
              go_roundw
              case rel => exact ⟨j + 1, x2, by omega, by go_num, rfl, HX2.out, hK2, HFin.out _ hb4⟩
              case measure => simp [intOf]; omega
        · have HF := Lib.hid (show m.head = ot by
            have : j = n1 := by omega
            rw [HY.out, HO.out, this])
          go_wp2
          go_ret
          exact ⟨by rw [HF.out]; rfl, HB3.out⟩
end Go.Proofs.YtgajlhejefjhhaaGreatDoor
