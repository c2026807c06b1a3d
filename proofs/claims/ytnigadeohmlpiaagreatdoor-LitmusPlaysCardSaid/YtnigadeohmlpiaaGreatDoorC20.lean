/- A contract: a state's key. Its condition: that the library's table lies as it was laid. -/
import Derived.Test.YtnigadeohmlpiaaGreatDoorC19
namespace Go.Proofs.YtnigadeohmlpiaaGreatDoor
open Go.RowKit
attribute [local go_sem] Oper.semAt_some
def numB (z : Int) : List UInt8 := Lib.itoa z ++ [32]
def doneB (x : Bool × Int) : List UInt8 := if x.1 then numB x.2 else [45, 32]
def entB (x : Int × Int) : List UInt8 := numB x.1 ++ numB x.2
def pendB (p : List (Int × Int)) : List UInt8 := 124 :: p.flatMap entB
def keyB (s : St) : List UInt8 := (s.done.zip s.told).flatMap doneB ++ s.m.words.flatMap numB ++ s.m.pend.flatMap pendB
theorem numB_len {z : Int} (h : I32 z) : (numB z).length ≤ 22 := by
 unfold I32 at h
 have := Lib.itoa_length_le z (by omega) (by omega)
 simp [numB]
 omega
theorem doneB_len {x : Bool × Int} (h : I32 x.2) : (doneB x).length ≤ 22 := by
 unfold doneB
 split
 ·
  exact numB_len h
 ·
  simp
theorem entB_len {x : Int × Int} (h : I32 x.1 ∧ I32 x.2) : (entB x).length ≤ 44 := by
 have h1 := numB_len h.1
 have h2 := numB_len h.2
 simp [entB]
 omega
theorem ent_i32 {M : Mm} (hM : M.Ok) {p : List (Int × Int)} (hp : p ∈ M.pend) {x : Int × Int} (hx : x ∈ p) : I32 x.1 ∧ I32 x.2 := by
 obtain ⟨h1, h2, h3⟩ := hM.ent p hp x hx
 exact ⟨⟨by omega, by omega⟩, h3⟩
theorem pendB_len {M : Mm} (hM : M.Ok) {p : List (Int × Int)} (hp : p ∈ M.pend) : (pendB p).length ≤ 353 := by
 have h1 := flatMap_len entB 44 p (fun x hx => entB_len (ent_i32 hM hp hx))
 have h2 := hM.few p hp
 unfold pendB
 rw [List.length_cons]
 omega
theorem flatMap_snoc {α β : Type} {L : List α} {k : Nat} {x : α} (f : α → List β) (h : L[k]? = some x) : (L.take (k + 1)).flatMap f = (L.take k).flatMap f ++ f x := by
 rw [List.take_add_one, h, List.flatMap_append]
 simp
set_option maxHeartbeats 16000000 in
set_option maxRecDepth 100000 in
theorem key_any (v : Value) (n : Nat) (s : St) (w : World) (hn : n ≤ 6) (hs : IsSt w v n s) (hG : Glob w) :
  Calls Tryz.prog 63 #[v] w fun e w' => e = .returned (.string ⟨(keyB s).toArray⟩) ∧ Below w.heap.size w w' := by
 obtain ⟨v1, v2, v3, AD, cD, AT, cT, rfl, him, hrd, hrt, _, _⟩ := hs.is
 obtain ⟨A1, c1, rfl, hrw⟩ := him.ws
 obtain ⟨A2, c2, pv, rfl, hrp, hpp⟩ := him.ps
 obtain ⟨A3, c3, rfl, _⟩ := him.rs
 obtain ⟨W1, hW1⟩ : ∃ X, X = w.alloc (.cells #[.slice A1 4 c1, .slice A2 4 c2, .slice A3 4 c3, .slice AD n cD, .slice AT n cT] 70) := ⟨_, rfl⟩
 obtain ⟨b1, hb1⟩ : ∃ b, b = w.heap.size := ⟨_, rfl⟩
 obtain ⟨W, hW⟩ : ∃ X, X = W1.alloc (.cells #[.pointer none, .slice none 0 0] 144) := ⟨_, rfl⟩
 obtain ⟨b3, hb3⟩ : ∃ b, b = W1.heap.size := ⟨_, rfl⟩
 have k1 : Below w.heap.size w W1 := hW1 ▸ bA (bR w)
 have kW : Below W1.heap.size W1 W := hW ▸ bA (bR W1)
 have HB1 := Lib.hid k1
 have H1 := Lib.hid (show W1.heap[b1]? = some (.cells #[.slice A1 4 c1, .slice A2 4 c2, .slice A3 4 c3, .slice AD n cD, .slice AT n cT] 70) by rw [hW1, hb1]; exact heap_alloc_new w _)
 have HBl := Lib.hid (show Lib.IsBuilder 144 5 b3 b3 (Lib.byteCells []) W from .inl ⟨Nat.le_refl _, .slice none 0 0, by rw [hW, hb3]; exact heap_alloc_new W1 _, ⟨rfl, .inl ⟨rfl, rfl⟩⟩, by intro h; cases h⟩)
 have HBW := Lib.hid (show Below b3 W1 W from hb3 ▸ kW)
 have HSz := Lib.hid (show b3 = W1.heap.size ∧ 0 < b3 from ⟨hb3, hb3 ▸ (hG.below k1).lt⟩)
 have HG := Lib.hid (hG.below k1)
 have HD := Lib.hid (hrd.below k1)
 have HT := Lib.hid (hrt.below k1)
 have HW := Lib.hid (hrw.below k1)
 have HP := Lib.hid (hrp.below k1)
 have HPP := Lib.hid (fun (k : Nat) p (h : s.m.pend[k]? = some p) => (hpp k p h).imp fun A h => h.imp fun c h => (⟨h.1, h.2.2.below k1⟩ : _ ∧ Row W1 128 2 A p.length (entCells p)))
 have HOk := Lib.hid hs.ok
 have hWW : W = (w.alloc (.cells #[.slice A1 4 c1, .slice A2 4 c2, .slice A3 4 c3, .slice AD n cD, .slice AT n cT] 70)).alloc (.cells #[.pointer none, .slice none 0 0] 144) := by rw [hW, hW1]
 have HPut := Lib.hid (fun (l : List UInt8) (z : Int) (wx : World) (h : Lib.IsBuilder 144 5 b3 b3 (Lib.byteCells l) wx) (hb : Below b3 W1 wx) (hz : I32 z) (hl : l.length ≤ 100000) => put_any b3 b3 l z wx h hz (by omega) (by rw [hb3]; exact hb.size) ((hG.below k1).belowB (hb3 ▸ (hG.below k1).lt) hb))
 have hmf : ∀ (fn : Fn) (first cap : Array Value) (w : World), (Instr.makeFunc fn first cap).run Tryz.prog w = .ok (.func fn first cap) w := fun _ _ _ _ => rfl
 have hb3' : b3 = b1 + 1 := by rw [hb3, hW1, World.size_alloc, hb1]
 clear hs him hrd hrt hrw hrp hpp k1 kW hG hW hW1
 go_enter Tryz.func63, Tryz.ntmps63
 go_wp2_with fail
 rw [← hb1, ← hb3', ← hWW]
 clear hb1 hb3 hb3' hWW hmf
 have HBW := Lib.hid (show Below W1.heap.size W1 W from HSz.out.1 ▸ HBW.out)
 have HPut := Lib.hid (fun (l : List UInt8) (z : Int) (wx : World) (h : Lib.IsBuilder 144 5 b3 b3 (Lib.byteCells l) wx) (hb : Below W1.heap.size W1 wx) (hz : I32 z) (hl : l.length ≤ 100000) => HPut.out l z wx h (by rw [HSz.out.1]; exact hb) hz hl)
 have hlz : (s.done.zip s.told).length = n := by rw [List.length_zip, HOk.out.d, HOk.out.t, Nat.min_self]
 have HZ := Lib.hid hlz
 have HI := Lib.hid (show ∀ x ∈ s.done.zip s.told, I32 x.2 from fun x hx => HOk.out.i x.2 (List.of_mem_zip hx).2)
 clear hlz
 go_loopw [17] (fun vi wr => ∃ k : Nat, k ≤ n ∧ vi = .int .i64 k ∧ Lib.IsBuilder 144 5 b3 b3 (Lib.byteCells (((s.done.zip s.told).take k).flatMap doneB)) wr ∧ Below W1.heap.size W1 wr) (fun vi _ => n - (intOf vi).toNat)
 case atStart => exact ⟨0, Nat.zero_le _, rfl, HBl.out, HBW.out⟩
 case round =>
  obtain ⟨k, hk, rfl, hbl, hbw⟩ := hrel
  obtain ⟨w2, rfl⟩ : ∃ x, x = wr := ⟨wr, rfl⟩
  have HBl2 := Lib.hid hbl
  have HB2 := Lib.hid hbw
  clear hbl hbw
  have hlen := flatMap_len doneB 22 ((s.done.zip s.told).take k) (fun x hx => doneB_len (HI.out x (List.mem_of_mem_take hx)))
  have hlen : (((s.done.zip s.told).take k).flatMap doneB).length ≤ 132 := by have := List.length_take_le k (s.done.zip s.told); omega
  have HLen := Lib.hid hlen
  clear hlen
  by_cases hlt : k < n
  ·
   have hlb : decide ((k : Int) < (n : Int)) = true := by simp; omega
   have hkn : (k : Int) < (n : Int) := by omega
   have hk0 : decide ((k : Int) < 0) = false := by simp
   obtain ⟨gd, od, d, hAD, hd, hcd⟩ := (HD.out.below HB2.out).bool hlt
   obtain ⟨gt, ot, z, hAT, hz, hcz⟩ := (HT.out.below HB2.out).rd.int hlt
   subst hAD
   subst hAT
   have hzip : (s.done.zip s.told)[k]? = some (d, z) := by rw [List.getElem?_zip_eq_some]; exact ⟨hd, hz⟩
   have HNx := Lib.hid (flatMap_snoc doneB hzip)
   have HIz := Lib.hid (HI.out (d, z) (List.mem_of_getElem? hzip))
   obtain ⟨r0, r1, r2, r3, r4, _⟩ := cells5 (blk_below HB2.out H1.out)
   clear hd hz hzip
   cases d
   ·
    have HWs := Lib.hid (writeString b3 b3 (Lib.byteCells (((s.done.zip s.told).take k).flatMap doneB)) ⟨#[45, 32]⟩ w2 HBl2.out (by rw [Lib.byteCells_length]; have := HLen.out; have : (⟨#[45, 32]⟩ : ByteArray).size = 2 := rfl; omega) (by rw [HSz.out.1]; exact HB2.out.size))
    have hdat : Lib.strCells (⟨#[45, 32]⟩ : ByteArray) = Lib.byteCells [45, 32] := rfl
    rw [hdat, ← Lib.byteCells_append] at HWs
    clear hdat
    go_wp2_with fail
    refine HWs.out.mono ?_
    rintro e w3 ⟨rfl, hb3, hbb, _⟩
    have HB3 := Lib.hid (And.intro hb3 hbb)
    clear hb3 hbb
    go_wp2_with fail
    go_roundw
    case rel => exact ⟨k + 1, by omega, by go_num, by rw [HNx.out]; exact .inr HB3.out.1, HB2.out.trans (HSz.out.1 ▸ HB3.out.2)⟩
    case measure => simp [intOf]; omega
   ·
    have HPt := Lib.hid (HPut.out _ z w2 HBl2.out HB2.out HIz.out (by have := HLen.out; omega))
    go_wp2_with fail
    refine HPt.out.mono ?_
    rintro e w3 ⟨rfl, hb3, hbb, _⟩
    have HB3 := Lib.hid (And.intro hb3 hbb)
    clear hb3 hbb
    go_wp2_with fail
    go_roundw
    case rel => exact ⟨k + 1, by omega, by go_num, by rw [HNx.out]; exact HB3.out.1, HB2.out.trans (HSz.out.1 ▸ HB3.out.2)⟩
    case measure => simp [intOf]; omega
  ·
   have hlb : decide ((k : Int) < (n : Int)) = false := by simp; omega
   obtain rfl : k = n := by omega
   rw [List.take_of_length_le (by rw [HZ.out]; exact Nat.le_refl _)] at HBl2 HLen
   obtain ⟨P1, hP1⟩ : ∃ P, P = (s.done.zip s.told).flatMap doneB := ⟨_, rfl⟩
   have HK1 := Lib.hid hP1
   rw [← hP1] at HBl2 HLen
   clear hP1
   obtain ⟨r0, r1, r2, r3, r4, _⟩ := cells5 (blk_below HB2.out H1.out)
   go_wp2_with fail
   clear r0 r1 r2 r3 r4
   go_loopw [36] (fun vi wr => ∃ j : Nat, j ≤ 4 ∧ vi = .int .i64 j ∧ Lib.IsBuilder 144 5 b3 b3 (Lib.byteCells (P1 ++ (s.m.words.take j).flatMap numB)) wr ∧ Below W1.heap.size W1 wr) (fun vi _ => 4 - (intOf vi).toNat)
   case atStart => exact ⟨0, Nat.zero_le _, rfl, by simpa using HBl2.out, HB2.out⟩
   case round =>
    obtain ⟨j, hj, rfl, hbl, hbw⟩ := hrel
    obtain ⟨w3, rfl⟩ : ∃ x, x = wr := ⟨wr, rfl⟩
    have HBl3 := Lib.hid hbl
    have HB3 := Lib.hid hbw
    clear hbl hbw
    have hlen2 := flatMap_len numB 22 (s.m.words.take j) (fun x hx => numB_len (HOk.out.m.nw x (List.mem_of_mem_take hx)))
    have hlen2 : (P1 ++ (s.m.words.take j).flatMap numB).length ≤ 220 := by rw [List.length_append]; have := List.length_take_le j s.m.words; have := HLen.out; omega
    have HLen2 := Lib.hid hlen2
    clear hlen2
    by_cases hltj : j < 4
    ·
     have hlbj : decide ((j : Int) < 4) = true := by simp; omega
     have hjn : (j : Int) < 4 := by omega
     have hj0 : decide ((j : Int) < 0) = false := by simp
     obtain ⟨gw, ow, z, hA1, hz, hcz⟩ := (HW.out.below HB3.out).rd.int hltj
     subst hA1
     have HNx := Lib.hid (flatMap_snoc numB hz)
     have HPt := Lib.hid (HPut.out _ z w3 HBl3.out HB3.out (HOk.out.m.nw z (List.mem_of_getElem? hz)) (by have := HLen2.out; omega))
     clear hz
     go_wp2_with fail
     refine HPt.out.mono ?_
     rintro e w4 ⟨rfl, hb3, hbb, _⟩
     have HB4 := Lib.hid (And.intro hb3 hbb)
     clear hb3 hbb
     go_wp2_with fail
     go_roundw
     case rel => exact ⟨j + 1, by omega, by go_num, by rw [HNx.out, ← List.append_assoc]; exact HB4.out.1, HB3.out.trans (HSz.out.1 ▸ HB4.out.2)⟩
     case measure => simp [intOf]; omega
    ·
     have hlbj : decide ((j : Int) < 4) = false := by simp; omega
     have hj4 : j = 4 := by omega
     rw [List.take_of_length_le (by rw [HOk.out.m.lw]; omega)] at HBl3 HLen2
     clear hj4
     obtain ⟨P2, hP2⟩ : ∃ P, P = P1 ++ s.m.words.flatMap numB := ⟨_, rfl⟩
     have HK2 := Lib.hid hP2
     rw [← hP2] at HBl3 HLen2
     clear hP2
     obtain ⟨r0, r1, r2, r3, r4, _⟩ := cells5 (blk_below HB3.out H1.out)
     go_wp2_with fail
     clear r0 r1 r2 r3 r4
     go_loopw [48] (fun vi wr => ∃ j : Nat, j ≤ 4 ∧ vi = .int .i64 j ∧ Lib.IsBuilder 144 5 b3 b3 (Lib.byteCells (P2 ++ (s.m.pend.take j).flatMap pendB)) wr ∧ Below W1.heap.size W1 wr) (fun vi _ => 4 - (intOf vi).toNat)
     case atStart => exact ⟨0, Nat.zero_le _, rfl, by simpa using HBl3.out, HB3.out⟩
     case round =>
      obtain ⟨j, hj, rfl, hbl, hbw⟩ := hrel
      obtain ⟨w5, rfl⟩ : ∃ x, x = wr := ⟨wr, rfl⟩
      have HBl5 := Lib.hid hbl
      have HB5 := Lib.hid hbw
      clear hbl hbw
      have hlen3 := flatMap_len pendB 353 (s.m.pend.take j) (fun x hx => pendB_len HOk.out.m (List.mem_of_mem_take hx))
      have hlen3 : (P2 ++ (s.m.pend.take j).flatMap pendB).length ≤ 1632 := by rw [List.length_append]; have := List.length_take_le j s.m.pend; have := HLen2.out; omega
      have HLen3 := Lib.hid hlen3
      clear hlen3
      by_cases hltj : j < 4
      ·
       have hlbj : decide ((j : Int) < 4) = true := by simp; omega
       have hjn : (j : Int) < 4 := by omega
       have hj0 : decide ((j : Int) < 0) = false := by simp
       obtain ⟨p, hp⟩ : ∃ p, s.m.pend[j]? = some p := ⟨_, List.getElem?_eq_getElem (by rw [HOk.out.m.lp]; exact hltj)⟩
       obtain ⟨Ap, cp, hpv, hrowp⟩ := HPP.out j p hp
       obtain ⟨gp, op, u, hA2, hu, hcu⟩ := (HP.out.below HB5.out).rd.at1 hltj
       rw [hpv] at hu
       obtain rfl := Option.some.inj hu
       subst hA2
       have HRp := Lib.hid hrowp
       have HNx := Lib.hid (flatMap_snoc pendB hp)
       have HPo := Lib.hid hp
       obtain ⟨m, hm⟩ : ∃ m, m = p.length := ⟨_, rfl⟩
       rw [← hm] at hcu HRp
       have HM := Lib.hid hm
       have hm8 : m ≤ 8 := hm ▸ HOk.out.m.few p (List.mem_of_getElem? hp)
       have HWb := Lib.hid (writeByte b3 b3 (Lib.byteCells (P2 ++ (s.m.pend.take j).flatMap pendB)) 124 w5 HBl5.out (by rw [Lib.byteCells_length]; have := HLen3.out; omega) (by rw [HSz.out.1]; exact HB5.out.size))
       have hdat : Lib.byteCells (P2 ++ (s.m.pend.take j).flatMap pendB) ++ [Value.int .u8 124] = Lib.byteCells (P2 ++ (s.m.pend.take j).flatMap pendB ++ [124]) := (Lib.byteCells_append _ [124]).symm
       rw [hdat] at HWb
       clear hdat hp hpv hrowp hu hm
       go_wp2_with fail
       refine HWb.out.mono ?_
       rintro e w6 ⟨rfl, hb3, hbb, _⟩
       have HB6 := Lib.hid (HB5.out.trans (HSz.out.1 ▸ hbb))
       have HBl6 := Lib.hid (show Lib.IsBuilder 144 5 b3 b3 _ w6 from .inr hb3)
       clear hb3 hbb hcu
       obtain ⟨P3, hP3⟩ : ∃ P, P = P2 ++ (s.m.pend.take j).flatMap pendB := ⟨_, rfl⟩
       have HK3 := Lib.hid hP3
       rw [← hP3] at HBl6 HLen3
       clear hP3
       go_wp2_with fail
       go_loopw [55] (fun vi wr => ∃ i : Nat, i ≤ m ∧ vi = .int .i64 i ∧ Lib.IsBuilder 144 5 b3 b3 (Lib.byteCells (P3 ++ [124] ++ (p.take i).flatMap entB)) wr ∧ Below W1.heap.size W1 wr) (fun vi _ => m - (intOf vi).toNat)
       case atStart => exact ⟨0, Nat.zero_le _, rfl, by simpa using HBl6.out, HB6.out⟩
       case round =>
        obtain ⟨i, hi, rfl, hbl, hbw⟩ := hrel
        obtain ⟨w7, rfl⟩ : ∃ x, x = wr := ⟨wr, rfl⟩
        have HBl7 := Lib.hid hbl
        have HB7 := Lib.hid hbw
        clear hbl hbw
        have hlen4 := flatMap_len entB 44 (p.take i) (fun x hx => entB_len (ent_i32 HOk.out.m (List.mem_of_getElem? HPo.out) (List.mem_of_mem_take hx)))
        have hlen4 : (P3 ++ [124] ++ (p.take i).flatMap entB).length ≤ 2000 := by rw [List.length_append, List.length_append, List.length_singleton]; have := List.length_take_le i p; have := HLen3.out; omega
        have HLen4 := Lib.hid hlen4
        clear hlen4
        by_cases hlti : i < m
        ·
         have hlbi : decide ((i : Int) < (m : Int)) = true := by simp; omega
         have him : (i : Int) < (m : Int) := by omega
         have hi0 : decide ((i : Int) < 0) = false := by simp
         obtain ⟨ge, oe, x, hAp, hx, hc0, hc1⟩ := (HRp.out.below HB7.out).rd.ent HM.out hlti
         subst hAp
         have hix := ent_i32 HOk.out.m (List.mem_of_getElem? HPo.out) (List.mem_of_getElem? hx)
         have HNi := Lib.hid (flatMap_snoc entB hx)
         obtain ⟨x1, hx1⟩ : ∃ z, z = x.1 := ⟨_, rfl⟩
         obtain ⟨x2, hx2⟩ : ∃ z, z = x.2 := ⟨_, rfl⟩
         rw [← hx1] at hc0 hix
         rw [← hx2] at hc1 hix
         have HE := Lib.hid (show entB x = numB x1 ++ numB x2 by rw [hx1, hx2]; rfl)
         have HIx := Lib.hid hix
         clear hx hx1 hx2 hix
         obtain ⟨W8, hW8⟩ : ∃ X, X = w7.alloc (.cells #[.int .i64 x1, .int .i64 x2] 128) := ⟨_, rfl⟩
         obtain ⟨b12, hb12⟩ : ∃ b, b = w7.heap.size := ⟨_, rfl⟩
         have k8 : Below w7.heap.size w7 W8 := hW8 ▸ bA (bR w7)
         have H128 := Lib.hid (show W8.heap[b12]? = some (.cells #[.int .i64 x1, .int .i64 x2] 128) by rw [hW8, hb12]; exact heap_alloc_new w7 _)
         have HB8 := Lib.hid (HB7.out.trans (k8.mono HB7.out.size))
         have HBl8 := Lib.hid (isb_below HBl7.out k8)
         have hb12x : W1.heap.size ≤ b12 := by rw [hb12]; exact HB7.out.size
         have HP1 := Lib.hid (HPut.out _ x1 W8 HBl8.out HB8.out HIx.out.1 (by have := HLen4.out; omega))
         go_upto_region 22 with fail
         rw [← hW8, ← hb12]
         clear hW8 hb12 hc0 hc1 k8
         obtain ⟨q0, q1, _⟩ := cells2 H128.out
         go_wp2_with fail
         refine HP1.out.mono ?_
         rintro e w9 ⟨rfl, hbl9, hbb, htk9⟩
         have HB9 := Lib.hid (HB8.out.trans (HSz.out.1 ▸ hbb))
         have H129 := Lib.hid (htk9.at_ (by decide) H128.out)
         have hl2 : (P3 ++ [124] ++ (p.take i).flatMap entB ++ (Lib.itoa x1 ++ [32])).length ≤ 2100 := by rw [List.length_append]; have := HLen4.out; have h3 := numB_len HIx.out.1; unfold numB at h3; omega
         have HP2 := Lib.hid (HPut.out _ x2 w9 hbl9 HB9.out HIx.out.2 (by omega))
         clear hbl9 hbb htk9 q0 q1 hl2
         obtain ⟨q0, q1, _⟩ := cells2 H129.out
         go_wp2_with fail
         refine HP2.out.mono ?_
         rintro e w10 ⟨rfl, hbl10, hbb, _⟩
         have HB10 := Lib.hid (HB9.out.trans (HSz.out.1 ▸ hbb))
         have HBl10 := Lib.hid hbl10
         clear hbl10 hbb
         go_wp2_with fail
         go_roundw
         case rel => exact ⟨i + 1, by omega, by go_num, by rw [HNi.out, HE.out]; unfold numB; simpa [List.append_assoc] using HBl10.out, HB10.out⟩
         case measure => simp [intOf]; omega
        ·
         have hlbi : decide ((i : Int) < (m : Int)) = false := by simp; omega
         obtain rfl : i = m := by omega
         have HFn := Lib.hid (show P2 ++ (s.m.pend.take (j + 1)).flatMap pendB = P3 ++ [124] ++ (p.take i).flatMap entB by
          rw [HNx.out, HK3.out, show p.take i = p from List.take_of_length_le (by rw [HM.out]; exact Nat.le_refl _)]
          simp [pendB])
         go_wp2_with fail
         go_roundw
         case rel => exact ⟨j + 1, by omega, by go_num, by rw [HFn.out]; exact HBl7.out, HB7.out⟩
         case measure => simp [intOf]; omega
      ·
       have hlbj : decide ((j : Int) < 4) = false := by simp; omega
       have hj4 : j = 4 := by omega
       rw [List.take_of_length_le (by rw [HOk.out.m.lp]; omega)] at HBl5
       clear hj4
       have HKy := Lib.hid (show P2 ++ s.m.pend.flatMap pendB = keyB s by rw [HK2.out, HK1.out]; rfl)
       rw [HKy.out] at HBl5
       have HSt := Lib.hid (Tryz.Builder_String_any b3 b3 (keyB s) w5 HBl5.out (by rw [HSz.out.1]; exact HB5.out.size))
       go_wp2_with fail
       refine HSt.out.mono ?_
       rintro e w6 ⟨rfl, hb6⟩
       have HB6 := Lib.hid (HB1.out.trans ((HB5.out.trans (HSz.out.1 ▸ hb6)).mono HB1.out.size))
       clear hb6
       go_wp2_with fail
       go_ret
       exact ⟨rfl, HB6.out⟩
end Go.Proofs.YtnigadeohmlpiaaGreatDoor
