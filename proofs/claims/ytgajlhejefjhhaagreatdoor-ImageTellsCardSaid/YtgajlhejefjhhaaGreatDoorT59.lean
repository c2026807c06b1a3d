/- A contract of the document's own reader. No condition of ours. -/
import Derived.Test.YtgajlhejefjhhaaGreatDoorT58
import Derived.Deep.RegionLaw
namespace Go.Proofs.YtgajlhejefjhhaaGreatDoor
open Go.RowKit

theorem str_mid (s : List UInt8) (a b : Nat) : (str s).extract a b = str ((s.drop a).take (b - a)) := by
  apply ByteArray.ext
  rw [← Array.toList_inj]
  show ((str s).extract a b).data.toList = _
  rw [ByteArray.data_extract, Array.toList_extract]

structure RdOk (i : Nat) (m : Img) : Prop where
  n1 : m.words.length ≤ i
  n2 : m.syms.length ≤ i
  wf : ∀ z ∈ m.words, -1 ≤ z ∧ z ≤ 17592186044432
  mw : -1 ≤ m.mem ∧ m.mem ≤ 17592186044432
  sz : ∀ x ∈ m.syms, x.1.length ≤ 2000 ∧ -1 ≤ x.2 ∧ x.2 ≤ 17592186044432

theorem hexB_16 : ∀ (c : UInt8) (d : Nat), hexB c = some d → d < 16 := fun _ _ h => (hexB_lt h).1
theorem decB_16 : ∀ (c : UInt8) (d : Nat), decB c = some d → d < 16 := fun c d h => by
  unfold decB at h
  split at h
  · have := Option.some.inj h
    omega
  · cases h

theorem RdOk.up {i j : Nat} {m : Img} (h : RdOk i m) (hij : i ≤ j) : RdOk j m := ⟨by have := h.n1; omega, by have := h.n2; omega, h.wf, h.mw, h.sz⟩
theorem RdOk.memo {i : Nat} {m : Img} (h : RdOk i m) (l : List UInt8) : RdOk (i + 1) { m with mem := valO decB 10 l } :=
  ⟨by have := h.n1; show m.words.length ≤ i + 1; omega, by have := h.n2; show m.syms.length ≤ i + 1; omega, h.wf, valO_bd (by omega) decB_16 l, h.sz⟩
theorem RdOk.sym {i : Nat} {m : Img} (h : RdOk i m) (nm l : List UInt8) (hn : nm.length ≤ 2000) : RdOk (i + 1) { m with syms := m.syms ++ [(nm, valO hexB 16 l)] } := by
  refine ⟨by have := h.n1; show m.words.length ≤ i + 1; omega, by have := h.n2; show (m.syms ++ [_]).length ≤ i + 1; simp; omega, h.wf, h.mw, fun x hx => ?_⟩
  rcases List.mem_append.1 hx with hx | hx
  · exact h.sz x hx
  · rw [List.mem_singleton] at hx
    subst hx
    exact ⟨hn, valO_bd (by omega) hexB_16 l⟩

theorem RdOk.more {fr i : Nat} {m : Img} (h : RdOk fr m) (ws : List Int) (hl : fr + ws.length ≤ i) (hw : ∀ z ∈ ws, -1 ≤ z ∧ z ≤ 17592186044432) : RdOk i { m with words := m.words ++ ws } := by
  refine ⟨by have := h.n1; show (m.words ++ ws).length ≤ i; simp; omega, by have := h.n2; show m.syms.length ≤ i; omega, fun z hz => ?_, h.mw, h.sz⟩
  rcases List.mem_append.1 hz with hz | hz
  · exact h.wf z hz
  · exact hw z hz

/-- the first j words of a line -/
def rdP (l : List UInt8) (j : Nat) : List Int := (List.range j).map fun i => valO hexB 16 ((l.drop (9 * i)).take 8)
theorem rdP_succ (l : List UInt8) (j : Nat) : rdP l (j + 1) = rdP l j ++ [valO hexB 16 ((l.drop (9 * j)).take 8)] := by
  unfold rdP
  rw [List.range_succ, List.map_append]
  rfl
theorem rdP_len (l : List UInt8) (j : Nat) : (rdP l j).length = j := by simp [rdP]
theorem rdP_bd (l : List UInt8) (j : Nat) : ∀ z ∈ rdP l j, -1 ≤ z ∧ z ≤ 17592186044432 := by
  intro z hz
  obtain ⟨i, _, rfl⟩ := List.mem_map.1 hz
  exact valO_bd (by omega) hexB_16 _

theorem Mim.memo {b : Nat} {m : Img} {w : World} {v1 v2 : Value} (h1 : w.heap[b]? = some (.cells #[v1, .int .i64 m.mem, v2] 25)) (h2 : w.ownsRow (b + 1) 3 1 v1 m.words.length (m.words.map (Value.int .i64))) (h3 : w.ownsRow (b + 1) 45 2 v2 m.syms.length (symCells m.syms)) (z : Int) :
    Mim b { m with mem := z } (w.setCell ⟨b, 1, none⟩ (.int .i64 z)) :=
  ⟨v1, v2, heap_setCell_same h1 _, ownsRow_setCell_below h2 (a := ⟨b, 1, none⟩) (by simp) _, ownsRow_setCell_below h3 (a := ⟨b, 1, none⟩) (by simp) _⟩

/-- what the reader tells -/
def ReadIs (b : Nat) (s : List UInt8) (e : Ending) (w : World) : Prop :=
  ∃ A1 n1 c1 A2 n2 c2, e = .returned (.tuple #[.agg #[.slice A1 n1 c1, .int .i64 (readO s).m.mem, .slice A2 n2 c2], .int .i64 ((readO s).n : Int)]) ∧ IsImg w A1 n1 A2 n2 (readO s).m ∧ n1 ≤ c1 ∧ (∀ a, A1 = some a → b ≤ a.block) ∧ ∀ a, A2 = some a → b ≤ a.block

set_option maxHeartbeats 8000000 in
set_option maxRecDepth 100000 in
theorem read_any (s : List UInt8) (w : World) (hs : s.length ≤ 2000) :
    Calls Tryz.prog 45 #[.string (str s)] w fun e w' => ReadIs w.heap.size s e w' ∧ Below w.heap.size w w' := by
  obtain ⟨W, hW⟩ : ∃ W, W = (w.alloc (.cells #[.slice none 0 0, .int .i64 0, .slice none 0 0] 25)).alloc (.cells #[.slice none 0 0, .int .i64 0, .slice none 0 0] 25) := ⟨_, rfl⟩
  have HW0 := Lib.hid (show Below w.heap.size w W from hW ▸ bA (bA (bR w)))
  have HX1 := Lib.hid (show W.heap[w.heap.size]? = some (.cells #[.slice none 0 0, .int .i64 0, .slice none 0 0] 25) from hW ▸ (Below.heap_alloc _ _ _ (by simp)).trans (heap_alloc_new w _))
  have HM0 := Lib.hid (show Mim (w.heap.size + 1) ⟨[], 0, []⟩ W by
    rw [hW]
    have := heap_alloc_new (w.alloc (.cells #[.slice none 0 0, .int .i64 0, .slice none 0 0] 25)) (.cells #[.slice none 0 0, .int .i64 0, .slice none 0 0] 25)
    rw [World.size_alloc] at this
    exact ⟨_, _, this, World.ownsRow_nil _ _ _ _, World.ownsRow_nil _ _ _ _⟩)
  have HWs := Lib.hid (show W.heap.size = w.heap.size + 1 + 1 by rw [hW]; simp)
  have hss : (str s).size = s.length := rfl
  go_enter Tryz.func45, Tryz.ntmps45
  go_wp2_with fail
  rw [← hW]
  clear hW
  go_loopw [5, 6, 7, 8] (fun v5 v6 v7 v8 wr => ∃ (i fr n : Nat) (code : Bool) (m : Img), i ≤ s.length ∧ fr ≤ i ∧ v5 = .int .i64 n ∧ v6 = .bool code ∧ v7 = .int .i64 fr ∧ v8 = .int .i64 i ∧ n ≤ i ∧ rdS ⟨m, n, code⟩ ((s.drop fr).take (i - fr)) (s.drop i) = readO s ∧ RdOk fr m ∧ Mim (w.heap.size + 1) m wr ∧ Below (w.heap.size + 1) W wr) (fun _ _ _ v8 _ => s.length - (intOf v8).toNat)
  case atStart => exact ⟨0, 0, 0, false, ⟨[], 0, []⟩, Nat.zero_le _, Nat.zero_le _, rfl, rfl, rfl, rfl, Nat.zero_le _, by simp [readO, rd0], ⟨by simp, by simp, fun z hz => by simp at hz, by simp, fun x hx => by simp at hx⟩, HM0.out, Below.refl _ _⟩
  case round =>
    obtain ⟨i, fr, n, code, m, hi, hfr, rfl, rfl, rfl, rfl, hni, hrd, hok, hM, hB⟩ := hrel
    obtain ⟨w1, rfl⟩ : ∃ x, x = wr := ⟨wr, rfl⟩
    have HRd := Lib.hid hrd
    have HOk := Lib.hid hok
    have HM := Lib.hid hM
    have HB := Lib.hid hB
    clear hrd hok hM hB
    by_cases hlt : i < s.length
    · have HD := Lib.hid (show s.drop i = s[i] :: s.drop (i + 1) from List.drop_eq_getElem_cons hlt)
      by_cases hc : s[i] = 10
      · obtain ⟨l, hl⟩ : ∃ l, l = (s.drop fr).take (i - fr) := ⟨_, rfl⟩
        have hmid := str_mid s fr i
        rw [← hl] at hmid
        have hll : l.length ≤ 2000 := by rw [hl, List.length_take, List.length_drop]; omega
        have HRn := Lib.hid (show rdS (rdL ⟨m, n, code⟩ l) [] (s.drop (i + 1)) = readO s by
          have := HRd.out
          rw [HD.out, hc, rdS, if_pos rfl, ← hl] at this
          exact this)
        have hsz : i < (str s).size := hlt
        have hcb : ((((str s)[i]).toNat : Int) != 10) = false := by
          have : ((str s)[i]).toNat = 10 := by show (s[i]).toNat = 10; rw [hc]; rfl
          rw [this]
          rfl
        have HE0 := Lib.hid (show (s.drop (i + 1)).take (i + 1 - (i + 1)) = [] by simp)
        have hlf : fr + l.length = i := by rw [hl, List.length_take, List.length_drop]; omega
        clear hc hl HRd
        have hnew : ∀ (st : RSt) (w2 : World) (z : Int), z = (n : Int) + 1 → rdS st [] (s.drop (i + 1)) = readO s → st.n = n + 1 → RdOk (i + 1) st.m → Mim (w.heap.size + 1) st.m w2 → Below (w.heap.size + 1) W w2 →
            ∃ (i' fr' n' : Nat) (code' : Bool) (m' : Img), i' ≤ s.length ∧ fr' ≤ i' ∧ Value.int .i64 z = .int .i64 n' ∧ Value.bool st.code = .bool code' ∧ Value.int .i64 ((i : Int) + 1) = .int .i64 fr' ∧ Value.int .i64 ((i : Int) + 1) = .int .i64 i' ∧ n' ≤ i' ∧ rdS ⟨m', n', code'⟩ ((s.drop fr').take (i' - fr')) (s.drop i') = readO s ∧ RdOk fr' m' ∧ Mim (w.heap.size + 1) m' w2 ∧ Below (w.heap.size + 1) W w2 :=
          fun st w2 z hz h1 h2 h3 h4 h5 => ⟨i + 1, i + 1, n + 1, st.code, st.m, by omega, by omega, by rw [hz]; go_num, rfl, by go_num, by go_num, by omega, by
            rw [show (s.drop (i + 1)).take (i + 1 - (i + 1)) = [] by simp, ← h2]
            exact h1, h3, h4, h5⟩
        have HNew := Lib.hid hnew
        clear hnew
        obtain ⟨v1, v2, h1, h2, h3⟩ := HM.out
        have H1 := Lib.hid h1
        have H2 := Lib.hid h2
        have H3 := Lib.hid h3
        obtain ⟨x0, x1, x2, z0, z1, z2⟩ := cells3 h1
        have hwr : w.heap.size + 1 < w1.heap.size := (Array.getElem?_eq_some_iff.1 h1).1
        clear h1 h2 h3
        by_cases hA : n = 0 ∧ 6 < l.length
        · obtain ⟨hA1, hA2⟩ := hA
          have HL := Lib.hid (show rdL ⟨m, n, code⟩ l = ⟨{ m with mem := valO decB 10 (l.drop 6) }, n + 1, code⟩ by unfold rdL; rw [if_pos ⟨hA1, hA2⟩])
          have hd6 := str_drop l 6
          have hn1 : (((n : Int) + 1) == 1) = true := by rw [beq_iff_eq]; omega
          have hl6 : (6 : Int) < (l.length : Int) := by omega
          go_wp2_with fail
          refine (value10_any (str (l.drop 6)) _ (by show (l.drop 6).length ≤ _; rw [List.length_drop]; omega)).mono ?_
          rintro e w' ⟨rfl, rfl⟩
          have hv : valO decB 10 (str (l.drop 6)).data.toList = valO decB 10 (l.drop 6) := rfl
          rw [hv]
          clear hv
          obtain ⟨vv, hvv⟩ : ∃ vv, vv = valO decB 10 (l.drop 6) := ⟨_, rfl⟩
          rw [← hvv]
          have HV := Lib.hid hvv
          clear hvv
          go_wp2_with fail
          go_roundw
          case rel => exact HNew.out ⟨{ m with mem := vv }, n + 1, code⟩ _ _ (by omega) (by rw [HV.out, ← HL.out]; exact HRn.out) rfl (HV.out ▸ (HOk.out.memo (l.drop 6)).up (by omega)) (Mim.memo H1.out H2.out H3.out vv) (HB.out.setCell (by simp) _)
          case measure => simp [intOf]; omega
        · have hA' : n = 0 → l.length ≤ 6 := fun h => by
            rcases Nat.lt_or_ge 6 l.length with h2 | h2
            · exact absurd ⟨h, h2⟩ hA
            · exact h2
          cases code with
          | false =>
            by_cases hB : l = [99, 111, 100, 101]
            · have HL := Lib.hid (show rdL ⟨m, n, false⟩ l = ⟨m, n + 1, true⟩ by unfold rdL; rw [if_neg hA, if_pos ⟨hB, rfl⟩])
              have hBb : (l == [99, 111, 100, 101]) = true := by simpa using hB
              have hl4 : l.length ≤ 6 := by rw [hB]; decide
              clear hA hA' hB
              go_wp2_with fail
              all_goals
                go_roundw
                case rel => exact HNew.out ⟨m, n + 1, true⟩ _ _ (by omega) (by rw [← HL.out]; exact HRn.out) rfl (HOk.out.up (by omega)) HM.out HB.out
                case measure => simp [intOf]; omega
            · have hBb : (l == [99, 111, 100, 101]) = false := by rw [beq_eq_false_iff_ne]; exact hB
              by_cases hC : 9 < l.length
              · have hHL : rdL ⟨m, n, false⟩ l = ⟨{ m with syms := m.syms ++ [(l.drop 9, valO hexB 16 (l.take 8))] }, n + 1, false⟩ := by unfold rdL; rw [if_neg hA, if_neg (fun h => hB h.1), if_pos ⟨rfl, hC⟩]
                have hOk2 := (HOk.out.sym (l.drop 9) (l.take 8) (by rw [List.length_drop]; omega)).up (show fr + 1 ≤ i + 1 by omega)
                have HVal := Lib.hid (fun wx => value16_any (str (l.take 8)) wx (by show (l.take 8).length ≤ _; rw [List.length_take]; omega))
                have hvv : valO hexB 16 (str (l.take 8)).data.toList = valO hexB 16 (l.take 8) := rfl
                rw [hvv] at HVal
                clear hvv
                obtain ⟨q, hq⟩ : ∃ q, q = valO hexB 16 (l.take 8) := ⟨_, rfl⟩
                rw [← hq] at hHL hOk2 HVal
                have HL := Lib.hid hHL
                have HOk2 := Lib.hid hOk2
                obtain ⟨nm, hnm⟩ : ∃ nm, nm = l.drop 9 := ⟨_, rfl⟩
                have hd9 := str_drop l 9
                have hd8 := str_take l 8
                rw [← hnm] at HL HOk2 hd9
                have hn1 : (((n : Int) + 1) == 1) = false := by rw [beq_eq_false_iff_ne]; omega
                have hg9 : (9 : Int) ≤ (l.length : Int) := by omega
                have hg8 : (8 : Int) ≤ (l.length : Int) := by omega
                clear hq hnm hHL hOk2
                have hsl := HOk.out.n2
                obtain ⟨i0, hi', hz0, hz1, hz2⟩ := info_parts sym_info
                have HRa := Lib.hid (show (w1.drew.alloc (.cells #[.string (str nm), .int .i64 q] 45)).ownsRow (w.heap.size + 1 + 1) 45 2 v2 m.syms.length (symCells m.syms) from World.ownsRow.alloc (w := w1.drew) H3.out _)
                have hcA : (w1.drew.alloc (.cells #[.string (str nm), .int .i64 q] 45)).cell? ⟨w.heap.size + 1, 2, none⟩ = some v2 := (World.cell?_alloc_lt w1.drew _ ⟨w.heap.size + 1, 2, none⟩ hwr).trans x2
                have HSg := Lib.hid (fun (w3 : World) (hg : (w1.drew.alloc (.cells #[.string (str nm), .int .i64 q] 45)).grownBy w3 v2.ownBlock) =>
                  show w3.cell? ⟨w.heap.size + 1, 2, none⟩ = some v2 ∧ w3.frozen? ⟨w.heap.size + 1, 2, none⟩ = false from
                    have hb3 := grown_own HRa.out hg (w.heap.size + 1 + 1) (Nat.le_refl _) (by simp; omega)
                    have hk3 := (hb3.block (w.heap.size + 1) (by omega)).trans ((Below.heap_alloc w1.drew _ _ hwr).trans H1.out)
                    ⟨by rw [cell_of_row w3 _ 2 _ _ _ hk3]; rfl, not_frozen hk3⟩)
                have HBe := Lib.hid (fun (w3 : World) (u : Value) (hg : (w1.drew.alloc (.cells #[.string (str nm), .int .i64 q] 45)).grownBy w3 v2.ownBlock) =>
                  show Below (w.heap.size + 1) W (w3.setCell ⟨w.heap.size + 1, 2, none⟩ u) from
                    (((HB.out.drew).alloc (by show w.heap.size + 1 ≤ w1.heap.size; omega) _).trans (grown_own HRa.out hg (w.heap.size + 1) (by omega) (by simp; omega))).setCell (by simp) u)
                go_wp2_with fail
                go_region_law (first
                  | (go_simp; go_at_call 46; refine (HVal.out _).mono ?_; rintro e w' ⟨rfl, rfl⟩)
                  | (rw [if_pos (by rfl)]
                     refine wp_append_own _ (.tmp 57) (.tmp 64) 23 rfl (w.heap.size + 1 + 1) 45 i0 _ 2 24 Tryz.underlying23 hi' hz0 hz1 hz2 rfl (by decide) v2 m.syms.length _ rfl HRa.out ⟨w1.heap.size, 0, none⟩ 1 1 [.string (str nm), .int .i64 q] rfl rfl (two_new _ _ _ _) (by simp [Value.oneCell']) (by unfold maxLen; omega) (by omega) (by simp; omega) ?_
                     intro v' w3 hown' hgrow _
                     obtain ⟨A', c', rfl, _⟩ := own_slice hown'
                     have HOwn := Lib.hid hown'
                     have HGrow := Lib.hid hgrow
                     clear hown' hgrow
                     obtain ⟨hc3, hf3⟩ := HSg.out w3 HGrow.out))
                all_goals
                  go_wp2_with fail
                  have hP4 := Mim.sym (m := m) ((Below.heap_alloc w1.drew (.cells #[.string (str nm), .int .i64 q] 45) (w.heap.size + 1) hwr).trans H1.out) (World.ownsRow.alloc (w := w1.drew) H2.out _) (World.ownsRow.alloc (w := w1.drew) H3.out _) HOwn.out HGrow.out
                  have HP4 := Lib.hid hP4
                  go_roundw
                  case rel => exact HNew.out ⟨{ m with syms := m.syms ++ [(nm, q)] }, n + 1, false⟩ _ _ (by omega) (by rw [← HL.out]; exact HRn.out) rfl HOk2.out HP4.out (HBe.out _ _ HGrow.out)
                  case measure => simp [intOf]; omega
              · have HL := Lib.hid (show rdL ⟨m, n, false⟩ l = ⟨m, n + 1, false⟩ by unfold rdL; rw [if_neg hA, if_neg (fun h => hB h.1), if_neg (fun h => hC h.2), if_neg (by simp)])
                go_wp2_with fail
                all_goals
                  go_roundw
                  case rel => exact HNew.out ⟨m, n + 1, false⟩ _ _ (by omega) (by rw [← HL.out]; exact HRn.out) rfl (HOk.out.up (by omega)) HM.out HB.out
                  case measure => simp [intOf]; omega
          | true =>
            have hHL : rdL ⟨m, n, true⟩ l = ⟨{ m with words := m.words ++ rdW l }, n + 1, true⟩ := by unfold rdL; rw [if_neg hA, if_neg (by simp), if_neg (by simp), if_pos rfl]
            by_cases h8 : l.length < 8
            · have hw0 : rdW l = [] := by
                unfold rdW
                split
                · rfl
                · rw [show (l.length + 1) / 9 = 0 by omega]
                  rfl
              rw [hw0, List.append_nil] at hHL
              have HL := Lib.hid hHL
              clear hHL hw0
              go_wp2_with fail
              all_goals
                go_loopw [10] (fun v wx => v = .int .i64 0 ∧ wx = w1) (fun _ _ => 0)
                case atStart => exact ⟨rfl, rfl⟩
                case round =>
                  obtain ⟨rfl, rfl⟩ := hrel
                  go_wp2_with fail
                  go_roundw
                  case rel => exact HNew.out ⟨m, n + 1, true⟩ _ _ (by omega) (by rw [← HL.out]; exact HRn.out) rfl (HOk.out.up (by omega)) HM.out HB.out
                  case measure => simp [intOf]; omega
            · have hn1 : (((n : Int) + 1) == 1) = false := by rw [beq_eq_false_iff_ne]; omega
              have hBb : (l == [99, 111, 100, 101]) = false := by rw [beq_eq_false_iff_ne]; intro e; rw [e] at h8; simp at h8
              have ht4 := str_take l 4
              have hg4 : (4 : Int) ≤ (l.length : Int) := by omega
              by_cases hS : l.take 4 = [115, 117, 109, 32]
              · have hsm : (l.take 4 == [115, 117, 109, 32]) = true := by rw [hS]; rfl
                have hw0 : rdW l = [] := by unfold rdW; rw [if_pos ⟨by omega, hS⟩]
                rw [hw0, List.append_nil] at hHL
                have HL := Lib.hid hHL
                clear hHL hw0 hS
                go_wp2_with fail
                go_loopw [10] (fun v wx => v = .int .i64 0 ∧ wx = w1) (fun _ _ => 0)
                case atStart => exact ⟨rfl, rfl⟩
                case round =>
                  obtain ⟨rfl, rfl⟩ := hrel
                  go_wp2_with fail
                  go_roundw
                  case rel => exact HNew.out ⟨m, n + 1, true⟩ _ _ (by omega) (by rw [← HL.out]; exact HRn.out) rfl (HOk.out.up (by omega)) HM.out HB.out
                  case measure => simp [intOf]; omega
              · have hsm : (l.take 4 == [115, 117, 109, 32]) = false := by rw [beq_eq_false_iff_ne]; exact hS
                have hw0 : rdW l = rdP l ((l.length + 1) / 9) := by unfold rdW; rw [if_neg (fun h => hS h.2)]; rfl
                rw [hw0] at hHL
                have HL := Lib.hid hHL
                have HOk2 := Lib.hid (HOk.out.more (i := i + 1) (rdP l ((l.length + 1) / 9)) (by rw [rdP_len]; omega) (rdP_bd l _))
                have hsl := HOk.out.n1
                clear hHL hw0 hS
                go_wp2_with fail
                go_loopw [10] (fun v wx => ∃ j : Nat, j ≤ (l.length + 1) / 9 ∧ v = .int .i64 (9 * (j : Int)) ∧ Mim (w.heap.size + 1) { m with words := m.words ++ rdP l j } wx ∧ Below (w.heap.size + 1) W wx) (fun v _ => l.length + 9 - (intOf v).toNat)
                case atStart => exact ⟨0, Nat.zero_le _, rfl, by simpa [rdP] using HM.out, HB.out⟩
                case round =>
                  obtain ⟨j, hj, rfl, hM2, hB2⟩ := hrel
                  obtain ⟨w2, rfl⟩ : ∃ x, x = wr := ⟨wr, rfl⟩
                  have HB2 := Lib.hid hB2
                  by_cases hlt : 9 * j + 8 ≤ l.length
                  · obtain ⟨mk, hmk⟩ : ∃ mk : Img, mk = { m with words := m.words ++ rdP l j } := ⟨_, rfl⟩
                    have hml : mk.words.length ≤ 4000 := by rw [hmk]; show (m.words ++ rdP l j).length ≤ 4000; rw [List.length_append, rdP_len]; omega
                    rw [← hmk] at hM2
                    have HVal := Lib.hid (fun wx => value16_any (str ((l.drop (9 * j)).take 8)) wx (by show ((l.drop (9 * j)).take 8).length ≤ _; rw [List.length_take]; omega))
                    have hvv : valO hexB 16 (str ((l.drop (9 * j)).take 8)).data.toList = valO hexB 16 ((l.drop (9 * j)).take 8) := rfl
                    rw [hvv] at HVal
                    clear hvv
                    have hNx := rdP_succ l j
                    obtain ⟨q, hq⟩ : ∃ q, q = valO hexB 16 ((l.drop (9 * j)).take 8) := ⟨_, rfl⟩
                    rw [← hq] at HVal hNx
                    have HNx := Lib.hid (show ({ mk with words := mk.words ++ [q] } : Img) = { m with words := m.words ++ rdP l (j + 1) } by rw [hmk, hNx, ← List.append_assoc])
                    have hmid2 := str_mid l (9 * j) (9 * j + 8)
                    rw [show 9 * j + 8 - 9 * j = 8 by omega] at hmid2
                    obtain ⟨pc, hpc⟩ : ∃ pc, pc = (l.drop (9 * j)).take 8 := ⟨_, rfl⟩
                    rw [← hpc] at hmid2 HVal
                    clear hmk hq hpc hNx x0 x1 x2 z0 z1 z2
                    obtain ⟨v1', v2', h1, h2, h3⟩ := hM2
                    have K1 := Lib.hid h1
                    have K2 := Lib.hid h2
                    have K3 := Lib.hid h3
                    obtain ⟨x0, x1, x2, z0, z1, z2⟩ := cells3 h1
                    have hwr2 : w.heap.size + 1 < w2.heap.size := (Array.getElem?_eq_some_iff.1 h1).1
                    clear h1 h2 h3
                    obtain ⟨i0, hi', hz0, hz1, hz2⟩ := info_parts i64_info
                    have HRa := Lib.hid (show (w2.drew.alloc (.cells #[.int .i64 q] 3)).ownsRow (w.heap.size + 1 + 1) 3 1 v1' mk.words.length (mk.words.map (Value.int .i64)) from World.ownsRow.alloc (w := w2.drew) K2.out _)
                    have hcA : (w2.drew.alloc (.cells #[.int .i64 q] 3)).cell? ⟨w.heap.size + 1, 0, none⟩ = some v1' := (World.cell?_alloc_lt w2.drew _ ⟨w.heap.size + 1, 0, none⟩ hwr2).trans x0
                    have HSg := Lib.hid (fun (w3 : World) (hg : (w2.drew.alloc (.cells #[.int .i64 q] 3)).grownBy w3 v1'.ownBlock) =>
                      show w3.cell? ⟨w.heap.size + 1, 0, none⟩ = some v1' ∧ w3.frozen? ⟨w.heap.size + 1, 0, none⟩ = false from
                        have hb3 := grown_own HRa.out hg (w.heap.size + 1 + 1) (Nat.le_refl _) (by simp; omega)
                        have hk3 := (hb3.block (w.heap.size + 1) (by omega)).trans ((Below.heap_alloc w2.drew _ _ hwr2).trans K1.out)
                        ⟨by rw [cell_of_row w3 _ 0 _ _ _ hk3]; rfl, not_frozen hk3⟩)
                    have HBe := Lib.hid (fun (w3 : World) (u : Value) (hg : (w2.drew.alloc (.cells #[.int .i64 q] 3)).grownBy w3 v1'.ownBlock) =>
                      show Below (w.heap.size + 1) W (w3.setCell ⟨w.heap.size + 1, 0, none⟩ u) from
                        (((HB2.out.drew).alloc (by show w.heap.size + 1 ≤ w2.heap.size; omega) _).trans (grown_own HRa.out hg (w.heap.size + 1) (by omega) (by simp; omega))).setCell (by simp) u)
                    have hga : 9 * (j : Int) + 8 ≤ (l.length : Int) := by omega
                    have hg0 : 0 ≤ 9 * (j : Int) := by omega
                    have hg1 : 0 ≤ 9 * (j : Int) + 8 := by omega
                    have hg2 : 9 * (j : Int) ≤ 9 * (j : Int) + 8 := by omega
                    have hwrp : IntKind.i64.wrap (9 * (j : Int) + 8) = 9 * (j : Int) + 8 := IntWalk.i64_in _ (by omega)
                    have hgn : (9 * (j : Int)).toNat = 9 * j := by omega
                    have hgm : (9 * (j : Int) + 8).toNat = 9 * j + 8 := by omega
                    go_wp2_with fail
                    go_region_law (first
                      | (go_simp; go_at_call 46; refine (HVal.out _).mono ?_; rintro e w' ⟨rfl, rfl⟩)
                      | (rw [if_pos (by rfl)]
                         refine wp_append_own _ (.tmp 87) (.tmp 94) 22 rfl (w.heap.size + 1 + 1) 3 i0 _ 1 8 Tryz.underlying22 hi' hz0 hz1 hz2 rfl (by decide) v1' mk.words.length _ rfl HRa.out ⟨w2.heap.size, 0, none⟩ 1 1 [.int .i64 q] rfl rfl (cell_one_new _ _ _) (by simp [Value.oneCell']) (by unfold maxLen; omega) (by omega) (by simp; omega) ?_
                         intro v' w3 hown' hgrow _
                         obtain ⟨A', c', rfl, _⟩ := own_slice hown'
                         have HOwn := Lib.hid hown'
                         have HGrow := Lib.hid hgrow
                         clear hown' hgrow
                         obtain ⟨hc3, hf3⟩ := HSg.out w3 HGrow.out))
                    all_goals
                      go_wp2_with fail
                      have hP4 := Mim.word (m := mk) ((Below.heap_alloc w2.drew (.cells #[.int .i64 q] 3) (w.heap.size + 1) hwr2).trans K1.out) (World.ownsRow.alloc (w := w2.drew) K2.out _) (World.ownsRow.alloc (w := w2.drew) K3.out _) HOwn.out HGrow.out
                      rw [HNx.out] at hP4
                      go_roundw
                      case rel => exact ⟨j + 1, by omega, by go_num, hP4, HBe.out _ _ HGrow.out⟩
                      case measure => simp [intOf]; omega
                  · have hje : j = (l.length + 1) / 9 := by omega
                    rw [hje] at hM2
                    have HM2 := Lib.hid hM2
                    have hga : ¬ 9 * (j : Int) + 8 ≤ (l.length : Int) := by omega
                    clear hM2 hB2
                    go_wp2_with fail
                    go_roundw
                    case rel => exact HNew.out ⟨{ m with words := m.words ++ rdP l ((l.length + 1) / 9) }, n + 1, true⟩ _ _ (by omega) (by rw [← HL.out]; exact HRn.out) rfl HOk2.out HM2.out HB2.out
                    case measure => simp [intOf]; omega
      · have HRn := Lib.hid (show rdS ⟨m, n, code⟩ ((s.drop fr).take (i + 1 - fr)) (s.drop (i + 1)) = readO s by
          have := HRd.out
          rw [HD.out, rdS, if_neg hc] at this
          have e : i + 1 - fr = (i - fr) + 1 := by omega
          have h2 : i - fr < (s.drop fr).length := by rw [List.length_drop]; omega
          rw [e, List.take_succ_eq_append_getElem h2]
          have e3 : (s.drop fr)[i - fr] = s[i] := by
            rw [List.getElem_drop]
            congr 1
            omega
          rw [e3]
          exact this)
        have hcn : ¬ (s[i]).toNat = 10 := fun e => hc (UInt8.toNat_inj.1 e)
        have hsz : i < (str s).size := hlt
        have hcb : ((((str s)[i]).toNat : Int) != 10) = true := by rw [bne_iff_ne]; show ((s[i]).toNat : Int) ≠ 10; omega
        clear HRd hc
        go_wp2_with fail
        go_roundw
        case rel => exact ⟨i + 1, fr, n, code, m, by omega, by omega, rfl, rfl, rfl, by go_num, by omega, HRn.out, HOk.out, HM.out, HB.out⟩
        case measure => simp [intOf]; omega
    · have HR := Lib.hid (show readO s = ⟨m, n, code⟩ by
        have := HRd.out
        rw [List.drop_of_length_le (show s.length ≤ i by omega), rdS] at this
        exact this.symm)
      have hM := HM.out
      have hok := HOk.out
      obtain ⟨me, hme⟩ : ∃ me, me = m.mem := ⟨_, rfl⟩
      obtain ⟨v1, v2, h1, h2, h3⟩ := hM
      obtain ⟨B1, d1, rfl, hd1, hR1, hF1⟩ := Rd_of_own h2
      obtain ⟨B2, d2, rfl, hd2, hR2, hF2⟩ := Rd_of_own h3
      have hn1 := hok.n1
      have hn2 := hok.n2
      have HI := Lib.hid (show IsImg w1 B1 m.words.length B2 m.syms.length m from ⟨hR1, hR2, by omega, by omega, fun z hz => by have := hok.wf z hz; omega, by have := hok.mw; omega, fun x hx => by have := hok.sz x hx; omega⟩)
      have hx2 := (HB.out.block w.heap.size (by omega)).trans HX1.out
      have HX4 := Lib.hid hx2
      obtain ⟨y0, y1, y2, g0, g1, g2⟩ := cells3 hx2
      obtain ⟨x0, x1, x2, _⟩ := cells3 h1
      have hFr : ∀ {A : Option Addr}, Fresh (w.heap.size + 1 + 1) A → ∀ a, A = some a → a.block ≠ w.heap.size := fun h a ha => by
        have := h a ha
        omega
      have HG1 := Lib.hid (show ∀ a, B1 = some a → w.heap.size ≤ a.block from fun a ha => by have := hF1 a ha; omega)
      have HG2 := Lib.hid (show ∀ a, B2 = some a → w.heap.size ≤ a.block from fun a ha => by have := hF2 a ha; omega)
      have HF1 := Lib.hid (hFr hF1)
      have HF2 := Lib.hid (hFr hF2)
      have HBf := Lib.hid (HW0.out.trans (HB.out.mono (by omega)))
      rw [← hme] at x1
      have HMe := Lib.hid hme
      clear h1 h2 h3 hR1 hR2 hF1 hF2 hFr hx2 hok hn1 hn2 hme
      go_wp2
      have him6 := HI.out.far (w' := ((w1.setCell ⟨w.heap.size, 0, none⟩ (.slice B1 m.words.length d1)).setCell ⟨w.heap.size, 1, none⟩ (.int .i64 me)).setCell ⟨w.heap.size, 2, none⟩ (.slice B2 m.syms.length d2)) w.heap.size (by simp [World.setCell])
        (fun k hk _ => by rw [Below.heap_setCell _ _ _ _ hk, Below.heap_setCell _ _ _ _ hk, Below.heap_setCell _ _ _ _ hk]) HF1.out HF2.out
      refine ⟨rfl, _, ret25 rfl rfl (set3 HX4.out), ?_, bS (bS (bS HBf.out (by simp)) (by simp)) (by simp)⟩
      unfold ReadIs
      rw [HR.out]
      exact ⟨B1, _, d1, B2, _, d2, by rw [HMe.out]; rfl, him6, hd1, HG1.out, HG2.out⟩
end Go.Proofs.YtgajlhejefjhhaaGreatDoor
