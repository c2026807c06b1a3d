/- A contract: of a raw image, one that may be. No condition of ours. -/
import Derived.Test.YtgajlhejefjhhaaGreatDoorT27
import Derived.Deep.CutBlock
import Derived.IntWalk
namespace Go.Proofs.YtgajlhejefjhhaaGreatDoor
open Go.RowKit

theorem own_low {w : World} {base B : Nat} {e : TypeId} {size : Nat} {v : Value} {n : Nat} {xs : List Value} (h : w.ownsRow base e size v n xs) (hB : B ≤ base) : w.ownsRow B e size v n xs := by
  obtain ⟨h1, h2⟩ := h
  refine ⟨h1, ?_⟩
  rcases h2 with h2 | ⟨g, cap, cur, hv, hg, r⟩
  · exact .inl h2
  · exact .inr ⟨g, cap, cur, hv, by omega, r⟩
theorem own_set3 {w : World} {base B : Nat} {e : TypeId} {size : Nat} {v : Value} {n : Nat} {xs : List Value} (h : w.ownsRow base e size v n xs) {b : Nat} (hb : b < base) (hB : B ≤ base) (x y z : Value) :
    (((w.setCell ⟨b, 0, none⟩ x).setCell ⟨b, 1, none⟩ y).setCell ⟨b, 2, none⟩ z).ownsRow B e size v n xs :=
  own_low (ownsRow_setCell_below (ownsRow_setCell_below (ownsRow_setCell_below h (a := ⟨b, 0, none⟩) hb x) (a := ⟨b, 1, none⟩) hb y) (a := ⟨b, 2, none⟩) hb z) hB

/-- what Fit tells -/
def FitIs (B : Nat) (m : Img) (e : Ending) (w : World) : Prop :=
  ∃ A1 c1 A2 c2, e = .returned (.agg #[.slice A1 m.words.length c1, .int .i64 m.mem, .slice A2 m.syms.length c2]) ∧ IsImg w A1 m.words.length A2 m.syms.length m ∧ m.words.length ≤ c1 ∧ w.ownsRow B 3 1 (.slice A1 m.words.length c1) m.words.length (m.words.map (Value.int .i64)) ∧ w.ownsRow B 45 2 (.slice A2 m.syms.length c2) m.syms.length (symCells m.syms)

set_option maxHeartbeats 20000000 in
set_option maxRecDepth 100000 in
theorem fit_any (A1 : Option Addr) (n1 c1 : Nat) (A2 : Option Addr) (n2 c2 : Nat) (m : Img) (w : World) (h : IsImg w A1 n1 A2 n2 m) :
    Calls Tryz.prog 11 #[.agg #[.slice A1 n1 c1, .int .i64 m.mem, .slice A2 n2 c2]] w fun e w' => FitIs w.heap.size m.fit e w' ∧ Below w.heap.size w w' := by
  have H := Lib.hid h
  clear h
  have b1 := H.out.b1
  have b2 := H.out.b2
  obtain ⟨m1, m2⟩ := H.out.mw
  obtain ⟨mem, hmem⟩ : ∃ mem, mem = m.mem := ⟨_, rfl⟩
  rw [← hmem] at m1 m2 ⊢
  obtain ⟨mm, hmm⟩ : ∃ mm, mm = pk mem 4097 := ⟨_, rfl⟩
  have HPk := Lib.hid (fun w' => hmm ▸ pick_any mem 4097 w' (by omega) m1 m2)
  have HMm := Lib.hid (And.intro hmem hmm)
  clear hmem hmm
  go_enter Tryz.func11, Tryz.ntmps11
  go_upto_block 0 with (go_at_call 22; refine (HPk.out _).mono ?_; rintro e w' ⟨rfl, rfl⟩)
  have HLen := Lib.hid H.out.r1.int_len
  have HW0 := Lib.hid (show Below w.heap.size w (((w.alloc (.cells #[.slice A1 n1 c1, .int .i64 mem, .slice A2 n2 c2] 25)).alloc (.cells #[.slice none 0 0, .int .i64 0, .slice none 0 0] 25)).alloc (.cells #[.slice none 0 0, .int .i64 mm, .slice none 0 0] 25)) from bA (bA (bA (bR w))))
  obtain ⟨W, hW⟩ : ∃ W, W = (((w.alloc (.cells #[.slice A1 n1 c1, .int .i64 mem, .slice A2 n2 c2] 25)).alloc (.cells #[.slice none 0 0, .int .i64 0, .slice none 0 0] 25)).alloc (.cells #[.slice none 0 0, .int .i64 mm, .slice none 0 0] 25)) := ⟨_, rfl⟩
  have HWs := Lib.hid (show W.heap.size = w.heap.size + 1 + 1 + 1 by rw [hW]; simp)
  have HX1 := Lib.hid (show W.heap[w.heap.size]? = some (.cells #[.slice A1 n1 c1, .int .i64 mem, .slice A2 n2 c2] 25) by
    rw [hW]
    exact (Below.heap_alloc _ _ _ (by simp; omega)).trans ((Below.heap_alloc _ _ _ (by simp)).trans (heap_alloc_new w _)))
  have HX2 := Lib.hid (show W.heap[w.heap.size + 1]? = some (.cells #[.slice none 0 0, .int .i64 0, .slice none 0 0] 25) by
    rw [hW]
    have := heap_alloc_new (w.alloc (.cells #[.slice A1 n1 c1, .int .i64 mem, .slice A2 n2 c2] 25)) (.cells #[.slice none 0 0, .int .i64 0, .slice none 0 0] 25)
    rw [World.size_alloc] at this
    exact (Below.heap_alloc _ _ _ (by simp)).trans this)
  have HX3 := Lib.hid (show Mim (w.heap.size + 1 + 1) ⟨[], mm, []⟩ W by
    rw [hW]
    have := heap_alloc_new ((w.alloc (.cells #[.slice A1 n1 c1, .int .i64 mem, .slice A2 n2 c2] 25)).alloc (.cells #[.slice none 0 0, .int .i64 0, .slice none 0 0] 25)) (.cells #[.slice none 0 0, .int .i64 mm, .slice none 0 0] 25)
    rw [World.size_alloc, World.size_alloc] at this
    exact ⟨_, _, this, World.ownsRow_nil _ _ _ _, World.ownsRow_nil _ _ _ _⟩)
  rw [← hW]
  rw [← hW] at HW0
  clear hW
  go_cut [4] from 12 to 33 (fun s4 wx => (∃ k : Nat, s4 = .int .i64 k ∧ k ≤ 40) ∧ Mim (w.heap.size + 1 + 1) ⟨fitWords m.words, mm, []⟩ wx ∧ Below (w.heap.size + 1 + 1) W wx)
  case first =>
    go_wp2_with fail
    go_loopw [4] (fun i wr => ∃ k : Nat, k ≤ n1 ∧ k ≤ 40 ∧ i = .int .i64 k ∧ Mim (w.heap.size + 1 + 1) ⟨(m.words.take k).map fun z => pk z 4294967296, mm, []⟩ wr ∧ Below (w.heap.size + 1 + 1) W wr) (fun i _ => 40 - (intOf i).toNat)
    case atStart => exact ⟨0, Nat.zero_le _, by omega, rfl, HX3.out, Below.refl _ _⟩
    case round =>
      obtain ⟨k, hk, hk40, rfl, hM, hB⟩ := hrel
      have HM := Lib.hid hM
      have HB := Lib.hid hB
      clear hM hB
      have HBw := Lib.hid (HW0.out.trans (HB.out.mono (by omega)))
      have HBx := Lib.hid ((HB.out.block w.heap.size (by omega)).trans HX1.out)
      obtain ⟨r0, r1, r2, _⟩ := cells3 HBx.out
      by_cases hlt : k < n1
      · by_cases hlt4 : k < 40
        · obtain ⟨b, off, z, rfl, hz, hc⟩ := (H.out.below HBw.out).r1.int hlt
          have hbw : b < w.heap.size := by
            obtain ⟨b', off', hA, hb', _⟩ := H.out.r1.2 (by omega)
            cases hA
            exact hb'
          have HZ := Lib.hid hz
          obtain ⟨hz1', hz2'⟩ := H.out.wf z (List.mem_of_getElem? hz)
          obtain ⟨q, hq⟩ : ∃ q, q = pk z 4294967296 := ⟨_, rfl⟩
          have HPz := Lib.hid (fun w' => hq ▸ pick_any z 4294967296 w' (by omega) hz1' hz2')
          have HQ := Lib.hid hq
          clear hz hq
          obtain ⟨mk, hmk⟩ : ∃ mk : Img, mk = ⟨(m.words.take k).map fun z => pk z 4294967296, mm, []⟩ := ⟨_, rfl⟩
          have hml : mk.words.length ≤ 40 := by have hlen := HLen.out; rw [hmk]; simp; omega
          have hmm2 : mk.mem = mm := by rw [hmk]
          have HM2 := Lib.hid (hmk ▸ HM.out)
          have HNx := Lib.hid (show ({ mk with words := mk.words ++ [q] } : Img) = ⟨(m.words.take (k + 1)).map fun z => pk z 4294967296, mm, []⟩ by
            rw [hmk, List.take_add_one, HZ.out, HQ.out]
            simp)
          clear hmk
          obtain ⟨v1, v2, h1, h2, h3⟩ := HM2.out
          have H1 := Lib.hid h1
          have H2 := Lib.hid h2
          have H3 := Lib.hid h3
          have hcell : wr.cell? ⟨w.heap.size + 1 + 1, 0, none⟩ = some v1 := by rw [cell_of_row wr _ 0 _ _ _ h1]; rfl
          have hwr : w.heap.size + 1 + 1 < wr.heap.size := (Array.getElem?_eq_some_iff.1 h1).1
          clear h1 h2 h3
          obtain ⟨i0, hi, hz0, hz1, hz2⟩ := info_parts i64_info
          have HRa := Lib.hid (show (wr.drew.alloc (.cells #[.int .i64 q] 3)).ownsRow (w.heap.size + 1 + 1 + 1) 3 1 v1 mk.words.length (mk.words.map (Value.int .i64)) from World.ownsRow.alloc (w := wr.drew) H2.out _)
          have HSa := Lib.hid (show (wr.drew.alloc (.cells #[.int .i64 q] 3)).cell? ⟨w.heap.size, 0, none⟩ = some (.slice (some ⟨b, off, none⟩) n1 c1) ∧ (wr.drew.alloc (.cells #[.int .i64 q] 3)).cell? ⟨b, off + k, none⟩ = some (.int .i64 z) from
            ⟨(World.cell?_alloc_lt _ _ _ (cell_lt r0)).trans r0, (World.cell?_alloc_lt _ _ _ (cell_lt hc)).trans hc⟩)
          have HSg := Lib.hid (fun (w3 : World) (hg : (wr.drew.alloc (.cells #[.int .i64 q] 3)).grownBy w3 v1.ownBlock) =>
            show (w3.cell? ⟨w.heap.size, 0, none⟩ = some (.slice (some ⟨b, off, none⟩) n1 c1) ∧ w3.cell? ⟨b, off + k, none⟩ = some (.int .i64 z)) ∧ w3.heap[w.heap.size + 1 + 1]? = some (.cells #[v1, .int .i64 mk.mem, v2] 25) ∧ w3.cell? ⟨w.heap.size + 1 + 1, 0, none⟩ = some v1 ∧ w3.frozen? ⟨w.heap.size + 1 + 1, 0, none⟩ = false from
              have hb3 := grown_own HRa.out hg (w.heap.size + 1 + 1 + 1) (Nat.le_refl _) (by simp; omega)
              have hk3 := (hb3.block (w.heap.size + 1 + 1) (by omega)).trans ((Below.heap_alloc wr.drew _ _ hwr).trans H1.out)
              ⟨⟨(hb3.cell (p := ⟨w.heap.size, 0, none⟩) (by simp; omega)).trans HSa.out.1, (hb3.cell (p := ⟨b, off + k, none⟩) (by simp; omega)).trans HSa.out.2⟩, hk3, by rw [cell_of_row w3 _ 0 _ _ _ hk3]; rfl, not_frozen hk3⟩)
          have HSs := Lib.hid (fun (w3 : World) (u : Value) (hs : w3.cell? ⟨w.heap.size, 0, none⟩ = some (.slice (some ⟨b, off, none⟩) n1 c1) ∧ w3.cell? ⟨b, off + k, none⟩ = some (.int .i64 z)) =>
            show (w3.setCell ⟨w.heap.size + 1 + 1, 0, none⟩ u).cell? ⟨w.heap.size, 0, none⟩ = some (.slice (some ⟨b, off, none⟩) n1 c1) ∧ (w3.setCell ⟨w.heap.size + 1 + 1, 0, none⟩ u).cell? ⟨b, off + k, none⟩ = some (.int .i64 z) from
              ⟨(World.cell?_setCell_far _ _ _ _ (by simp; omega)).trans hs.1, (World.cell?_setCell_far _ _ _ _ (by simp; omega)).trans hs.2⟩)
          have hcellA := (World.cell?_alloc_lt wr.drew (.cells #[.int .i64 q] 3) ⟨w.heap.size + 1 + 1, 0, none⟩ hwr).trans hcell
          have HBe := Lib.hid (fun (w3 : World) (u : Value) (hg : (wr.drew.alloc (.cells #[.int .i64 q] 3)).grownBy w3 v1.ownBlock) =>
            show Below (w.heap.size + 1 + 1) W (w3.setCell ⟨w.heap.size + 1 + 1, 0, none⟩ u) from
              (((HB.out.drew).alloc (by show w.heap.size + 1 + 1 ≤ wr.heap.size; omega) _).trans (grown_own HRa.out hg (w.heap.size + 1 + 1) (by omega) (by simp; omega))).setCell (by simp) u)
          go_wp2_with fail
          refine wp_region_held_drew (S := fun w' => w'.cell? ⟨w.heap.size, 0, none⟩ = some (.slice (some ⟨b, off, none⟩) n1 c1) ∧ w'.cell? ⟨b, off + k, none⟩ = some (.int .i64 z)) (by kernel_rfl) ⟨r0, hc⟩ (fun hHeld => ?_)
          refine wpAnyH_take (i := 0) (v := ?_) (at0) (by kernel_rfl) (by kernel_rfl) (by kernel_rfl) (fun _ _ _ h => h) (Or.inl ⟨rfl, ?_⟩) (by assumption) ?_
          rotate_left
          · (intro w hSw; (try dsimp only at hSw); go_simp; first | done | (with_reducible rfl))
          simp only [Act.put, List.setIfInBounds_toArray, List.set_cons_zero, List.set_cons_succ]
          refine wpAnyH_take (i := 2) (v := ?_) (atS (atS (at0))) (by kernel_rfl) (by kernel_rfl) (by kernel_rfl) (fun _ _ _ h => h) (Or.inl ⟨rfl, ?_⟩) (by assumption) ?_
          rotate_left
          · (intro w hSw; (try dsimp only at hSw); go_simp; first | done | (with_reducible rfl))
          simp only [Act.put, List.setIfInBounds_toArray, List.set_cons_zero, List.set_cons_succ]
          refine wpAnyH_take (i := 3) (v := ?_) (atS (atS (atS (at0)))) (by kernel_rfl) (by kernel_rfl) (by kernel_rfl) (fun _ _ _ h => h) (Or.inl ⟨rfl, ?_⟩) (by assumption) ?_
          rotate_left
          · (intro w hSw; (try dsimp only at hSw); go_simp; first | done | (with_reducible rfl))
          simp only [Act.put, List.setIfInBounds_toArray, List.set_cons_zero, List.set_cons_succ]
          refine wpAnyH_take (i := 4) (v := ?_) (atS (atS (atS (atS (at0))))) (by kernel_rfl) (by kernel_rfl) (by kernel_rfl) (fun _ _ _ h => h) (Or.inl ⟨rfl, ?_⟩) (by assumption) ?_
          rotate_left
          · (intro w hSw; (try dsimp only at hSw); go_simp; first | done | (with_reducible rfl))
          simp only [Act.put, List.setIfInBounds_toArray, List.set_cons_zero, List.set_cons_succ]
          refine wpAnyH_take (i := 5) (v := ?_) (atS (atS (atS (atS (atS (at0)))))) (by kernel_rfl) (by kernel_rfl) (by kernel_rfl) (fun _ _ _ h => h) (Or.inl ⟨rfl, ?_⟩) (by assumption) ?_
          rotate_left
          · (intro w hSw; (try dsimp only at hSw); go_simp; first | done | (with_reducible rfl))
          simp only [Act.put, List.setIfInBounds_toArray, List.set_cons_zero, List.set_cons_succ]
          refine wpAnyH_take (i := 6) (v := ?_) (atS (atS (atS (atS (atS (atS (at0))))))) (by kernel_rfl) (by kernel_rfl) (by kernel_rfl) (fun _ _ _ h => h) (Or.inl ⟨rfl, ?_⟩) (by assumption) ?_
          rotate_left
          · (intro w hSw; (try dsimp only at hSw); go_simp; first | done | (with_reducible rfl))
          simp only [Act.put, List.setIfInBounds_toArray, List.set_cons_zero, List.set_cons_succ]
          refine wpAnyH_ready (rs := [1, 7]) (by kernel_rfl) (by simp) ?_
          refine AllReadyH.cons (atS (at0)) (fun K hK => ?_) (AllReadyH.cons (atS (atS (atS (atS (atS (atS (atS (at0)))))))) (fun K hK => ?_) AllReadyH.nil)
          · go_simp
            refine hK.out _ _ hHeld (fun hHeld => ?_)
            clear hK K
            refine wpAnyH_ready (rs := [7]) (by kernel_rfl) (by simp) ?_
            refine AllReadyH.cons (atS (atS (atS (atS (atS (atS (atS (at0)))))))) (fun K hK => ?_) AllReadyH.nil
            go_simp
            go_wp2_with (go_at_call 22; refine (HPz.out _).mono ?_; rintro e w' ⟨rfl, rfl⟩)
            refine hK.out _ _ hHeld (fun hHeld => ?_)
            clear hK K
            refine wpAnyH_ready (rs := [8]) (by kernel_rfl) (by simp) ?_
            refine AllReadyH.cons (atS (atS (atS (atS (atS (atS (atS (atS (at0))))))))) (fun K hK => ?_) AllReadyH.nil
            go_simp
            refine hK.out _ _ HSa.out (fun hHeld => ?_)
            clear hK K
            refine wpAnyH_ready (rs := [9]) (by kernel_rfl) (by simp) ?_
            refine AllReadyH.cons (atS (atS (atS (atS (atS (atS (atS (atS (atS (at0)))))))))) (fun K hK => ?_) AllReadyH.nil
            rw [if_pos (by rfl)]
            refine wp_append_own _ (.tmp 24) (.tmp 31) 22 rfl (w.heap.size + 1 + 1 + 1) 3 i0 _ 1 8 Tryz.underlying22 hi hz0 hz1 hz2 rfl (by decide) v1 mk.words.length _ rfl HRa.out ⟨wr.heap.size, 0, none⟩ 1 1 [.int .i64 q] rfl rfl (cell_one_new _ _ _) (by simp [Value.oneCell']) (by unfold maxLen; omega) (by omega) (by simp; omega) ?_
            intro v' w3 hown' hgrow _
            obtain ⟨A', c', rfl, _⟩ := own_slice hown'
            have HOwn := Lib.hid hown'
            have HGrow := Lib.hid hgrow
            clear hown' hgrow
            obtain ⟨hs3, hk3, hc3, hf3⟩ := HSg.out w3 HGrow.out
            refine hK.out _ _ hs3 (fun hHeld => ?_)
            clear hK K
            refine wpAnyH_take (i := 10) (v := ?_) (atS (atS (atS (atS (atS (atS (atS (atS (atS (atS (at0))))))))))) (by kernel_rfl) (by kernel_rfl) (by kernel_rfl) (fun _ _ _ h => h) (Or.inl ⟨rfl, ?_⟩) (by assumption) ?_
            rotate_left
            · (intro w hSw; (try dsimp only at hSw); go_simp; first | done | (with_reducible rfl))
            simp only [Act.put, List.setIfInBounds_toArray, List.set_cons_zero, List.set_cons_succ]
            refine wpAnyH_ready (rs := [11]) (by kernel_rfl) (by simp) ?_
            refine AllReadyH.cons (atS (atS (atS (atS (atS (atS (atS (atS (atS (atS (atS (at0)))))))))))) (fun K hK => ?_) AllReadyH.nil
            go_simp
            refine hK.out _ _ (HSs.out w3 _ hs3) (fun hHeld => ?_)
            clear hK K
            refine wpAnyH_done (by kernel_rfl) ?_ _
            go_wp2
            go_roundw
            case rel =>
              have hP4 := Mim.word ((Below.heap_alloc wr.drew (.cells #[.int .i64 q] 3) (w.heap.size + 1 + 1) hwr).trans H1.out) (World.ownsRow.alloc (w := wr.drew) H2.out _) (World.ownsRow.alloc (w := wr.drew) H3.out _) HOwn.out HGrow.out
              rw [HNx.out] at hP4
              exact ⟨k + 1, by omega, by omega, by go_num, hP4, HBe.out w3 _ HGrow.out⟩
            case measure => simp [intOf]; omega
          · go_simp
            go_wp2_with (go_at_call 22; refine (HPz.out _).mono ?_; rintro e w' ⟨rfl, rfl⟩)
            refine hK.out _ _ hHeld (fun hHeld => ?_)
            clear hK K
            refine wpAnyH_ready (rs := [1, 8]) (by kernel_rfl) (by simp) ?_
            refine AllReadyH.cons (atS (at0)) (fun K hK => ?_) (AllReadyH.cons (atS (atS (atS (atS (atS (atS (atS (atS (at0))))))))) (fun K hK => ?_) AllReadyH.nil)
            · go_simp
              refine hK.out _ _ hHeld (fun hHeld => ?_)
              clear hK K
              refine wpAnyH_ready (rs := [8]) (by kernel_rfl) (by simp) ?_
              refine AllReadyH.cons (atS (atS (atS (atS (atS (atS (atS (atS (at0))))))))) (fun K hK => ?_) AllReadyH.nil
              go_simp
              refine hK.out _ _ HSa.out (fun hHeld => ?_)
              clear hK K
              refine wpAnyH_ready (rs := [9]) (by kernel_rfl) (by simp) ?_
              refine AllReadyH.cons (atS (atS (atS (atS (atS (atS (atS (atS (atS (at0)))))))))) (fun K hK => ?_) AllReadyH.nil
              rw [if_pos (by rfl)]
              refine wp_append_own _ (.tmp 24) (.tmp 31) 22 rfl (w.heap.size + 1 + 1 + 1) 3 i0 _ 1 8 Tryz.underlying22 hi hz0 hz1 hz2 rfl (by decide) v1 mk.words.length _ rfl HRa.out ⟨wr.heap.size, 0, none⟩ 1 1 [.int .i64 q] rfl rfl (cell_one_new _ _ _) (by simp [Value.oneCell']) (by unfold maxLen; omega) (by omega) (by simp; omega) ?_
              intro v' w3 hown' hgrow _
              obtain ⟨A', c', rfl, _⟩ := own_slice hown'
              have HOwn := Lib.hid hown'
              have HGrow := Lib.hid hgrow
              clear hown' hgrow
              obtain ⟨hs3, hk3, hc3, hf3⟩ := HSg.out w3 HGrow.out
              refine hK.out _ _ hs3 (fun hHeld => ?_)
              clear hK K
              refine wpAnyH_take (i := 10) (v := ?_) (atS (atS (atS (atS (atS (atS (atS (atS (atS (atS (at0))))))))))) (by kernel_rfl) (by kernel_rfl) (by kernel_rfl) (fun _ _ _ h => h) (Or.inl ⟨rfl, ?_⟩) (by assumption) ?_
              rotate_left
              · (intro w hSw; (try dsimp only at hSw); go_simp; first | done | (with_reducible rfl))
              simp only [Act.put, List.setIfInBounds_toArray, List.set_cons_zero, List.set_cons_succ]
              refine wpAnyH_ready (rs := [11]) (by kernel_rfl) (by simp) ?_
              refine AllReadyH.cons (atS (atS (atS (atS (atS (atS (atS (atS (atS (atS (atS (at0)))))))))))) (fun K hK => ?_) AllReadyH.nil
              go_simp
              refine hK.out _ _ (HSs.out w3 _ hs3) (fun hHeld => ?_)
              clear hK K
              refine wpAnyH_done (by kernel_rfl) ?_ _
              go_wp2
              go_roundw
              case rel =>
                have hP4 := Mim.word ((Below.heap_alloc wr.drew (.cells #[.int .i64 q] 3) (w.heap.size + 1 + 1) hwr).trans H1.out) (World.ownsRow.alloc (w := wr.drew) H2.out _) (World.ownsRow.alloc (w := wr.drew) H3.out _) HOwn.out HGrow.out
                rw [HNx.out] at hP4
                exact ⟨k + 1, by omega, by omega, by go_num, hP4, HBe.out w3 _ HGrow.out⟩
              case measure => simp [intOf]; omega
            · go_simp
              refine hK.out _ _ HSa.out (fun hHeld => ?_)
              clear hK K
              refine wpAnyH_ready (rs := [1]) (by kernel_rfl) (by simp) ?_
              refine AllReadyH.cons (atS (at0)) (fun K hK => ?_) AllReadyH.nil
              go_simp
              refine hK.out _ _ hHeld (fun hHeld => ?_)
              clear hK K
              refine wpAnyH_ready (rs := [9]) (by kernel_rfl) (by simp) ?_
              refine AllReadyH.cons (atS (atS (atS (atS (atS (atS (atS (atS (atS (at0)))))))))) (fun K hK => ?_) AllReadyH.nil
              rw [if_pos (by rfl)]
              refine wp_append_own _ (.tmp 24) (.tmp 31) 22 rfl (w.heap.size + 1 + 1 + 1) 3 i0 _ 1 8 Tryz.underlying22 hi hz0 hz1 hz2 rfl (by decide) v1 mk.words.length _ rfl HRa.out ⟨wr.heap.size, 0, none⟩ 1 1 [.int .i64 q] rfl rfl (cell_one_new _ _ _) (by simp [Value.oneCell']) (by unfold maxLen; omega) (by omega) (by simp; omega) ?_
              intro v' w3 hown' hgrow _
              obtain ⟨A', c', rfl, _⟩ := own_slice hown'
              have HOwn := Lib.hid hown'
              have HGrow := Lib.hid hgrow
              clear hown' hgrow
              obtain ⟨hs3, hk3, hc3, hf3⟩ := HSg.out w3 HGrow.out
              refine hK.out _ _ hs3 (fun hHeld => ?_)
              clear hK K
              refine wpAnyH_take (i := 10) (v := ?_) (atS (atS (atS (atS (atS (atS (atS (atS (atS (atS (at0))))))))))) (by kernel_rfl) (by kernel_rfl) (by kernel_rfl) (fun _ _ _ h => h) (Or.inl ⟨rfl, ?_⟩) (by assumption) ?_
              rotate_left
              · (intro w hSw; (try dsimp only at hSw); go_simp; first | done | (with_reducible rfl))
              simp only [Act.put, List.setIfInBounds_toArray, List.set_cons_zero, List.set_cons_succ]
              refine wpAnyH_ready (rs := [11]) (by kernel_rfl) (by simp) ?_
              refine AllReadyH.cons (atS (atS (atS (atS (atS (atS (atS (atS (atS (atS (atS (at0)))))))))))) (fun K hK => ?_) AllReadyH.nil
              go_simp
              refine hK.out _ _ (HSs.out w3 _ hs3) (fun hHeld => ?_)
              clear hK K
              refine wpAnyH_done (by kernel_rfl) ?_ _
              go_wp2
              go_roundw
              case rel =>
                have hP4 := Mim.word ((Below.heap_alloc wr.drew (.cells #[.int .i64 q] 3) (w.heap.size + 1 + 1) hwr).trans H1.out) (World.ownsRow.alloc (w := wr.drew) H2.out _) (World.ownsRow.alloc (w := wr.drew) H3.out _) HOwn.out HGrow.out
                rw [HNx.out] at hP4
                exact ⟨k + 1, by omega, by omega, by go_num, hP4, HBe.out w3 _ HGrow.out⟩
              case measure => simp [intOf]; omega
        · have hM := HM.out
          rw [show k = 40 by omega] at hM
          go_wp2
          go_meet
          exact ⟨⟨k, rfl, hk40⟩, hM, HB.out⟩
      · have hM := HM.out
        have hkn : m.words.take k = m.words.take 40 := by
          have hlen := HLen.out
          rw [List.take_of_length_le (by omega), List.take_of_length_le (by omega)]
        rw [hkn] at hM
        go_wp2
        go_meet
        exact ⟨⟨k, rfl, hk40⟩, hM, HB.out⟩
  case rest =>
    obtain ⟨⟨k, rfl, hk40⟩, hM, hB⟩ := hcut
    obtain ⟨w1, rfl⟩ : ∃ x, x = wc := ⟨wc, rfl⟩
    have HB := Lib.hid hB
    clear hB
    obtain ⟨r0, r1, r2, _⟩ := cells3 ((HB.out.block w.heap.size (by omega)).trans HX1.out)
    obtain ⟨fw, hfw⟩ : ∃ fw, fw = fitWords m.words := ⟨_, rfl⟩
    have hM2 : Mim (w.heap.size + 1 + 1) ⟨fw, mm, []⟩ w1 := hfw ▸ hM
    have hfl : fw.length ≤ 40 := by rw [hfw]; simp [fitWords]; omega
    have HMf := Lib.hid hM2
    have HFw := Lib.hid hfw
    have hwr : w.heap.size + 1 + 1 < w1.heap.size := hM2.lt
    have HNm := Lib.hid (heap_alloc_new w1 (.cells #[.string ⟨#[46, 120]⟩, .string ⟨#[97]⟩, .string ⟨#[97, 98]⟩, .string ⟨#[98]⟩, .string ⟨#[99, 111, 100, 101]⟩, .string ⟨#[109, 97, 105, 110]⟩, .string ⟨#[115, 117, 109]⟩, .string ⟨#[126]⟩] 9))
    have HMa := Lib.hid (hM2.below (bA (o := .cells #[.string ⟨#[46, 120]⟩, .string ⟨#[97]⟩, .string ⟨#[97, 98]⟩, .string ⟨#[98]⟩, .string ⟨#[99, 111, 100, 101]⟩, .string ⟨#[109, 97, 105, 110]⟩, .string ⟨#[115, 117, 109]⟩, .string ⟨#[126]⟩] 9) (bR w1)))
    have HBa := Lib.hid (show Below (w.heap.size + 1 + 1) W (w1.alloc (.cells #[.string ⟨#[46, 120]⟩, .string ⟨#[97]⟩, .string ⟨#[97, 98]⟩, .string ⟨#[98]⟩, .string ⟨#[99, 111, 100, 101]⟩, .string ⟨#[109, 97, 105, 110]⟩, .string ⟨#[115, 117, 109]⟩, .string ⟨#[126]⟩] 9)) from HB.out.alloc (by omega) _)
    clear hM hM2 hfw
    go_wp2
    clear r0 r1 r2
    go_loopw [6] (fun vi ws => ∃ i : Nat, i ≤ 8 ∧ vi = .int .i64 i ∧ Mim (w.heap.size + 1 + 1) ⟨fw, mm, fitSyms m.syms fw.length i⟩ ws ∧ Below (w.heap.size + 1 + 1) W ws ∧ ws.heap[w1.heap.size]? = some (.cells #[.string ⟨#[46, 120]⟩, .string ⟨#[97]⟩, .string ⟨#[97, 98]⟩, .string ⟨#[98]⟩, .string ⟨#[99, 111, 100, 101]⟩, .string ⟨#[109, 97, 105, 110]⟩, .string ⟨#[115, 117, 109]⟩, .string ⟨#[126]⟩] 9)) (fun vi _ => 8 - (intOf vi).toNat)
    case atStart => exact ⟨0, by omega, rfl, HMa.out, HBa.out, HNm.out⟩
    case round =>
      obtain ⟨i, hi8, rfl, hM, hBs, hNm⟩ := hrel
      obtain ⟨ws, rfl⟩ : ∃ x, x = wr := ⟨wr, rfl⟩
      have HM := Lib.hid hM
      have HBs := Lib.hid hBs
      have HNs := Lib.hid hNm
      clear hM hBs hNm HMa HBa
      by_cases hi : i < 8
      · go_wp2
        go_loopw [7] (fun vk wt => ∃ k : Nat, k ≤ n2 ∧ vk = .int .i64 k ∧ Mim (w.heap.size + 1 + 1) ⟨fw, mm, fitSyms m.syms fw.length i⟩ wt ∧ Below (w.heap.size + 1 + 1) W wt ∧ wt.heap[w1.heap.size]? = some (.cells #[.string ⟨#[46, 120]⟩, .string ⟨#[97]⟩, .string ⟨#[97, 98]⟩, .string ⟨#[98]⟩, .string ⟨#[99, 111, 100, 101]⟩, .string ⟨#[109, 97, 105, 110]⟩, .string ⟨#[115, 117, 109]⟩, .string ⟨#[126]⟩] 9) ∧ ∀ j x, j < k → m.syms[j]? = some x → ¬ hashOf x = (i : Int)) (fun vk _ => n2 - (intOf vk).toNat)
        case atStart => exact ⟨0, Nat.zero_le _, rfl, HM.out, HBs.out, HNs.out, fun j x h => absurd h (by omega)⟩
        case round =>
          obtain ⟨k2, hk2, rfl, hM, hBt, hNm, hno⟩ := hrel
          obtain ⟨wt, rfl⟩ : ∃ x, x = wr := ⟨wr, rfl⟩
          have HM := Lib.hid hM
          have HBt := Lib.hid hBt
          have HNt := Lib.hid hNm
          have HNo := Lib.hid hno
          clear hM hBt hNm hno
          have HBw2 := Lib.hid (HW0.out.trans (HBt.out.mono (by omega)))
          have HBx2 := Lib.hid ((HBt.out.block w.heap.size (by omega)).trans HX1.out)
          obtain ⟨r0, r1, r2, _⟩ := cells3 HBx2.out
          have hsl := H.out.r2.sym_len
          by_cases hlt2 : k2 < n2
          · obtain ⟨b, off, nm, pl, rfl, hx, hc, hd⟩ := (H.out.below HBw2.out).r2.sym hlt2
            obtain ⟨hnl, hpl1, hpl2⟩ := H.out.sz _ (List.mem_of_getElem? hx)
            have HX := Lib.hid hx
            dsimp only at hnl hpl1 hpl2
            have hw1 : -9223372036854775808 ≤ wrap64 ((nm.length : Int) + pl) ∧ wrap64 ((nm.length : Int) + pl) ≤ 9223372036854775807 := by unfold wrap64; omega
            obtain ⟨hv, hhv⟩ : ∃ hv, hv = hashOf (nm, pl) := ⟨_, rfl⟩
            have HPh := Lib.hid (fun w' => (hhv ▸ pick_any (wrap64 ((nm.length : Int) + pl)) 8 w' (by omega) hw1.1 hw1.2 : Calls Tryz.prog 22 #[.int .i64 (wrap64 ((nm.length : Int) + pl)), .int .i64 8] w' fun e w'' => e = .returned (.int .i64 hv) ∧ w' = w''))
            have HHv := Lib.hid hhv
            clear hx hhv hw1
            by_cases hhi : hv = (i : Int)
            · have HFs := Lib.hid (show m.syms.find? (fun x => hashOf x == (i : Int)) = some (nm, pl) by
                rw [List.find?_eq_some_iff_getElem]
                obtain ⟨hk, hkx⟩ := List.getElem?_eq_some_iff.1 HX.out
                refine ⟨by rw [← HHv.out]; simpa using hhi, k2, hk, hkx, fun j hj => ?_⟩
                have := HNo.out j _ hj (List.getElem?_eq_getElem (by omega))
                simpa using this)
              have hhi' : (hv == (i : Int)) = true := by simpa using hhi
              go_wp2
              go_quiet ((refine (HPh.out _).mono ?_; rintro e w' ⟨rfl, rfl⟩; exact ⟨rfl, _, rfl⟩))
              obtain ⟨wq, hwq⟩ : ∃ x, x = wt.drewN nq := ⟨_, rfl⟩
              have HMq := Lib.hid (show Mim (w.heap.size + 1 + 1) ⟨fw, mm, fitSyms m.syms fw.length i⟩ wq by rw [hwq]; exact HM.out.below (bN (bR wt)))
              have HBq := Lib.hid (show Below (w.heap.size + 1 + 1) W wq by rw [hwq]; exact below_drewN HBt.out nq)
              have HNq := Lib.hid (show wq.heap[w1.heap.size]? = some (.cells #[.string ⟨#[46, 120]⟩, .string ⟨#[97]⟩, .string ⟨#[97, 98]⟩, .string ⟨#[98]⟩, .string ⟨#[99, 111, 100, 101]⟩, .string ⟨#[109, 97, 105, 110]⟩, .string ⟨#[115, 117, 109]⟩, .string ⟨#[126]⟩] 9) by rw [hwq]; exact HNt.out)
              have s2 : wq.cell? ⟨w.heap.size, 2, none⟩ = some (.slice (some ⟨b, off, none⟩) n2 c2) := by rw [hwq]; exact r2
              have sd : wq.cell? ⟨b, off + k2 * 2 + 1, none⟩ = some (.int .i64 pl) := by rw [hwq]; exact hd
              rw [← hwq]
              clear hwq r0 r1 r2 hc hd
              have sn : wq.cell? ⟨w1.heap.size, i, none⟩ = some (.string (str (nameAt i))) := by
                rw [cell_of_row wq _ i _ _ _ HNq.out]
                exact names_at i hi
              have hbw : b < w.heap.size := by
                obtain ⟨b', off', hA, hb', _⟩ := H.out.r2.2 (by omega)
                cases hA
                exact hb'
              obtain ⟨q, hq⟩ : ∃ q, q = pk pl ((fw.length : Int) + 1) := ⟨_, rfl⟩
              have hPz0 : ∀ w', Calls Tryz.prog 22 #[.int .i64 pl, .int .i64 (IntKind.i64.wrap ((fw.length : Int) + 1))] w' (fun e w'' => e = .returned (.int .i64 q) ∧ w' = w'') := fun w' => by
                rw [IntWalk.i64_in ((fw.length : Int) + 1) (by omega), hq]
                exact pick_any pl ((fw.length : Int) + 1) w' (by omega) hpl1 hpl2
              have HPz := Lib.hid hPz0
              clear hPz0
              have hq0 : 0 ≤ q := hq ▸ pk_lo pl ((fw.length : Int) + 1) (by omega)
              have hq1 : q ≤ 40 := by have := pk_hi pl ((fw.length : Int) + 1) (by omega); omega
              obtain ⟨sy, hsy⟩ : ∃ sy, sy = fitSyms m.syms fw.length i := ⟨_, rfl⟩
              have hsl2 : sy.length ≤ 8 := by have := fitSyms_len m.syms fw.length i; rw [hsy]; omega
              have HNx := Lib.hid (show ({ (⟨fw, mm, sy⟩ : Img) with syms := sy ++ [(nameAt i, 4 * q)] } : Img) = ⟨fw, mm, fitSyms m.syms fw.length (i + 1)⟩ by
                rw [fitSyms_succ, hsy, fitSym, HFs.out, hq])
              have hMq := HMq.out
              rw [← hsy] at hMq
              clear hsy hq
              obtain ⟨v1, v2, h1, h2, h3⟩ := hMq
              obtain ⟨A', c', rfl, _⟩ := own_slice h2
              have H1 := Lib.hid h1
              have H2 := Lib.hid h2
              have H3 := Lib.hid h3
              have hcell : wq.cell? ⟨w.heap.size + 1 + 1, 2, none⟩ = some v2 := by rw [cell_of_row wq _ 2 _ _ _ h1]; rfl
              have hcell0 : wq.cell? ⟨w.heap.size + 1 + 1, 0, none⟩ = some (.slice A' fw.length c') := by rw [cell_of_row wq _ 0 _ _ _ h1]; rfl
              have hwq : w.heap.size + 1 + 1 < wq.heap.size := (Array.getElem?_eq_some_iff.1 h1).1
              have hnq : w1.heap.size < wq.heap.size := (Array.getElem?_eq_some_iff.1 HNq.out).1
              clear h1 h2 h3
              obtain ⟨i0, hi', hz0, hz1, hz2⟩ := info_parts sym_info
              have HRa := Lib.hid (show (wq.drew.alloc (.cells #[.string (str (nameAt i)), .int .i64 (4 * q)] 45)).ownsRow (w.heap.size + 1 + 1 + 1) 45 2 v2 sy.length (symCells sy) from World.ownsRow.alloc (w := wq.drew) H3.out _)
              have HSa := Lib.hid (show ((wq.drew.alloc (.cells #[.string (str (nameAt i)), .int .i64 (4 * q)] 45)).cell? ⟨w1.heap.size, i, none⟩ = some (.string (str (nameAt i))) ∧ (wq.drew.alloc (.cells #[.string (str (nameAt i)), .int .i64 (4 * q)] 45)).cell? ⟨w.heap.size, 2, none⟩ = some (.slice (some ⟨b, off, none⟩) n2 c2) ∧ (wq.drew.alloc (.cells #[.string (str (nameAt i)), .int .i64 (4 * q)] 45)).cell? ⟨b, off + k2 * 2 + 1, none⟩ = some (.int .i64 pl) ∧ (wq.drew.alloc (.cells #[.string (str (nameAt i)), .int .i64 (4 * q)] 45)).cell? ⟨w.heap.size + 1 + 1, 0, none⟩ = some (.slice A' fw.length c')) from
                ⟨(World.cell?_alloc_lt wq.drew _ _ hnq).trans sn, (World.cell?_alloc_lt wq.drew _ ⟨w.heap.size, 2, none⟩ (by show w.heap.size < wq.heap.size; omega)).trans s2, (World.cell?_alloc_lt wq.drew _ ⟨b, off + k2 * 2 + 1, none⟩ (by show b < wq.heap.size; omega)).trans sd, (World.cell?_alloc_lt wq.drew _ _ hwq).trans hcell0⟩)
              have hcellA := (World.cell?_alloc_lt wq.drew (.cells #[.string (str (nameAt i)), .int .i64 (4 * q)] 45) ⟨w.heap.size + 1 + 1, 2, none⟩ hwq).trans hcell
              have HSg := Lib.hid (fun (w3 : World) (hg : (wq.drew.alloc (.cells #[.string (str (nameAt i)), .int .i64 (4 * q)] 45)).grownBy w3 v2.ownBlock) =>
                show ((w3.cell? ⟨w1.heap.size, i, none⟩ = some (.string (str (nameAt i))) ∧ w3.cell? ⟨w.heap.size, 2, none⟩ = some (.slice (some ⟨b, off, none⟩) n2 c2) ∧ w3.cell? ⟨b, off + k2 * 2 + 1, none⟩ = some (.int .i64 pl) ∧ w3.cell? ⟨w.heap.size + 1 + 1, 0, none⟩ = some (.slice A' fw.length c'))) ∧ w3.heap[w.heap.size + 1 + 1]? = some (.cells #[.slice A' fw.length c', .int .i64 mm, v2] 25) ∧ w3.cell? ⟨w.heap.size + 1 + 1, 2, none⟩ = some v2 ∧ w3.frozen? ⟨w.heap.size + 1 + 1, 2, none⟩ = false from
                  have hb3 := grown_own HRa.out hg (w.heap.size + 1 + 1 + 1) (Nat.le_refl _) (by simp; omega)
                  have hk3 := (hb3.block (w.heap.size + 1 + 1) (by omega)).trans ((Below.heap_alloc wq.drew _ _ hwq).trans H1.out)
                  have hn3 := grown_keep HRa.out hg ((Below.heap_alloc wq.drew _ _ hnq).trans HNq.out) (.inl (by decide))
                  ⟨⟨by rw [cell_of_row w3 _ i _ _ _ hn3]; exact names_at i hi, (hb3.cell (p := ⟨w.heap.size, 2, none⟩) (by simp; omega)).trans HSa.out.2.1, (hb3.cell (p := ⟨b, off + k2 * 2 + 1, none⟩) (by simp; omega)).trans HSa.out.2.2.1, by rw [cell_of_row w3 _ 0 _ _ _ hk3]; rfl⟩, hk3, by rw [cell_of_row w3 _ 2 _ _ _ hk3]; rfl, not_frozen hk3⟩)
              have HSs := Lib.hid (fun (w3 : World) (u : Value) (hs : (w3.cell? ⟨w1.heap.size, i, none⟩ = some (.string (str (nameAt i))) ∧ w3.cell? ⟨w.heap.size, 2, none⟩ = some (.slice (some ⟨b, off, none⟩) n2 c2) ∧ w3.cell? ⟨b, off + k2 * 2 + 1, none⟩ = some (.int .i64 pl) ∧ w3.cell? ⟨w.heap.size + 1 + 1, 0, none⟩ = some (.slice A' fw.length c'))) => show ((w3.setCell ⟨w.heap.size + 1 + 1, 2, none⟩ u).cell? ⟨w1.heap.size, i, none⟩ = some (.string (str (nameAt i))) ∧ (w3.setCell ⟨w.heap.size + 1 + 1, 2, none⟩ u).cell? ⟨w.heap.size, 2, none⟩ = some (.slice (some ⟨b, off, none⟩) n2 c2) ∧ (w3.setCell ⟨w.heap.size + 1 + 1, 2, none⟩ u).cell? ⟨b, off + k2 * 2 + 1, none⟩ = some (.int .i64 pl) ∧ (w3.setCell ⟨w.heap.size + 1 + 1, 2, none⟩ u).cell? ⟨w.heap.size + 1 + 1, 0, none⟩ = some (.slice A' fw.length c')) from
                ⟨(World.cell?_setCell_far _ _ _ _ (by simp; omega)).trans hs.1, (World.cell?_setCell_far _ _ _ _ (by show w.heap.size + 1 + 1 ≠ w.heap.size; omega)).trans hs.2.1, (World.cell?_setCell_far _ _ _ _ (by simp; omega)).trans hs.2.2.1, (World.cell?_setCell_other _ _ _ _ (by simp)).trans hs.2.2.2⟩)
              have HBe := Lib.hid (fun (w3 : World) (u : Value) (hg : (wq.drew.alloc (.cells #[.string (str (nameAt i)), .int .i64 (4 * q)] 45)).grownBy w3 v2.ownBlock) =>
                show Below (w.heap.size + 1 + 1) W (w3.setCell ⟨w.heap.size + 1 + 1, 2, none⟩ u) ∧ (w3.setCell ⟨w.heap.size + 1 + 1, 2, none⟩ u).heap[w1.heap.size]? = some (.cells #[.string ⟨#[46, 120]⟩, .string ⟨#[97]⟩, .string ⟨#[97, 98]⟩, .string ⟨#[98]⟩, .string ⟨#[99, 111, 100, 101]⟩, .string ⟨#[109, 97, 105, 110]⟩, .string ⟨#[115, 117, 109]⟩, .string ⟨#[126]⟩] 9) from
                  ⟨(((HBq.out.drew).alloc (by show w.heap.size + 1 + 1 ≤ wq.heap.size; omega) _).trans (grown_own HRa.out hg (w.heap.size + 1 + 1) (by omega) (by simp; omega))).setCell (by simp) u,
                    by rw [Below.heap_setCell _ _ _ _ (by simp; omega)]; exact grown_keep HRa.out hg ((Below.heap_alloc wq.drew _ _ hnq).trans HNq.out) (.inl (by decide))⟩)
              go_wp2_with fail
              refine wp_region_held_drew (S := fun w' => (w'.cell? ⟨w1.heap.size, i, none⟩ = some (.string (str (nameAt i))) ∧ w'.cell? ⟨w.heap.size, 2, none⟩ = some (.slice (some ⟨b, off, none⟩) n2 c2) ∧ w'.cell? ⟨b, off + k2 * 2 + 1, none⟩ = some (.int .i64 pl) ∧ w'.cell? ⟨w.heap.size + 1 + 1, 0, none⟩ = some (.slice A' fw.length c'))) (by kernel_rfl) ⟨sn, s2, sd, hcell0⟩ (fun hHeld => ?_)
              refine wpAnyH_take (i := 0) (v := ?_) (at0) (by kernel_rfl) (by kernel_rfl) (by kernel_rfl) (fun _ _ _ h => h) (Or.inl ⟨rfl, ?_⟩) (by assumption) ?_
              rotate_left
              · (intro w hSw; (try dsimp only at hSw); go_simp; first | done | (with_reducible rfl))
              simp only [Act.put, List.setIfInBounds_toArray, List.set_cons_zero, List.set_cons_succ]
              refine wpAnyH_take (i := 2) (v := ?_) (atS (atS (at0))) (by kernel_rfl) (by kernel_rfl) (by kernel_rfl) (fun _ _ _ h => h) (Or.inl ⟨rfl, ?_⟩) (by assumption) ?_
              rotate_left
              · (intro w hSw; (try dsimp only at hSw); go_simp; first | done | (with_reducible rfl))
              simp only [Act.put, List.setIfInBounds_toArray, List.set_cons_zero, List.set_cons_succ]
              refine wpAnyH_take (i := 3) (v := ?_) (atS (atS (atS (at0)))) (by kernel_rfl) (by kernel_rfl) (by kernel_rfl) (fun _ _ _ h => h) (Or.inl ⟨rfl, ?_⟩) (by assumption) ?_
              rotate_left
              · (intro w hSw; (try dsimp only at hSw); go_simp; first | done | (with_reducible rfl))
              simp only [Act.put, List.setIfInBounds_toArray, List.set_cons_zero, List.set_cons_succ]
              refine wpAnyH_take (i := 4) (v := ?_) (atS (atS (atS (atS (at0))))) (by kernel_rfl) (by kernel_rfl) (by kernel_rfl) (fun _ _ _ h => h) (Or.inl ⟨rfl, ?_⟩) (by assumption) ?_
              rotate_left
              · (intro w hSw; (try dsimp only at hSw); go_simp; first | done | (with_reducible rfl))
              simp only [Act.put, List.setIfInBounds_toArray, List.set_cons_zero, List.set_cons_succ]
              refine wpAnyH_take (i := 5) (v := ?_) (atS (atS (atS (atS (atS (at0)))))) (by kernel_rfl) (by kernel_rfl) (by kernel_rfl) (fun _ _ _ h => h) (Or.inl ⟨rfl, ?_⟩) (by assumption) ?_
              rotate_left
              · (intro w hSw; (try dsimp only at hSw); go_simp; first | done | (with_reducible rfl))
              simp only [Act.put, List.setIfInBounds_toArray, List.set_cons_zero, List.set_cons_succ]
              refine wpAnyH_take (i := 6) (v := ?_) (atS (atS (atS (atS (atS (atS (at0))))))) (by kernel_rfl) (by kernel_rfl) (by kernel_rfl) (fun _ _ _ h => h) (Or.inl ⟨rfl, ?_⟩) (by assumption) ?_
              rotate_left
              · (intro w hSw; (try dsimp only at hSw); go_simp; first | done | (with_reducible rfl))
              simp only [Act.put, List.setIfInBounds_toArray, List.set_cons_zero, List.set_cons_succ]
              refine wpAnyH_take (i := 7) (v := ?_) (atS (atS (atS (atS (atS (atS (atS (at0)))))))) (by kernel_rfl) (by kernel_rfl) (by kernel_rfl) (fun _ _ _ h => h) (Or.inl ⟨rfl, ?_⟩) (by assumption) ?_
              rotate_left
              · (intro w hSw; (try dsimp only at hSw); go_simp; first | done | (with_reducible rfl))
              simp only [Act.put, List.setIfInBounds_toArray, List.set_cons_zero, List.set_cons_succ]
              refine wpAnyH_take (i := 8) (v := ?_) (atS (atS (atS (atS (atS (atS (atS (atS (at0))))))))) (by kernel_rfl) (by kernel_rfl) (by kernel_rfl) (fun _ _ _ h => h) (Or.inl ⟨rfl, ?_⟩) (by assumption) ?_
              rotate_left
              · (intro w hSw; (try dsimp only at hSw); go_simp; first | done | (with_reducible rfl))
              simp only [Act.put, List.setIfInBounds_toArray, List.set_cons_zero, List.set_cons_succ]
              refine wpAnyH_take (i := 9) (v := ?_) (atS (atS (atS (atS (atS (atS (atS (atS (atS (at0)))))))))) (by kernel_rfl) (by kernel_rfl) (by kernel_rfl) (fun _ _ _ h => h) (Or.inl ⟨rfl, ?_⟩) (by assumption) ?_
              rotate_left
              · (intro w hSw; (try dsimp only at hSw); go_simp; first | done | (with_reducible rfl))
              simp only [Act.put, List.setIfInBounds_toArray, List.set_cons_zero, List.set_cons_succ]
              refine wpAnyH_take (i := 10) (v := ?_) (atS (atS (atS (atS (atS (atS (atS (atS (atS (atS (at0))))))))))) (by kernel_rfl) (by kernel_rfl) (by kernel_rfl) (fun _ _ _ h => h) (Or.inl ⟨rfl, ?_⟩) (by assumption) ?_
              rotate_left
              · (intro w hSw; (try dsimp only at hSw); go_simp; first | done | (with_reducible rfl))
              simp only [Act.put, List.setIfInBounds_toArray, List.set_cons_zero, List.set_cons_succ]
              refine wpAnyH_take (i := 11) (v := ?_) (atS (atS (atS (atS (atS (atS (atS (atS (atS (atS (atS (at0)))))))))))) (by kernel_rfl) (by kernel_rfl) (by kernel_rfl) (fun _ _ _ h => h) (Or.inl ⟨rfl, ?_⟩) (by assumption) ?_
              rotate_left
              · (intro w hSw; (try dsimp only at hSw); go_simp; first | done | (with_reducible rfl))
              simp only [Act.put, List.setIfInBounds_toArray, List.set_cons_zero, List.set_cons_succ]
              refine wpAnyH_take (i := 12) (v := ?_) (atS (atS (atS (atS (atS (atS (atS (atS (atS (atS (atS (atS (at0))))))))))))) (by kernel_rfl) (by kernel_rfl) (by kernel_rfl) (fun _ _ _ h => h) (Or.inl ⟨rfl, ?_⟩) (by assumption) ?_
              rotate_left
              · (intro w hSw; (try dsimp only at hSw); go_simp; first | done | (with_reducible rfl))
              simp only [Act.put, List.setIfInBounds_toArray, List.set_cons_zero, List.set_cons_succ]
              refine wpAnyH_take (i := 13) (v := ?_) (atS (atS (atS (atS (atS (atS (atS (atS (atS (atS (atS (atS (atS (at0)))))))))))))) (by kernel_rfl) (by kernel_rfl) (by kernel_rfl) (fun _ _ _ h => h) (Or.inl ⟨rfl, ?_⟩) (by assumption) ?_
              rotate_left
              · (intro w hSw; (try dsimp only at hSw); go_simp; first | done | (with_reducible rfl))
              simp only [Act.put, List.setIfInBounds_toArray, List.set_cons_zero, List.set_cons_succ]
              refine wpAnyH_take (i := 14) (v := ?_) (atS (atS (atS (atS (atS (atS (atS (atS (atS (atS (atS (atS (atS (atS (at0))))))))))))))) (by kernel_rfl) (by kernel_rfl) (by kernel_rfl) (fun _ _ _ h => h) (Or.inl ⟨rfl, ?_⟩) (by assumption) ?_
              rotate_left
              · (intro w hSw; (try dsimp only at hSw); go_simp; first | done | (with_reducible rfl))
              simp only [Act.put, List.setIfInBounds_toArray, List.set_cons_zero, List.set_cons_succ]
              refine wpAnyH_take (i := 15) (v := ?_) (atS (atS (atS (atS (atS (atS (atS (atS (atS (atS (atS (atS (atS (atS (atS (at0)))))))))))))))) (by kernel_rfl) (by kernel_rfl) (by kernel_rfl) (fun _ _ _ h => h) (Or.inl ⟨rfl, ?_⟩) (by assumption) ?_
              rotate_left
              · (intro w hSw; (try dsimp only at hSw); go_simp; first | done | (with_reducible rfl))
              simp only [Act.put, List.setIfInBounds_toArray, List.set_cons_zero, List.set_cons_succ]
              refine wpAnyH_ready (rs := [1, 16]) (by kernel_rfl) (by simp) ?_
              refine AllReadyH.cons (atS (at0)) (fun K hK => ?_) (AllReadyH.cons (atS (atS (atS (atS (atS (atS (atS (atS (atS (atS (atS (atS (atS (atS (atS (atS (at0))))))))))))))))) (fun K hK => ?_) AllReadyH.nil)
              · go_simp
                refine hK.out _ _ hHeld (fun hHeld => ?_)
                clear hK K
                refine wpAnyH_ready (rs := [16]) (by kernel_rfl) (by simp) ?_
                refine AllReadyH.cons (atS (atS (atS (atS (atS (atS (atS (atS (atS (atS (atS (atS (atS (atS (atS (atS (at0))))))))))))))))) (fun K hK => ?_) AllReadyH.nil
                go_simp
                go_wp2_with (go_at_call 22; refine (HPz.out _).mono ?_; rintro e w' ⟨rfl, rfl⟩)
                refine hK.out _ _ hHeld (fun hHeld => ?_)
                clear hK K
                have hwr2 : IntKind.i64.wrap (4 * q) = 4 * q := IntWalk.i64_in _ (by omega)
                refine wpAnyH_take (i := 17) (v := ?_) (atS (atS (atS (atS (atS (atS (atS (atS (atS (atS (atS (atS (atS (atS (atS (atS (atS (at0)))))))))))))))))) (by kernel_rfl) (by kernel_rfl) (by kernel_rfl) (fun _ _ _ h => h) (Or.inl ⟨rfl, ?_⟩) (by assumption) ?_
                rotate_left
                · (intro w hSw; (try dsimp only at hSw); go_simp; first | done | (with_reducible rfl))
                simp only [Act.put, List.setIfInBounds_toArray, List.set_cons_zero, List.set_cons_succ]
                clear hwr2
                refine wpAnyH_take (i := 18) (v := ?_) (atS (atS (atS (atS (atS (atS (atS (atS (atS (atS (atS (atS (atS (atS (atS (atS (atS (atS (at0))))))))))))))))))) (by kernel_rfl) (by kernel_rfl) (by kernel_rfl) (fun _ _ _ h => h) (Or.inl ⟨rfl, ?_⟩) (by assumption) ?_
                rotate_left
                · (intro w hSw; (try dsimp only at hSw); go_simp; first | done | (with_reducible rfl))
                simp only [Act.put, List.setIfInBounds_toArray, List.set_cons_zero, List.set_cons_succ]
                refine wpAnyH_ready (rs := [19]) (by kernel_rfl) (by simp) ?_
                refine AllReadyH.cons (atS (atS (atS (atS (atS (atS (atS (atS (atS (atS (atS (atS (atS (atS (atS (atS (atS (atS (atS (at0)))))))))))))))))))) (fun K hK => ?_) AllReadyH.nil
                go_simp
                refine hK.out _ _ HSa.out (fun hHeld => ?_)
                clear hK K
                refine wpAnyH_ready (rs := [20]) (by kernel_rfl) (by simp) ?_
                refine AllReadyH.cons (atS (atS (atS (atS (atS (atS (atS (atS (atS (atS (atS (atS (atS (atS (atS (atS (atS (atS (atS (atS (at0))))))))))))))))))))) (fun K hK => ?_) AllReadyH.nil
                rw [if_pos (by rfl)]
                refine wp_append_own _ (.tmp 64) (.tmp 82) 23 rfl (w.heap.size + 1 + 1 + 1) 45 i0 _ 2 24 Tryz.underlying23 hi' hz0 hz1 hz2 rfl (by decide) v2 sy.length _ rfl HRa.out ⟨wq.heap.size, 0, none⟩ 1 1 [.string (str (nameAt i)), .int .i64 (4 * q)] rfl rfl (two_new _ _ _ _) (by simp [Value.oneCell']) (by unfold maxLen; omega) (by omega) (by simp; omega) ?_
                intro v' w3 hown' hgrow _
                obtain ⟨A', c', rfl, _⟩ := own_slice hown'
                have HOwn := Lib.hid hown'
                have HGrow := Lib.hid hgrow
                clear hown' hgrow
                obtain ⟨hs3, hk3, hc3, hf3⟩ := HSg.out w3 HGrow.out
                refine hK.out _ _ hs3 (fun hHeld => ?_)
                clear hK K
                refine wpAnyH_take (i := 21) (v := ?_) (atS (atS (atS (atS (atS (atS (atS (atS (atS (atS (atS (atS (atS (atS (atS (atS (atS (atS (atS (atS (atS (at0)))))))))))))))))))))) (by kernel_rfl) (by kernel_rfl) (by kernel_rfl) (fun _ _ _ h => h) (Or.inl ⟨rfl, ?_⟩) (by assumption) ?_
                rotate_left
                · (intro w hSw; (try dsimp only at hSw); go_simp; first | done | (with_reducible rfl))
                simp only [Act.put, List.setIfInBounds_toArray, List.set_cons_zero, List.set_cons_succ]
                refine wpAnyH_ready (rs := [22]) (by kernel_rfl) (by simp) ?_
                refine AllReadyH.cons (atS (atS (atS (atS (atS (atS (atS (atS (atS (atS (atS (atS (atS (atS (atS (atS (atS (atS (atS (atS (atS (atS (at0))))))))))))))))))))))) (fun K hK => ?_) AllReadyH.nil
                go_simp
                refine hK.out _ _ (HSs.out w3 _ hs3) (fun hHeld => ?_)
                clear hK K
                refine wpAnyH_done (by kernel_rfl) ?_ _
                go_wp2
                have hP4 := Mim.sym (m := ⟨fw, mm, sy⟩) ((Below.heap_alloc wq.drew (.cells #[.string (str (nameAt i)), .int .i64 (4 * q)] 45) (w.heap.size + 1 + 1) hwq).trans H1.out) (World.ownsRow.alloc (w := wq.drew) H2.out _) (World.ownsRow.alloc (w := wq.drew) H3.out _) HOwn.out HGrow.out
                rw [HNx.out] at hP4
                go_roundw
                case rel => exact ⟨i + 1, by omega, by go_num, hP4, HBe.out w3 _ HGrow.out⟩
                case measure => simp [intOf]; omega
              · go_simp
                go_wp2_with (go_at_call 22; refine (HPz.out _).mono ?_; rintro e w' ⟨rfl, rfl⟩)
                refine hK.out _ _ hHeld (fun hHeld => ?_)
                clear hK K
                have hwr2 : IntKind.i64.wrap (4 * q) = 4 * q := IntWalk.i64_in _ (by omega)
                refine wpAnyH_take (i := 17) (v := ?_) (atS (atS (atS (atS (atS (atS (atS (atS (atS (atS (atS (atS (atS (atS (atS (atS (atS (at0)))))))))))))))))) (by kernel_rfl) (by kernel_rfl) (by kernel_rfl) (fun _ _ _ h => h) (Or.inl ⟨rfl, ?_⟩) (by assumption) ?_
                rotate_left
                · (intro w hSw; (try dsimp only at hSw); go_simp; first | done | (with_reducible rfl))
                simp only [Act.put, List.setIfInBounds_toArray, List.set_cons_zero, List.set_cons_succ]
                clear hwr2
                refine wpAnyH_take (i := 18) (v := ?_) (atS (atS (atS (atS (atS (atS (atS (atS (atS (atS (atS (atS (atS (atS (atS (atS (atS (atS (at0))))))))))))))))))) (by kernel_rfl) (by kernel_rfl) (by kernel_rfl) (fun _ _ _ h => h) (Or.inl ⟨rfl, ?_⟩) (by assumption) ?_
                rotate_left
                · (intro w hSw; (try dsimp only at hSw); go_simp; first | done | (with_reducible rfl))
                simp only [Act.put, List.setIfInBounds_toArray, List.set_cons_zero, List.set_cons_succ]
                refine wpAnyH_ready (rs := [1, 19]) (by kernel_rfl) (by simp) ?_
                refine AllReadyH.cons (atS (at0)) (fun K hK => ?_) (AllReadyH.cons (atS (atS (atS (atS (atS (atS (atS (atS (atS (atS (atS (atS (atS (atS (atS (atS (atS (atS (atS (at0)))))))))))))))))))) (fun K hK => ?_) AllReadyH.nil)
                · go_simp
                  refine hK.out _ _ hHeld (fun hHeld => ?_)
                  clear hK K
                  refine wpAnyH_ready (rs := [19]) (by kernel_rfl) (by simp) ?_
                  refine AllReadyH.cons (atS (atS (atS (atS (atS (atS (atS (atS (atS (atS (atS (atS (atS (atS (atS (atS (atS (atS (atS (at0)))))))))))))))))))) (fun K hK => ?_) AllReadyH.nil
                  go_simp
                  refine hK.out _ _ HSa.out (fun hHeld => ?_)
                  clear hK K
                  refine wpAnyH_ready (rs := [20]) (by kernel_rfl) (by simp) ?_
                  refine AllReadyH.cons (atS (atS (atS (atS (atS (atS (atS (atS (atS (atS (atS (atS (atS (atS (atS (atS (atS (atS (atS (atS (at0))))))))))))))))))))) (fun K hK => ?_) AllReadyH.nil
                  rw [if_pos (by rfl)]
                  refine wp_append_own _ (.tmp 64) (.tmp 82) 23 rfl (w.heap.size + 1 + 1 + 1) 45 i0 _ 2 24 Tryz.underlying23 hi' hz0 hz1 hz2 rfl (by decide) v2 sy.length _ rfl HRa.out ⟨wq.heap.size, 0, none⟩ 1 1 [.string (str (nameAt i)), .int .i64 (4 * q)] rfl rfl (two_new _ _ _ _) (by simp [Value.oneCell']) (by unfold maxLen; omega) (by omega) (by simp; omega) ?_
                  intro v' w3 hown' hgrow _
                  obtain ⟨A', c', rfl, _⟩ := own_slice hown'
                  have HOwn := Lib.hid hown'
                  have HGrow := Lib.hid hgrow
                  clear hown' hgrow
                  obtain ⟨hs3, hk3, hc3, hf3⟩ := HSg.out w3 HGrow.out
                  refine hK.out _ _ hs3 (fun hHeld => ?_)
                  clear hK K
                  refine wpAnyH_take (i := 21) (v := ?_) (atS (atS (atS (atS (atS (atS (atS (atS (atS (atS (atS (atS (atS (atS (atS (atS (atS (atS (atS (atS (atS (at0)))))))))))))))))))))) (by kernel_rfl) (by kernel_rfl) (by kernel_rfl) (fun _ _ _ h => h) (Or.inl ⟨rfl, ?_⟩) (by assumption) ?_
                  rotate_left
                  · (intro w hSw; (try dsimp only at hSw); go_simp; first | done | (with_reducible rfl))
                  simp only [Act.put, List.setIfInBounds_toArray, List.set_cons_zero, List.set_cons_succ]
                  refine wpAnyH_ready (rs := [22]) (by kernel_rfl) (by simp) ?_
                  refine AllReadyH.cons (atS (atS (atS (atS (atS (atS (atS (atS (atS (atS (atS (atS (atS (atS (atS (atS (atS (atS (atS (atS (atS (atS (at0))))))))))))))))))))))) (fun K hK => ?_) AllReadyH.nil
                  go_simp
                  refine hK.out _ _ (HSs.out w3 _ hs3) (fun hHeld => ?_)
                  clear hK K
                  refine wpAnyH_done (by kernel_rfl) ?_ _
                  go_wp2
                  have hP4 := Mim.sym (m := ⟨fw, mm, sy⟩) ((Below.heap_alloc wq.drew (.cells #[.string (str (nameAt i)), .int .i64 (4 * q)] 45) (w.heap.size + 1 + 1) hwq).trans H1.out) (World.ownsRow.alloc (w := wq.drew) H2.out _) (World.ownsRow.alloc (w := wq.drew) H3.out _) HOwn.out HGrow.out
                  rw [HNx.out] at hP4
                  go_roundw
                  case rel => exact ⟨i + 1, by omega, by go_num, hP4, HBe.out w3 _ HGrow.out⟩
                  case measure => simp [intOf]; omega
                · go_simp
                  refine hK.out _ _ HSa.out (fun hHeld => ?_)
                  clear hK K
                  refine wpAnyH_ready (rs := [1]) (by kernel_rfl) (by simp) ?_
                  refine AllReadyH.cons (atS (at0)) (fun K hK => ?_) AllReadyH.nil
                  go_simp
                  refine hK.out _ _ hHeld (fun hHeld => ?_)
                  clear hK K
                  refine wpAnyH_ready (rs := [20]) (by kernel_rfl) (by simp) ?_
                  refine AllReadyH.cons (atS (atS (atS (atS (atS (atS (atS (atS (atS (atS (atS (atS (atS (atS (atS (atS (atS (atS (atS (atS (at0))))))))))))))))))))) (fun K hK => ?_) AllReadyH.nil
                  rw [if_pos (by rfl)]
                  refine wp_append_own _ (.tmp 64) (.tmp 82) 23 rfl (w.heap.size + 1 + 1 + 1) 45 i0 _ 2 24 Tryz.underlying23 hi' hz0 hz1 hz2 rfl (by decide) v2 sy.length _ rfl HRa.out ⟨wq.heap.size, 0, none⟩ 1 1 [.string (str (nameAt i)), .int .i64 (4 * q)] rfl rfl (two_new _ _ _ _) (by simp [Value.oneCell']) (by unfold maxLen; omega) (by omega) (by simp; omega) ?_
                  intro v' w3 hown' hgrow _
                  obtain ⟨A', c', rfl, _⟩ := own_slice hown'
                  have HOwn := Lib.hid hown'
                  have HGrow := Lib.hid hgrow
                  clear hown' hgrow
                  obtain ⟨hs3, hk3, hc3, hf3⟩ := HSg.out w3 HGrow.out
                  refine hK.out _ _ hs3 (fun hHeld => ?_)
                  clear hK K
                  refine wpAnyH_take (i := 21) (v := ?_) (atS (atS (atS (atS (atS (atS (atS (atS (atS (atS (atS (atS (atS (atS (atS (atS (atS (atS (atS (atS (atS (at0)))))))))))))))))))))) (by kernel_rfl) (by kernel_rfl) (by kernel_rfl) (fun _ _ _ h => h) (Or.inl ⟨rfl, ?_⟩) (by assumption) ?_
                  rotate_left
                  · (intro w hSw; (try dsimp only at hSw); go_simp; first | done | (with_reducible rfl))
                  simp only [Act.put, List.setIfInBounds_toArray, List.set_cons_zero, List.set_cons_succ]
                  refine wpAnyH_ready (rs := [22]) (by kernel_rfl) (by simp) ?_
                  refine AllReadyH.cons (atS (atS (atS (atS (atS (atS (atS (atS (atS (atS (atS (atS (atS (atS (atS (atS (atS (atS (atS (atS (atS (atS (at0))))))))))))))))))))))) (fun K hK => ?_) AllReadyH.nil
                  go_simp
                  refine hK.out _ _ (HSs.out w3 _ hs3) (fun hHeld => ?_)
                  clear hK K
                  refine wpAnyH_done (by kernel_rfl) ?_ _
                  go_wp2
                  have hP4 := Mim.sym (m := ⟨fw, mm, sy⟩) ((Below.heap_alloc wq.drew (.cells #[.string (str (nameAt i)), .int .i64 (4 * q)] 45) (w.heap.size + 1 + 1) hwq).trans H1.out) (World.ownsRow.alloc (w := wq.drew) H2.out _) (World.ownsRow.alloc (w := wq.drew) H3.out _) HOwn.out HGrow.out
                  rw [HNx.out] at hP4
                  go_roundw
                  case rel => exact ⟨i + 1, by omega, by go_num, hP4, HBe.out w3 _ HGrow.out⟩
                  case measure => simp [intOf]; omega
            · have hhi' : (hv == (i : Int)) = false := by simpa using hhi
              go_wp2
              go_quiet ((refine (HPh.out _).mono ?_; rintro e w' ⟨rfl, rfl⟩; exact ⟨rfl, _, rfl⟩))
              go_wp2
              go_roundw
              case rel =>
                refine ⟨k2 + 1, by omega, by go_num, HM.out.below (bN (bR wt)), below_drewN HBt.out nq, HNt.out, fun j x hj hx => ?_⟩
                by_cases e : j < k2
                · exact HNo.out j x e hx
                · obtain rfl : j = k2 := by omega
                  rw [HX.out] at hx
                  cases hx
                  rw [← HHv.out]
                  exact hhi
              case measure => simp [intOf]; omega
          · have HMn := Lib.hid (show Mim (w.heap.size + 1 + 1) ⟨fw, mm, fitSyms m.syms fw.length (i + 1)⟩ wt by
              have hf : m.syms.find? (fun x => hashOf x == (i : Int)) = none := List.find?_eq_none.2 fun x hx => by
                obtain ⟨j, hj, rfl⟩ := List.getElem_of_mem hx
                have := HNo.out j _ (by omega) (List.getElem?_eq_getElem hj)
                simpa using this
              have : fitSym m.syms fw.length i = [] := by rw [fitSym, hf]
              rw [fitSyms_succ, this, List.append_nil]
              exact HM.out)
            go_wp2
            go_roundw
            case rel => exact ⟨i + 1, by omega, by go_num, HMn.out, HBt.out, HNt.out⟩
            case measure => simp [intOf]; omega
      · obtain rfl : i = 8 := by omega
        have hM := HM.out
        obtain ⟨sy, hsy⟩ : ∃ sy, sy = fitSyms m.syms fw.length 8 := ⟨_, rfl⟩
        have HFit := Lib.hid (show m.fit = ⟨fw, mm, sy⟩ by
          obtain ⟨e1, e2⟩ := HMm.out
          rw [hsy, e2, e1, HFw.out]
          rfl)
        have HSane := Lib.hid (fit_sane H.out)
        rw [HFit.out] at HSane
        rw [← hsy] at hM
        clear hsy
        obtain ⟨v1, v2, h1, h2, h3⟩ := hM
        obtain ⟨B1, d1, rfl, hd1, hR1, hF1⟩ := Rd_of_own h2
        obtain ⟨B2, d2, rfl, hd2, hR2, hF2⟩ := Rd_of_own h3
        have HO1 := Lib.hid h2
        have HO2 := Lib.hid h3
        have HI := Lib.hid (show IsImg ws B1 fw.length B2 sy.length ⟨fw, mm, sy⟩ from ⟨hR1, hR2, by omega, by have : sy.length ≤ 8 := HSane.out.2.2.1; omega, HSane.out.1, HSane.out.2.2.2, HSane.out.2.1⟩)
        have hx2 := (HBs.out.block (w.heap.size + 1) (by omega)).trans HX2.out
        have HX4 := Lib.hid hx2
        obtain ⟨y0, y1, y2, g0, g1, g2⟩ := cells3 hx2
        obtain ⟨x0, x1, x2, _⟩ := cells3 h1
        have hFr : ∀ {A : Option Addr}, Fresh (w.heap.size + 1 + 1 + 1) A → ∀ a, A = some a → a.block ≠ w.heap.size + 1 := fun h a ha => by
          have := h a ha
          omega
        have HF1 := Lib.hid (And.intro hF1 (hFr hF1))
        have HF2 := Lib.hid (And.intro hF2 (hFr hF2))
        have HBf := Lib.hid (HW0.out.trans (HBs.out.mono (by omega)))
        clear h1 h2 h3 hR1 hR2 hF1 hF2 hFr hx2
        go_wp2
        have him6 := HI.out.far (w' := ((ws.setCell ⟨w.heap.size + 1, 0, none⟩ (.slice B1 fw.length d1)).setCell ⟨w.heap.size + 1, 1, none⟩ (.int .i64 mm)).setCell ⟨w.heap.size + 1, 2, none⟩ (.slice B2 sy.length d2)) (w.heap.size + 1) (by simp [World.setCell])
          (fun k hk _ => by rw [Below.heap_setCell _ _ _ _ hk, Below.heap_setCell _ _ _ _ hk, Below.heap_setCell _ _ _ _ hk]) HF1.out.2 HF2.out.2
        refine ⟨rfl, _, ret25c rfl rfl (set3 HX4.out), ?_, bS (bS (bS HBf.out (by simp)) (by simp)) (by simp)⟩
        rw [HFit.out]
        exact ⟨B1, d1, B2, d2, rfl, him6, hd1, own_set3 HO1.out (by omega) (by omega) _ _ _, own_set3 HO2.out (by omega) (by omega) _ _ _⟩
end Go.Proofs.YtgajlhejefjhhaaGreatDoor
