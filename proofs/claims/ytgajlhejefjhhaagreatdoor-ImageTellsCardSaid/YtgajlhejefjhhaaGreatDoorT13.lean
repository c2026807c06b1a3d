/- A contract: a line of words is read. No condition of ours. -/
import Derived.Test.YtgajlhejefjhhaaGreatDoorT12
import Derived.Lib.SplitLaws
namespace Go.Proofs.YtgajlhejefjhhaaGreatDoor
open Go.RowKit

theorem splitK_len (sep : List UInt8) : ∀ (k : Nat) (s : List UInt8), ∀ p ∈ Lib.splitK sep 0 k s, p.length ≤ s.length
  | 0, s, p, hp => by
    simp [Lib.splitK] at hp
    rw [hp]
    exact Nat.le_refl _
  | k + 1, s, p, hp => by
    unfold Lib.splitK at hp
    split at hp
    · simp at hp
      rw [hp]
      exact Nat.le_refl _
    · rcases List.mem_cons.1 hp with rfl | hp
      · rw [List.length_take]
        omega
      · have := splitK_len sep k _ p hp
        rw [List.length_drop] at this
        omega

theorem split_len {sep s p : List UInt8} (hp : p ∈ Lib.split s sep) : p.length ≤ s.length := splitK_len sep _ s p hp

theorem split_count (s : List UInt8) (c : UInt8) : (Lib.split s [c]).length ≤ s.length + 1 := by
  have h1 : (str [c]).size = 1 := rfl
  have hcount : (Lib.splitB (str [c]) 0 (Lib.countB (str s) (str [c])) (str s)).length = Lib.countB (str s) (str [c]) + 1 := Lib.splitB_all _ (by omega) 0 _ _ rfl
  have hdata := Lib.splitB_data (str [c]) 0 (Lib.countB (str s) (str [c])) (str s)
  have hsp : Lib.splitK (str [c]).data.toList 0 (Lib.countB (str s) (str [c])) (str s).data.toList = Lib.split s [c] := rfl
  rw [hsp] at hdata
  rw [← hdata, List.length_map, hcount]
  have := Lib.countB_le (str [c]) (by omega) _ (str s) (Nat.le_refl _)
  have h2 : (str s).size = s.length := rfl
  omega

theorem split_any (s : List UInt8) (c : UInt8) (w : World) (hs : s.length < 4294967281) (hG : Glob w) :
    Calls Tryz.prog 62 #[.string (str s), .string (str [c])] w fun e w' =>
      e = .returned (.slice (some ⟨w.heap.size, 0, none⟩) (Lib.split s [c]).length (Lib.split s [c]).length) ∧
        w' = w.alloc (.cells ((Lib.split s [c]).map fun l => .string (str l)).toArray 9) := by
  obtain ⟨m, hm⟩ := hG.mx
  have h1 : (str [c]).size = 1 := rfl
  have hcount : (Lib.splitB (str [c]) 0 (Lib.countB (str s) (str [c])) (str s)).length = Lib.countB (str s) (str [c]) + 1 := Lib.splitB_all _ (by omega) 0 _ _ rfl
  have hdata := Lib.splitB_data (str [c]) 0 (Lib.countB (str s) (str [c])) (str s)
  have hsp : Lib.splitK (str [c]).data.toList 0 (Lib.countB (str s) (str [c])) (str s).data.toList = Lib.split s [c] := rfl
  rw [hsp] at hdata
  refine (Tryz.strings_Split (str s) (str [c]) m w hs hm (by omega)).mono ?_
  rintro e w' ⟨rfl, rfl⟩
  have hlen : (Lib.split s [c]).length = Lib.countB (str s) (str [c]) + 1 := by rw [← hdata, List.length_map, hcount]
  refine ⟨by rw [hlen], ?_⟩
  rw [← hdata, List.map_map]
  rfl

/-! ### a parser that the call made -/
/-- what hex gives -/
noncomputable def hexV (p : List UInt8) : Int := (((hexO p).getD 0 : Nat) : Int)

/-- the parser at block b holds the image m, and tells whether symbols are over -/
def Psr (b : Nat) (m : Img) (code : Bool) (w : World) : Prop :=
  ∃ v1 v2, w.heap[b]? = some (.cells #[v1, .int .i64 m.mem, v2, .bool code] 100) ∧ w.ownsRow (b + 1) 3 1 v1 m.words.length (m.words.map (Value.int .i64)) ∧ w.ownsRow (b + 1) 45 2 v2 m.syms.length (symCells m.syms)

theorem grown_keep {w w' : World} {base : Nat} {e : TypeId} {size : Nat} {v : Value} {n : Nat} {xs : List Value} (h : w.ownsRow base e size v n xs) (hg : w.grownBy w' v.ownBlock) {k : Nat} {C : Array Value} {t : TypeId} {fz : Nat × Nat}
    (hk : w.heap[k]? = some (.cells C t fz)) (ht : t ≠ e ∨ k < base) : w'.heap[k]? = some (.cells C t fz) := by
  refine (hg.block k (Array.getElem?_eq_some_iff.1 hk).1 fun eq => ?_).trans hk
  rcases h.2 with ⟨rfl, _⟩ | ⟨g, cap, cur, rfl, hb, hh, _⟩
  · cases eq
  · obtain rfl : k = g := Option.some.inj eq
    rw [hk] at hh
    cases hh
    rcases ht with h | h
    · exact h rfl
    · omega

theorem own_apart {w : World} {base1 base2 : Nat} {e1 e2 : TypeId} {size1 size2 : Nat} {v1 v2 : Value} {n1 n2 : Nat} {xs1 xs2 : List Value} (h1 : w.ownsRow base1 e1 size1 v1 n1 xs1) (h2 : w.ownsRow base2 e2 size2 v2 n2 xs2) (hne : e1 ≠ e2) :
    v1.ownBlock = none ∨ v1.ownBlock ≠ v2.ownBlock := by
  rcases h1.2 with ⟨rfl, _⟩ | ⟨g, cap, cur, rfl, _, hh, _⟩
  · exact .inl rfl
  · refine .inr fun eq => ?_
    rcases h2.2 with ⟨rfl, _⟩ | ⟨g', cap', cur', rfl, _, hh', _⟩
    · cases eq
    · obtain rfl : g = g' := Option.some.inj eq
      rw [hh] at hh'
      cases hh'
      exact hne rfl

theorem heap_setCell_same {w : World} {b i : Nat} {C : Array Value} {t : TypeId} {fz : Nat × Nat} (h : w.heap[b]? = some (.cells C t fz)) (u : Value) : (w.setCell ⟨b, i, none⟩ u).heap[b]? = some (.cells (C.setIfInBounds i u) t fz) := by
  simp [World.setCell, Array.getElem?_modify, h]

theorem Psr.below {b : Nat} {m : Img} {code : Bool} {w w' : World} (h : Psr b m code w) (hb : Below w.heap.size w w') : Psr b m code w' := by
  obtain ⟨v1, v2, h1, h2, h3⟩ := h
  exact ⟨v1, v2, (hb.block b (Array.getElem?_eq_some_iff.1 h1).1).trans h1, own_below h2 hb, own_below h3 hb⟩

theorem Psr.lt {b : Nat} {m : Img} {code : Bool} {w : World} (h : Psr b m code w) : b < w.heap.size := by
  obtain ⟨v1, v2, h1, _⟩ := h
  exact (Array.getElem?_eq_some_iff.1 h1).1

theorem Glob.belowB {w w' : World} {B : Nat} (h : Glob w) (hB : 6 ≤ B) (hb : Below B w w') : Glob w' := by
  obtain ⟨⟨m, hm⟩, ⟨a, b, hs⟩, ⟨c, d, hr⟩, hp, hd⟩ := h
  exact ⟨⟨m, (hb.cell (p := ⟨0, 0, none⟩) (by simp; omega)).trans hm⟩, ⟨a, b, (hb.cell (p := ⟨2, 0, none⟩) (by simp; omega)).trans hs⟩, ⟨c, d, (hb.cell (p := ⟨3, 0, none⟩) (by simp; omega)).trans hr⟩,
    var?_below hb pow_named (by omega) hp, (hb.cell (p := ⟨5, 15, none⟩) (by simp; omega)).trans hd⟩

theorem own_slice {w : World} {base : Nat} {e : TypeId} {size : Nat} {v : Value} {n : Nat} {xs : List Value} (h : w.ownsRow base e size v n xs) : ∃ A c, v = .slice A n c ∧ n ≤ c := by
  rcases h.2 with ⟨rfl, rfl⟩ | ⟨g, cap, cur, rfl, _, _, hc, _⟩
  · exact ⟨_, _, rfl, Nat.le_refl _⟩
  · exact ⟨_, _, rfl, hc⟩

theorem not_frozen {w : World} {b i : Nat} {C : Array Value} {t : TypeId} (h : w.heap[b]? = some (.cells C t)) : w.frozen? ⟨b, i, none⟩ = false := by
  simp [World.frozen?, h]

/-- rows of strings are kept -/
def KeepS (w w' : World) : Prop := ∀ (k : Nat) (C : Array Value), w.heap[k]? = some (Obj.cells C 9) → w'.heap[k]? = some (Obj.cells C 9)
theorem KeepS.refl (w : World) : KeepS w w := fun _ _ h => h
theorem KeepS.trans {w w' w'' : World} (h : KeepS w w') (h' : KeepS w' w'') : KeepS w w'' := fun k C hk => h' k C (h k C hk)
theorem KeepS.below {w w' : World} (h : Below w.heap.size w w') : KeepS w w' := fun _ _ hk => (h.block _ (Array.getElem?_eq_some_iff.1 hk).1).trans hk
theorem KeepS.grown {w w' : World} {base : Nat} {e : TypeId} {size : Nat} {v : Value} {n : Nat} {xs : List Value} (h : w.ownsRow base e size v n xs) (hg : w.grownBy w' v.ownBlock) (he : 9 ≠ e) : KeepS w w' :=
  fun _ _ hk => grown_keep h hg hk (.inl he)
theorem KeepS.set {w : World} {b i : Nat} {C : Array Value} {t : TypeId} {fz : Nat × Nat} {u : Value} (h : w.heap[b]? = some (.cells C t fz)) (ht : t ≠ 9) : KeepS w (w.setCell ⟨b, i, none⟩ u) := fun k C' hk => by
  rw [Below.heap_setCell _ _ _ _ (fun e => by
    obtain rfl : k = b := e
    rw [h] at hk
    cases hk
    exact ht rfl)]
  exact hk

/-- a word more -/
theorem Psr.word {b : Nat} {m : Img} {code : Bool} {w w' : World} {v1 v2 v' : Value} {z : Int} (h1 : w.heap[b]? = some (.cells #[v1, .int .i64 m.mem, v2, .bool code] 100)) (h2 : w.ownsRow (b + 1) 3 1 v1 m.words.length (m.words.map (Value.int .i64)))
    (h3 : w.ownsRow (b + 1) 45 2 v2 m.syms.length (symCells m.syms)) (ho : w'.ownsRow (b + 1) 3 1 v' (m.words.length + 1) (m.words.map (Value.int .i64) ++ [.int .i64 z])) (hg : w.grownBy w' v1.ownBlock) :
    Psr b { m with words := m.words ++ [z] } code (w'.setCell ⟨b, 0, none⟩ v') := by
  refine ⟨v', v2, ?_, ?_, ?_⟩
  · exact heap_setCell_same (grown_keep h2 hg h1 (.inl (by decide))) v'
  · have := ownsRow_setCell_below ho (a := ⟨b, 0, none⟩) (by simp) v'
    simpa using this
  · exact ownsRow_setCell_below (h3.kept hg (own_apart h3 h2 (by decide))) (a := ⟨b, 0, none⟩) (by simp) v'
theorem i64_info : (Tryz.prog.info? 3).map (fun i => (i.zero, i.size, i.bytes)) = some (some (.int .i64 0), 1, 8) := by kernel_rfl

set_option maxHeartbeats 1000000 in
set_option maxRecDepth 100000 in
theorem words_any (b : Nat) (m : Img) (l : List UInt8) (w : World) (hP : Psr b m true w) (hG : Glob w) (hb6 : 6 ≤ b) (hl : l.length ≤ 1000000) (hm : m.words.length ≤ 2000000000000) :
    Calls Tryz.prog 87 #[.pointer (some ⟨b, 0, none⟩), .string (str l)] w fun e w' =>
      ((((Lib.split l [32]).all fun p => (hexO p).isSome) = true ∧ e = .returned (.bool true) ∧ Psr b { m with words := m.words ++ (Lib.split l [32]).map hexV } true w') ∨ (((Lib.split l [32]).all fun p => (hexO p).isSome) = false ∧ e = .returned (.bool false))) ∧ Below b w w' ∧ KeepS w w' := by
  have HG := Lib.hid hG
  have HP := Lib.hid hP
  clear hG hP
  go_enter Tryz.func87, Tryz.ntmps87
  go_wp2_with fail
  refine (split_any l 32 _ (by omega) HG.out).mono ?_
  rintro e w1 ⟨rfl, rfl⟩
  obtain ⟨ps, hps⟩ : ∃ ps, ps = Lib.split l [32] := ⟨_, rfl⟩
  have HPs := Lib.hid (fun p (hp : p ∈ ps) => Nat.le_trans (split_len (hps ▸ hp)) hl)
  have hpl : ps.length ≤ 1000001 := by have := split_count l 32; rw [hps]; omega
  rw [← hps]
  have HE := Lib.hid hps
  clear hps
  have HW := Lib.hid (bA (o := .cells (ps.map fun l => .string (str l)).toArray 9) (bR w))
  have HN := Lib.hid (heap_alloc_new w (.cells (ps.map fun l => .string (str l)).toArray 9))
  have hbw : b < w.heap.size := HP.out.lt
  go_wp2
  go_loopw [12] (fun i wr => ∃ k : Nat, k ≤ ps.length ∧ i = .int .i64 k ∧ Psr b { m with words := m.words ++ (ps.take k).map hexV } true wr ∧ wr.heap[w.heap.size]? = some (.cells (ps.map fun l => .string (str l)).toArray 9) ∧ (Below b w wr ∧ KeepS w wr) ∧ ((ps.take k).all fun p => (hexO p).isSome) = true) (fun i _ => ps.length - (intOf i).toNat)
  case atStart => exact ⟨0, Nat.zero_le _, rfl, by simpa using HP.out.below HW.out, HN.out, ⟨HW.out.mono (by omega), KeepS.below HW.out⟩, rfl⟩
  case round =>
    obtain ⟨k, hk, rfl, hP, hN, ⟨hB, hKS⟩, hall⟩ := hrel
    have HKS := Lib.hid hKS
    clear hKS
    have HP2 := Lib.hid hP
    have HN2 := Lib.hid hN
    have HB2 := Lib.hid hB
    have HA := Lib.hid hall
    clear hP hN hB hall HN HP
    by_cases hlt : k < ps.length
    · obtain ⟨p, hp⟩ : ∃ p, ps[k]? = some p := ⟨_, List.getElem?_eq_getElem hlt⟩
      have hc : wr.cell? ⟨w.heap.size, k, none⟩ = some (.string (str p)) := by
        rw [cell_of_row wr _ k _ _ _ HN2.out]
        simp [hp]
      have HTk := Lib.hid (show ps.take (k + 1) = ps.take k ++ [p] by rw [List.take_add_one, hp]; rfl)
      have hpl2 := HPs.out p (List.mem_of_getElem? hp)
      have HMem := Lib.hid (List.mem_of_getElem? hp)
      clear hp
      go_wp2_with fail
      refine (hex_any p _ (by omega) (HG.out.belowB hb6 HB2.out)).mono ?_
      rintro e w2 ⟨he, hb2⟩
      have HP3 := Lib.hid (HP2.out.below hb2)
      have HN3 := Lib.hid ((hb2.block _ (Array.getElem?_eq_some_iff.1 HN2.out).1).trans HN2.out)
      have hbr : b < wr.heap.size := HP2.out.lt
      have HB3 := Lib.hid (HB2.out.trans (hb2.mono (by omega)))
      have hsz := hb2.size
      have HKS2 := Lib.hid (HKS.out.trans (KeepS.below hb2))
      clear hb2
      rcases he with ⟨v, hv, hv2, rfl⟩ | ⟨q, hv, hv2, rfl⟩
      · have HV := Lib.hid hv
        clear hv
        obtain ⟨mk, hmk⟩ : ∃ mk : Img, mk = { m with words := m.words ++ (ps.take k).map hexV } := ⟨_, rfl⟩
        have hml : mk.words.length ≤ 2000001000001 := by rw [hmk]; simp; omega
        have HP5 := Lib.hid (hmk ▸ HP3.out)
        have HNx := Lib.hid (show ({ mk with words := mk.words ++ [(v : Int)] } : Img) = { m with words := m.words ++ (ps.take (k + 1)).map hexV } by
          rw [hmk, HTk.out, List.map_append, List.append_assoc]
          simp [hexV, HV.out])
        clear hmk
        obtain ⟨v1, v2, h1, h2, h3⟩ := HP5.out
        have H1 := Lib.hid h1
        have H2 := Lib.hid h2
        have H3 := Lib.hid h3
        have hcell : w2.cell? ⟨b, 0, none⟩ = some v1 := by rw [cell_of_row w2 b 0 _ _ _ h1]; rfl
        clear h1 h2 h3
        obtain ⟨i0, hi, hz0, hz1, hz2⟩ := info_parts i64_info
        go_wp2_with (at_builtin; refine wpList_append_own _ rfl (.tmp 28) (.tmp 30) 22 rfl (b + 1) 3 i0 _ 1 8 Tryz.underlying22 hi hz0 hz1 hz2 rfl (by decide) v1 mk.words.length _ rfl (H2.out.alloc _) ⟨w2.heap.size, 0, none⟩ 1 1 [.int .i64 (v : Int)] rfl rfl (cell_one_new _ _ _) (by simp [Value.oneCell']) (by unfold maxLen; omega) (by omega) (by simp; omega) ?_; intro v' w3 hown' hgrow _; obtain ⟨A', c', rfl, _⟩ := own_slice hown'; have hk3 := grown_keep (H2.out.alloc (.cells #[.int .i64 (v : Int)] 3)) hgrow ((Below.heap_alloc w2 _ b (by omega)).trans H1.out) (.inl (by decide)); have hcell3 : w3.cell? ⟨b, 0, none⟩ = some v1 := (by rw [cell_of_row w3 b 0 _ _ _ hk3]; rfl); have hfr := not_frozen (i := 0) hk3)
        have hB4 : Below b w (w3.setCell ⟨b, 0, none⟩ (.slice A' (mk.words.length + 1) c')) :=
          (((HB3.out.alloc (by have := HB3.out.size; omega) _).trans (grown_own (H2.out.alloc _) hgrow b (by omega) (by simp; omega)))).setCell (by simp) _
        have hP4 := Psr.word ((Below.heap_alloc w2 (.cells #[.int .i64 (v : Int)] 3) b (by omega)).trans H1.out) (H2.out.alloc _) (H3.out.alloc _) hown' hgrow
        rw [HNx.out] at hP4
        have hK4 : KeepS w (w3.setCell ⟨b, 0, none⟩ (.slice A' (mk.words.length + 1) c')) :=
          ((HKS2.out.trans (KeepS.below (bA (bR w2)))).trans (KeepS.grown (H2.out.alloc _) hgrow (by decide))).trans (KeepS.set hk3 (by decide))
        go_roundw
        case rel =>
          refine ⟨k + 1, by omega, by go_num, hP4, ?_, ⟨hB4, hK4⟩, by rw [HTk.out, List.all_append, HA.out]; simp [HV.out]⟩
          rw [Below.heap_setCell _ _ _ _ (by simp; omega)]
          exact grown_keep (H2.out.alloc _) hgrow ((Below.heap_alloc w2 _ _ (Array.getElem?_eq_some_iff.1 HN3.out).1).trans HN3.out) (.inl (by decide))
        case measure => simp [intOf]; omega
      · have HV := Lib.hid hv
        clear hv
        have HAll := Lib.hid (show (ps.all fun p => (hexO p).isSome) = false by
          rw [List.all_eq_false]
          exact ⟨p, HMem.out, by simp [HV.out]⟩)
        go_wp2
        go_ret
        rw [← HE.out]
        exact ⟨.inr ⟨HAll.out, rfl⟩, HB3.out, HKS2.out⟩
    · have hks : k = ps.length := by omega
      have hal := HA.out
      have hp2 := HP2.out
      rw [hks, List.take_length] at hal hp2
      have HA2 := Lib.hid hal
      have HP4 := Lib.hid hp2
      clear hal hp2
      go_wp2
      go_ret
      rw [← HE.out]
      exact ⟨.inl ⟨HA2.out, rfl, HP4.out⟩, HB2.out, HKS.out⟩
end Go.Proofs.YtgajlhejefjhhaaGreatDoor
