/- Words for chunks of a slice. No condition of ours. -/
import Derived.Test.YtgajlhejefjhhaaGreatDoorT7
import Derived.RangeFuncNested
import Derived.RangeFuncBound
import Derived.RangeFuncCalls
import Derived.RangeFuncLeaves
import Derived.RangeFuncWrites
import Derived.Shelf.Abstract
import Derived.Shelf.RegionOpen
import Derived.OwnWalkIn
import Derived.TacticsInMore
import Derived.LoopNIn
import Derived.LoopIn
import Derived.Deep.QuietTactic
import Derived.BigQuiet
namespace Go.Proofs.YtgajlhejefjhhaaGreatDoor
open Go.RowKit
attribute [local go_sem] Oper.semAt_some

set_option maxHeartbeats 400000 in
theorem chunk_any (A : Option Addr) (n c : Nat) (w : World) :
    Calls Tryz.prog 49 #[.slice A n c, .int .i64 8] w fun e w' => e = .returned (.func (.func 70) #[] #[.pointer (some ⟨w.heap.size, 0, none⟩), .pointer (some ⟨w.heap.size + 1, 0, none⟩)]) ∧ (w.alloc (.cells #[.slice A n c] 22)).alloc (.cells #[.int .i64 8] 3) = w' := by
  have hmf : ∀ (fn : Fn) (first cap : Array Value) (w : World), (Instr.makeFunc fn first cap).run Tryz.prog w = .ok (.func fn first cap) w := fun _ _ _ _ => rfl
  go_enter Tryz.func49, Tryz.ntmps49
  go_wp2
  go_ret
  exact ⟨rfl, rfl⟩

/-- a piece of the words: where it lies, how many they are, and they themselves -/
abbrev PieceD := Option Addr × Nat × List Int
def PieceOk (w0 : World) (p : PieceD) : Prop := Rd w0 1 p.1 p.2.1 (p.2.2.map (Value.int .i64)) ∧ p.2.1 ≤ 8 ∧ ∀ z ∈ p.2.2, 0 ≤ z ∧ z < 4294967296
abbrev Piece (w0 : World) := { p : PieceD // PieceOk w0 p }

def pieceAt (zs : List Int) (j : Nat) : List Int := (zs.drop (8 * j)).take 8
def pieces (zs : List Int) (k : Nat) : List (List Int) := (List.range k).map (pieceAt zs)
theorem pieces_succ (zs : List Int) (k : Nat) : pieces zs (k + 1) = pieces zs k ++ [pieceAt zs k] := by simp [pieces, List.range_succ]

/-- what the iterator keeps: its two boxes -/
def KeepB (B : Nat) (W W' : World) : Prop := W'.heap[B]? = W.heap[B]? ∧ W'.heap[B + 1]? = W.heap[B + 1]?

set_option maxRecDepth 100000 in
set_option maxHeartbeats 2000000 in
theorem chunk1_in (l Bs b off n c : Nat) (A : Option Addr) (zs : List Int) (w0 : World) (hn : n ≤ 65536) (hnc : n ≤ c) (hA : 0 < n → A = some ⟨b, off, none⟩)
    (hp : ∀ k, 8 * k < n → PieceOk w0 (some ⟨b, off + 8 * k, none⟩, min 8 (n - 8 * k), pieceAt zs k))
    (J Jx : List (Piece w0) → World → Prop) (N : Nat) (hN : (n + 7) / 8 ≤ N)
    (hY : ∀ pre x W, J pre W → pre.length < N → YieldAt Fence.wide (2 - 1) Tryz.prog l #[.slice x.1.1 x.1.2.1 x.1.2.1] W fun e W' =>
      (e = .returned (.bool true) ∧ J (pre ++ [x]) W' ∧ KeepB Bs W W') ∨ (e = .returned (.bool false) ∧ Jx (pre ++ [x]) W'))
    (hJd : ∀ s W q, J s W → J s (W.drewN q))
    (W : World) (h1 : W.heap[Bs]? = some (.cells #[.slice A n c] 22 (0, 0))) (h2 : W.heap[Bs + 1]? = some (.cells #[.int .i64 8] 3 (0, 0))) (h0 : J [] W) :
    CallsIn Fence.wide 2 Tryz.prog 70 #[.func (.yield l) #[] #[], .pointer (some ⟨Bs, 0, none⟩), .pointer (some ⟨Bs + 1, 0, none⟩)] W fun e W' => (∃ v, e = .returned v) ∧
      ((∃ ys : List (Piece w0), ys.map (·.1.2.2) = pieces zs ((n + 7) / 8) ∧ J ys W') ∨ (∃ pre, True ∧ Jx pre W')) := by
  refine callsIn_of_wp Tryz.func70 rfl trivial ?_ rfl
  simp only [Tryz.ntmps70, List.size_toArray, List.length_cons, List.length_nil, Nat.reduceAdd, Nat.reduceSub, Array.replicate_succ, Array.replicate_zero, List.push_toArray, List.append_toArray, List.nil_append, List.cons_append]
  gi_wp2
  gi_loopw [4] (fun i wr => ∃ (k : Nat) (xs : List (Piece w0)), 8 * k < n + 8 ∧ i = .int .i64 (8 * (k : Int)) ∧ xs.length = k ∧ xs.map (·.1.2.2) = pieces zs k ∧ J xs wr ∧ KeepB Bs W wr)
    (fun i _ => n - (intOf i).toNat)
  case atStart => exact ⟨0, [], by omega, rfl, rfl, rfl, h0, rfl, rfl⟩
  case round =>
    obtain ⟨k, xs, hk, rfl, hl, hx, hJs, hk1, hk2⟩ := hrel
    have c1 : wr.cell? ⟨Bs, 0, none⟩ = some (.slice A n c) := by rw [cell_of_row wr Bs 0 _ _ _ (hk1.trans h1)]; rfl
    have c2 : wr.cell? ⟨Bs + 1, 0, none⟩ = some (.int .i64 8) := by rw [cell_of_row wr (Bs + 1) 0 _ _ _ (hk2.trans h2)]; rfl
    have HX := Lib.hid (And.intro hl hx)
    have HK := Lib.hid (And.intro hk1 hk2)
    clear hk1 hk2 hl hx
    by_cases hlt : 8 * k < n
    · obtain rfl := hA (by omega)
      clear hA
      have hge : 8 * (k : Int) ≤ (n : Int) := by omega
      have hge2 : 8 * (k : Int) ≤ (c : Int) := by omega
      obtain ⟨ec, hec, e1, e2, e3⟩ : ∃ ec, ec = min 8 (n - 8 * k) ∧ 1 ≤ ec ∧ ec ≤ 8 ∧ 8 * k + ec ≤ n := ⟨_, rfl, by omega, by omega, by omega⟩
      have hmin : min (8 : Int) ((n - 8 * k : Nat) : Int) = (ec : Int) := by omega
      have hok := hp k hlt
      rw [← hec] at hok
      have HEC := Lib.hid hec
      have HOK := Lib.hid hok
      clear hec hok hp
      have hHY := Lib.hid hY
      clear hY
      gi_wp2
      refine wpIn_wide.2 ?_
      go_quiet (fail)
      obtain ⟨fn, tmps, assign, body, hy, hR⟩ := hHY.out xs ⟨(some ⟨b, off + 8 * k, none⟩, ec, pieceAt zs k), HOK.out⟩ (wr.drewN nq) (hJd _ _ _ hJs) (by have := HX.out.1; omega)
      dsimp only at hy
      gi_wp2
      refine hR.mono ?_
      rintro e W3 (⟨rfl, hJ3, hk3⟩ | ⟨rfl, hJx3⟩)
      · have c3 : W3.cell? ⟨Bs + 1, 0, none⟩ = some (.int .i64 8) := by rw [cell_of_row W3 (Bs + 1) 0 _ _ _ ((hk3.2.trans HK.out.2).trans h2)]; rfl
        have HK3 := Lib.hid hk3
        clear hk3
        gi_wp2
        go_roundw
        case rel =>
          refine ⟨k + 1, _, by omega, by go_num, ?_, ?_, hJ3, HK3.out.1.trans HK.out.1, HK3.out.2.trans HK.out.2⟩
          · rw [List.length_append, HX.out.1]; rfl
          · rw [List.map_append, HX.out.2, pieces_succ]; rfl
        case measure => simp [intOf]; omega
      · gi_wp2
        refine bodyPost_ret (results_none rfl _ _ _) rfl ?_
        exact ⟨⟨_, rfl⟩, .inr ⟨_, trivial, hJx3⟩⟩
    · clear hA
      have hkn : k = (n + 7) / 8 := by omega
      have HKN := Lib.hid hkn
      clear hkn
      gi_wp2
      go_end0
      exact ⟨⟨_, rfl⟩, .inl ⟨_, by rw [HX.out.2, HKN.out], hJs⟩⟩

theorem grown_drewN (W : World) (q : Nat) : W.grownBy (W.drewN q) none := ⟨rfl, rfl, rfl, Nat.le_refl _, fun _ _ _ => rfl⟩

theorem pieceOk_at {w0 : World} {b off n : Nat} {zs : List Int} (hr : Rd w0 1 (some ⟨b, off, none⟩) n (zs.map (Value.int .i64))) (hw : ∀ z ∈ zs, 0 ≤ z ∧ z < 4294967296) (k : Nat) (hk : 8 * k < n) :
    PieceOk w0 (some ⟨b, off + 8 * k, none⟩, min 8 (n - 8 * k), pieceAt zs k) := by
  have hl := hr.int_len
  refine ⟨⟨?_, fun _ => ?_⟩, by dsimp only; omega, fun z hz => hw z (List.mem_of_mem_drop (List.mem_of_mem_take hz))⟩
  · dsimp only
    rw [List.length_map, pieceAt, List.length_take, List.length_drop, hl]
    omega
  · obtain ⟨b', off', e, hb, hc⟩ := hr.2 (by omega)
    cases e
    refine ⟨b, off + 8 * k, rfl, hb, fun j u hu => ?_⟩
    have hj : j < 8 := by
      have : j < ((pieceAt zs k).map (Value.int .i64)).length := (List.getElem?_eq_some_iff.1 hu).1
      rw [List.length_map, pieceAt, List.length_take] at this
      omega
    have h2 : (zs.map (Value.int .i64))[8 * k + j]? = some u := by
      rw [← hu]
      dsimp only
      rw [pieceAt, List.getElem?_map, List.getElem?_map, List.getElem?_take_of_lt hj, List.getElem?_drop]
    have := hc _ _ h2
    rwa [show off + 8 * k + j = off + (8 * k + j) by omega]

/-- slices.Chunk's closure hands out all pieces of eight, one by one -/
theorem chunk_stops (Bs n c N : Nat) (A : Option Addr) (zs : List Int) (w0 w : World) (hn : n ≤ 65536) (hnc : n ≤ c) (hr : Rd w0 1 A n (zs.map (Value.int .i64))) (hw : ∀ z ∈ zs, 0 ≤ z ∧ z < 4294967296) (hN : (n + 7) / 8 ≤ N) (hB : Bs + 1 < w.heap.size)
    (h1 : w.heap[Bs]? = some (.cells #[.slice A n c] 22 (0, 0))) (h2 : w.heap[Bs + 1]? = some (.cells #[.int .i64 8] 3 (0, 0))) :
    SeqStopsK Fence.wide 2 Tryz.prog 70 #[.pointer (some ⟨Bs, 0, none⟩), .pointer (some ⟨Bs + 1, 0, none⟩)] (fun x : Piece w0 => #[.slice x.1.1 x.1.2.1 x.1.2.1]) (KeepB Bs) (fun ys => ys.map (·.1.2.2) = pieces zs ((n + 7) / 8)) (fun _ => True) N w := by
  intro l J Jx W hb hJ hJx hY h0
  obtain ⟨b, off, hA⟩ : ∃ b off, 0 < n → A = some ⟨b, off, none⟩ := by
    by_cases h : 0 < n
    · obtain ⟨b, off, e, _⟩ := hr.2 h
      exact ⟨b, off, fun _ => e⟩
    · exact ⟨0, 0, fun h' => absurd h' h⟩
  refine chunk1_in l Bs b off n c A zs w0 hn hnc hA (fun k hk => ?_) J Jx N hN hY (fun s W q hs => hJ s W _ none hs (grown_drewN W q) (fun r e => by cases e)) W ((hb.block Bs (by omega)).trans h1) ((hb.block (Bs + 1) (by omega)).trans h2) h0
  obtain rfl := hA (by omega)
  exact pieceOk_at hr hw k hk
end Go.Proofs.YtgajlhejefjhhaaGreatDoor
