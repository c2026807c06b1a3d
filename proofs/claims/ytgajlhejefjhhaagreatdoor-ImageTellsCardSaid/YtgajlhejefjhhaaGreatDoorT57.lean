/- Plain laws: the document's own reader as plain functions, and what it makes of a text that was printed. No condition of ours. -/
import Derived.Test.YtgajlhejefjhhaaGreatDoorT56
namespace Go.Proofs.YtgajlhejefjhhaaGreatDoor
open Go.RowKit

/-! ### values of digits -/
theorem hexB_hexd : ∀ d : Fin 16, hexB (hexd d.1) = some d.1 := by decide +kernel
theorem hexB_lt {c : UInt8} {d : Nat} (h : hexB c = some d) : d < 16 ∧ c = hexd d := by
  unfold hexB at h
  split at h
  · rename_i hc
    have hd := Option.some.inj h
    refine ⟨by omega, ?_⟩
    unfold hexd
    rw [if_pos (by omega)]
    apply UInt8.toNat_inj.1
    rw [UInt8.toNat_ofNat']
    omega
  · split at h
    · rename_i hc
      have hd := Option.some.inj h
      refine ⟨by omega, ?_⟩
      unfold hexd
      rw [if_neg (by omega)]
      apply UInt8.toNat_inj.1
      rw [UInt8.toNat_ofNat']
      omega
    · cases h

theorem valF_digN : ∀ (k v : Nat), k ≤ 9 → v < 16 ^ k → valF hexB 16 0 (digN k v) = some v
  | 0, v, _, h => by
    have : v = 0 := by simpa using h
    subst this
    rfl
  | k + 1, v, hk, h => by
    have h1 : v / 16 < 16 ^ k := by rw [Nat.pow_succ] at h; exact (Nat.div_lt_iff_lt_mul (by omega)).2 h
    have h2 : (16 : Nat) ^ k ≤ 16 ^ 8 := Nat.pow_le_pow_right (by omega) (by omega)
    rw [digN_snoc, valF_snoc _ _ _ _ _ (valF_digN k (v / 16) (by omega) h1) (hexB_hexd ⟨v % 16, by omega⟩) (by
      have : (16 : Nat) ^ 8 = 4294967296 := rfl
      omega)]
    congr 1
    dsimp only
    omega
theorem valO_digN {v : Nat} (h : v < 4294967296) : valO hexB 16 (digN 8 v) = (v : Int) := by
  unfold valO
  rw [if_neg (by intro e; have := congrArg List.length e; simp [digN_length] at this), valF_digN 8 v (by omega) (by omega)]

theorem valF_back {f : UInt8 → Option Nat} {base : Nat} : ∀ (l : List UInt8) (n x : Nat) (c : UInt8), valF f base n (l ++ [c]) = some x → ∃ v d, valF f base n l = some v ∧ f c = some d ∧ x = v * base + d
  | [], n, x, c, h => by
    simp only [List.nil_append, valF] at h
    split at h
    · rename_i d hd
      split at h
      · cases h
      · exact ⟨n, d, rfl, hd, (Option.some.inj h).symm⟩
    · cases h
  | y :: l, n, x, c, h => by
    rw [List.cons_append, valF] at h
    rw [valF]
    split at h
    · split at h
      · cases h
      · rename_i hn
        rw [if_neg hn]
        exact valF_back l _ x c h
    · cases h

theorem valF_hex : ∀ (k : Nat) (l : List UInt8) (v : Nat), l.length = k → valF hexB 16 0 l = some v → v < 16 ^ k ∧ l = digN k v
  | 0, l, v, hl, h => by
    have : l = [] := List.eq_nil_of_length_eq_zero hl
    subst this
    simp [valF] at h
    subst h
    simp [digN]
  | k + 1, l, v, hl, h => by
    obtain ⟨l', c, rfl⟩ : ∃ l' c, l = l' ++ [c] := ⟨l.dropLast, l.getLast (by intro e; rw [e] at hl; cases hl), (List.dropLast_concat_getLast _).symm⟩
    obtain ⟨u, d, h1, h2, h3⟩ := valF_back _ _ _ _ h
    obtain ⟨h4, h5⟩ := valF_hex k l' u (by simpa using hl) h1
    obtain ⟨h6, h7⟩ := hexB_lt h2
    have e1 : v / 16 = u := by omega
    have e2 : v % 16 = d := by omega
    refine ⟨by rw [Nat.pow_succ]; omega, ?_⟩
    rw [digN_snoc, e1, e2, ← h5, ← h7]
theorem valO_hex {l : List UInt8} (hl : l.length = 8) (h : 0 ≤ valO hexB 16 l) : ∃ v, v < 4294967296 ∧ l = digN 8 v := by
  unfold valO at h
  split at h
  · omega
  · split at h
    · rename_i v hv
      obtain ⟨h1, h2⟩ := valF_hex 8 l v hl hv
      exact ⟨v, by have : (16 : Nat) ^ 8 = 4294967296 := rfl; omega, h2⟩
    · omega

theorem decB_dec : ∀ d : Fin 10, decB (UInt8.ofNat (48 + d.1)) = some d.1 := by decide +kernel
theorem valF_dec : ∀ (k n : Nat), k ≤ 9 → n < 10 ^ (k + 1) → valF decB 10 0 (Lib.decDigits n) = some n
  | 0, n, _, h => by
    have h10 : n < 10 := by simpa using h
    rw [Lib.decDigits, dif_pos h10]
    have := decB_dec ⟨n, h10⟩
    have h2 := valF_snoc (f := decB) (base := 10) [] 0 0 n _ rfl this (by omega)
    simpa only [List.nil_append, Nat.zero_mul, Nat.zero_add] using h2
  | k + 1, n, hk, h => by
    rw [Lib.decDigits]
    split
    · rename_i h10
      have := decB_dec ⟨n, h10⟩
      have h2 := valF_snoc (f := decB) (base := 10) [] 0 0 n _ rfl this (by omega)
      simpa only [List.nil_append, Nat.zero_mul, Nat.zero_add] using h2
    · have h1 : n / 10 < 10 ^ (k + 1) := by rw [Nat.pow_succ] at h; exact (Nat.div_lt_iff_lt_mul (by omega)).2 h
      have h2 : (10 : Nat) ^ (k + 1) ≤ 10 ^ 10 := Nat.pow_le_pow_right (by omega) (by omega)
      have h3 : (10 : Nat) ^ 10 = 10000000000 := rfl
      rw [valF_snoc _ _ _ _ _ (valF_dec k (n / 10) (by omega) h1) (decB_dec ⟨n % 10, by omega⟩) (by omega)]
      congr 1
      dsimp only
      omega
theorem valO_itoa {n : Int} (h0 : 0 ≤ n) (h1 : n ≤ 4096) : valO decB 10 (Lib.itoa n) = n := by
  have e : Lib.itoa n = Lib.decDigits n.toNat := by rw [Lib.itoa, if_neg (by omega)]
  unfold valO
  rw [e, if_neg (dec_ne _), valF_dec 3 n.toNat (by omega) (by omega)]
  show ((n.toNat : Nat) : Int) = n
  omega

theorem valF_le {f : UInt8 → Option Nat} {base : Nat} (hb : base ≤ 16) (hf : ∀ c d, f c = some d → d < 16) : ∀ (l : List UInt8) (n v : Nat), n ≤ 17592186044432 → valF f base n l = some v → v ≤ 17592186044432
  | [], n, v, hn, h => by simp [valF] at h; omega
  | c :: l, n, v, hn, h => by
    rw [valF] at h
    split at h
    · rename_i d hd
      split at h
      · cases h
      · have := hf c d hd
        refine valF_le hb hf l _ v ?_ h
        have : n * base ≤ 1099511627776 * 16 := Nat.mul_le_mul (by omega) hb
        omega
    · cases h
theorem valO_bd {f : UInt8 → Option Nat} {base : Nat} (hb : base ≤ 16) (hf : ∀ c d, f c = some d → d < 16) (l : List UInt8) : -1 ≤ valO f base l ∧ valO f base l ≤ 17592186044432 := by
  unfold valO
  split
  · omega
  · split
    · rename_i v hv
      have := valF_le hb hf l 0 v (by omega) hv
      omega
    · omega

/-! ### the reader -/
structure RSt where
  m : Img
  n : Nat
  code : Bool
def sumW : List UInt8 := [115, 117, 109, 32]
def rdW (l : List UInt8) : List Int := if 4 ≤ l.length ∧ l.take 4 = sumW then [] else (List.range ((l.length + 1) / 9)).map fun i => valO hexB 16 ((l.drop (9 * i)).take 8)
/-- a line -/
def rdL (st : RSt) (l : List UInt8) : RSt :=
  if st.n = 0 ∧ 6 < l.length then ⟨{ st.m with mem := valO decB 10 (l.drop 6) }, st.n + 1, st.code⟩
  else if l = [99, 111, 100, 101] ∧ st.code = false then ⟨st.m, st.n + 1, true⟩
  else if st.code = false ∧ 9 < l.length then ⟨{ st.m with syms := st.m.syms ++ [(l.drop 9, valO hexB 16 (l.take 8))] }, st.n + 1, st.code⟩
  else if st.code = true then ⟨{ st.m with words := st.m.words ++ rdW l }, st.n + 1, st.code⟩
  else ⟨st.m, st.n + 1, st.code⟩
def rdS (st : RSt) (cur : List UInt8) : List UInt8 → RSt
  | [] => st
  | c :: r => if c = 10 then rdS (rdL st cur) [] r else rdS st (cur ++ [c]) r
def rd0 : RSt := ⟨⟨[], 0, []⟩, 0, false⟩
def readO (s : List UInt8) : RSt := rdS rd0 [] s

theorem rdS_line : ∀ (l : List UInt8) (st : RSt) (cur r : List UInt8), (10 : UInt8) ∉ l → rdS st cur (l ++ 10 :: r) = rdS (rdL st (cur ++ l)) [] r
  | [], st, cur, r, _ => by simp [rdS]
  | c :: l, st, cur, r, h => by
    have hc : c ≠ 10 := fun e => h (by simp [e])
    rw [List.cons_append, rdS, if_neg hc, rdS_line l st (cur ++ [c]) r (fun hm => h (by simp [hm]))]
    simp
theorem rdS_lines : ∀ (ls : List (List UInt8)) (st : RSt) (r : List UInt8), (∀ l ∈ ls, (10 : UInt8) ∉ l) → rdS st [] ((ls.flatMap fun l => l ++ [10]) ++ r) = rdS (ls.foldl rdL st) [] r
  | [], st, r, _ => by simp
  | l :: ls, st, r, h => by
    rw [List.flatMap_cons, List.append_assoc, List.append_assoc]
    show rdS st [] (l ++ 10 :: ((ls.flatMap fun l => l ++ [10]) ++ r)) = _
    rw [rdS_line l st [] _ (h l (by simp)), List.nil_append, rdS_lines ls _ r fun x hx => h x (by simp [hx])]
    rfl

theorem fold_syms (ws : List Int) (mem : Int) : ∀ (xs s0 : List (List UInt8 × Int)) (n : Nat), n ≠ 0 → (∀ x ∈ xs, labL x.1 = true ∧ 0 ≤ x.2 ∧ x.2 ≤ 262144) → (xs.map symL).foldl rdL ⟨⟨ws, mem, s0⟩, n, false⟩ = ⟨⟨ws, mem, s0 ++ xs⟩, n + xs.length, false⟩
  | [], s0, n, _, _ => by simp
  | x :: xs, s0, n, hn, h => by
    obtain ⟨hl, h1, h2⟩ := h x (by simp)
    have hne : 1 ≤ x.1.length := by
      cases hx : x.1 with
      | nil => rw [hx] at hl; simp [labL] at hl
      | cons => simp
    have hlen : (symL x).length = 9 + x.1.length := by simp [symL, digN_length]; omega
    have hc : symL x ≠ [99, 111, 100, 101] := fun e => by
      have := congrArg List.length e
      rw [hlen] at this
      simp at this
      omega
    have hd : (symL x).drop 9 = x.1 := by
      have : symL x = (digN 8 x.2.toNat ++ [32]) ++ x.1 := by simp [symL]
      rw [this, List.drop_left' (by simp [digN_length])]
    have ht : (symL x).take 8 = digN 8 x.2.toNat := by
      rw [symL, List.take_left' (digN_length _ _)]
    have hst : rdL ⟨⟨ws, mem, s0⟩, n, false⟩ (symL x) = ⟨⟨ws, mem, s0 ++ [x]⟩, n + 1, false⟩ := by
      unfold rdL
      rw [if_neg (by simp [hn]), if_neg (by simp [hc]), if_pos ⟨rfl, by rw [hlen]; omega⟩, hd, ht, valO_digN (by omega)]
      have : ((x.2.toNat : Nat) : Int) = x.2 := by omega
      rw [this]
    rw [List.map_cons, List.foldl_cons, hst, fold_syms ws mem xs (s0 ++ [x]) (n + 1) (by omega) fun y hy => h y (by simp [hy])]
    simp
    omega

/-! ### the reader at a text that was printed -/
theorem join_drop : ∀ (ls : List (List UInt8)), (∀ l ∈ ls, l.length = 8) → ∀ i (hi : i < ls.length), ((Lib.join ls [32]).drop (9 * i)).take 8 = ls[i]
  | [], _, i, hi => by simp at hi
  | [x], h, i, hi => by
    have : i = 0 := by simpa using hi
    subst this
    have hx := h x (by simp)
    rw [Lib.join_one]
    simp only [Nat.mul_zero, List.drop_zero, List.getElem_cons_zero]
    exact List.take_of_length_le (by omega)
  | x :: y :: l, h, i, hi => by
    have hx := h x (by simp)
    have e : Lib.join (x :: y :: l) [32] = (x ++ [32]) ++ Lib.join (y :: l) [32] := by simp [Lib.join, List.intercalate, List.intersperse]
    rw [e]
    cases i with
    | zero =>
      simp only [Nat.mul_zero, List.drop_zero, List.getElem_cons_zero]
      rw [List.append_assoc, List.take_left' hx]
    | succ i =>
      have hl : (x ++ [32] : List UInt8).length = 9 := by simp [hx]
      have e2 : 9 * (i + 1) = (x ++ [32] : List UInt8).length + 9 * i := by rw [hl]; omega
      rw [e2, List.drop_append, List.getElem_cons_succ]
      have hd : (x ++ [32] : List UInt8).drop ((x ++ [32] : List UInt8).length + 9 * i) = [] := List.drop_of_length_le (by omega)
      rw [hd, List.nil_append, Nat.add_sub_cancel_left]
      exact join_drop (y :: l) (fun z hz => h z (by simp [hz])) i (by simpa using hi)

theorem hexd_ne115 : ∀ d : Fin 16, hexd d.1 ≠ 115 := by decide +kernel

theorem rdW_wordL {p : List Int} (hne : p ≠ []) (h : ∀ z ∈ p, 0 ≤ z ∧ z < 4294967296) : rdW (wordL p) = p := by
  have hls : ∀ l ∈ p.map (fun z : Int => digN 8 z.toNat), l.length = 8 := fun l hl => by
    obtain ⟨z, _, rfl⟩ := List.mem_map.1 hl
    exact digN_length _ _
  have hne' : p.map (fun z : Int => digN 8 z.toNat) ≠ [] := by simpa using hne
  have hlen := join_len8 _ hls hne'
  have hpl : 1 ≤ p.length := List.length_pos_iff.2 hne
  rw [List.length_map] at hlen
  have hnum : ((wordL p).length + 1) / 9 = p.length := by
    show ((Lib.join _ [32]).length + 1) / 9 = _
    omega
  have hns : ¬ (4 ≤ (wordL p).length ∧ (wordL p).take 4 = sumW) := fun ⟨_, e⟩ => by
    have h0 := join_drop _ hls 0 (by rw [List.length_map]; omega)
    simp only [Nat.mul_zero, List.drop_zero, List.getElem_map] at h0
    have h1 : (wordL p)[0]? = some 115 := by
      have := congrArg (fun l => l[0]?) e
      simpa [sumW] using this
    have h2 : (wordL p)[0]? = (digN 8 (p[0]).toNat)[0]? := by
      rw [← h0, List.getElem?_take]
      rfl
    rw [h2] at h1
    simp only [digN, List.getElem?_cons_zero, Option.some.injEq] at h1
    exact hexd_ne115 ⟨_ % 16, Nat.mod_lt _ (by omega)⟩ h1
  unfold rdW
  rw [if_neg hns, hnum]
  apply List.ext_getElem (by simp)
  intro i h1 h2
  rw [List.getElem_map, List.getElem_range]
  have h0 := join_drop _ hls i (by rw [List.length_map]; exact h2)
  rw [List.getElem_map] at h0
  show valO hexB 16 (((Lib.join _ [32]).drop (9 * i)).take 8) = p[i]
  have hz := h p[i] (List.getElem_mem h2)
  rw [h0, valO_digN (by omega)]
  omega

theorem fold_words (mem : Int) (ss : List (List UInt8 × Int)) : ∀ (ps : List (List Int)) (w0 : List Int) (n : Nat), n ≠ 0 → (∀ p ∈ ps, p ≠ [] ∧ ∀ z ∈ p, 0 ≤ z ∧ z < 4294967296) → (ps.map wordL).foldl rdL ⟨⟨w0, mem, ss⟩, n, true⟩ = ⟨⟨w0 ++ ps.flatten, mem, ss⟩, n + ps.length, true⟩
  | [], w0, n, _, _ => by simp
  | p :: ps, w0, n, hn, h => by
    obtain ⟨h1, h2⟩ := h p (by simp)
    have hst : rdL ⟨⟨w0, mem, ss⟩, n, true⟩ (wordL p) = ⟨⟨w0 ++ p, mem, ss⟩, n + 1, true⟩ := by
      unfold rdL
      rw [if_neg (by simp [hn]), if_neg (by simp), if_neg (by simp), if_pos rfl, rdW_wordL h1 h2]
    rw [List.map_cons, List.foldl_cons, hst, fold_words mem ss ps (w0 ++ p) (n + 1) (by omega) fun y hy => h y (by simp [hy])]
    simp
    omega

theorem rd_printed {m : Img} (hr : m.right = true) {d : List UInt8} (hd : (10 : UInt8) ∉ d) : (readO (m.head ++ ([115, 117, 109, 32] ++ d ++ [10]))).m = m ∧ (readO (m.head ++ ([115, 117, 109, 32] ++ d ++ [10]))).n = 2 + m.lines.length := by
  have hg := Img.good hr
  have h10 : (10 : UInt8) ∉ ([105, 109, 97, 103, 101, 32] ++ Lib.itoa m.mem : List UInt8) := by
    simp only [List.mem_append, not_or]
    refine ⟨by decide, ?_⟩
    obtain ⟨u, hu⟩ := Int.eq_ofNat_of_zero_le hg.mem.1
    rw [hu, Lib.itoa_nonneg]
    intro hm
    have := dec_byte u 10 hm
    simp at this
  have hil : 0 < (Lib.itoa m.mem).length := by
    obtain ⟨u, hu⟩ := Int.eq_ofNat_of_zero_le hg.mem.1
    rw [hu, Lib.itoa_nonneg]
    exact List.length_pos_iff.2 (dec_ne u)
  have e : m.head ++ ([115, 117, 109, 32] ++ d ++ [10]) = (([[105, 109, 97, 103, 101, 32] ++ Lib.itoa m.mem] ++ m.lines ++ [[115, 117, 109, 32] ++ d]).flatMap fun l => l ++ [10]) ++ [] := by
    rw [head_lines]
    simp
  have hb := lines_byte hr
  have hrun : readO (m.head ++ ([115, 117, 109, 32] ++ d ++ [10])) = ⟨m, 2 + m.lines.length, true⟩ := by
    unfold readO
    rw [e, rdS_lines _ _ _ (fun l hl => by
      simp only [List.mem_append, List.mem_singleton] at hl
      rcases hl with (rfl | hl) | rfl
      · exact h10
      · exact hb l hl
      · simp only [List.mem_append, not_or]
        exact ⟨by decide, hd⟩)]
    rw [List.foldl_append, List.foldl_append]
    have h1 : List.foldl rdL rd0 [[105, 109, 97, 103, 101, 32] ++ Lib.itoa m.mem] = ⟨⟨[], m.mem, []⟩, 1, false⟩ := by
      show rdL rd0 _ = _
      unfold rdL rd0
      rw [if_pos ⟨rfl, by simp; omega⟩]
      have : ([105, 109, 97, 103, 101, 32] ++ Lib.itoa m.mem : List UInt8).drop 6 = Lib.itoa m.mem := List.drop_left' rfl
      rw [this, valO_itoa hg.mem.1 hg.mem.2]
    rw [h1]
    have h2 : m.lines.foldl rdL ⟨⟨[], m.mem, []⟩, 1, false⟩ = ⟨m, 1 + m.lines.length, true⟩ := by
      unfold Img.lines
      rw [List.foldl_append, fold_syms [] m.mem m.syms [] 1 (by omega) (right_syms hr), List.foldl_cons]
      have hc : rdL ⟨⟨[], m.mem, [] ++ m.syms⟩, 1 + m.syms.length, false⟩ codeL = ⟨⟨[], m.mem, m.syms⟩, 1 + m.syms.length + 1, true⟩ := by
        unfold rdL codeL
        rw [if_neg (by simp), if_pos ⟨rfl, rfl⟩]
        simp
      rw [hc, fold_words m.mem m.syms m.pcs [] _ (by omega) (fun p hp => ⟨pieces_ne hp, fun z hz => hg.words z (by
        obtain ⟨j, _, rfl⟩ := List.mem_map.1 hp
        exact List.mem_of_mem_drop (List.mem_of_mem_take hz))⟩)]
      have hpf : m.pcs.flatten = m.words := by
        rw [Img.pcs, pieces_flat, List.take_of_length_le (by omega)]
      rw [List.nil_append, hpf]
      simp
      omega
    rw [h2]
    show rdS (rdL _ _) [] [] = _
    unfold rdL
    have hw : rdW ([115, 117, 109, 32] ++ d) = [] := by
      unfold rdW
      rw [if_pos ⟨by simp, by simp [sumW]⟩]
    rw [if_neg (by simp), if_neg (by simp), if_neg (by simp), if_pos rfl, hw]
    simp [rdS]
    omega
  rw [hrun]
  exact ⟨rfl, rfl⟩
end Go.Proofs.YtgajlhejefjhhaaGreatDoor
