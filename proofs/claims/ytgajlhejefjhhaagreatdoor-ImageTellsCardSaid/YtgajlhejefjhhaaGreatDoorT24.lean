/- Plain laws: what is printed is read again. No condition of ours. -/
import Derived.Test.YtgajlhejefjhhaaGreatDoorT23
namespace Go.Proofs.YtgajlhejefjhhaaGreatDoor
open Go.RowKit

/-! ### the lines of a right image's text -/
def symL (x : List UInt8 × Int) : List UInt8 := digN 8 x.2.toNat ++ 32 :: x.1
def wordL (l : List Int) : List UInt8 := Lib.join (l.map fun z => digN 8 z.toNat) [32]
def codeL : List UInt8 := [99, 111, 100, 101]
def Img.pcs (m : Img) : List (List Int) := pieces m.words ((m.words.length + 7) / 8)
def Img.lines (m : Img) : List (List UInt8) := m.syms.map symL ++ codeL :: m.pcs.map wordL

theorem head_lines (m : Img) : m.head = ([105, 109, 97, 103, 101, 32] ++ Lib.itoa m.mem) ++ 10 :: (m.lines.flatMap fun l => l ++ [10]) := by
  have h1 : (m.syms.map symL).flatMap (fun l => l ++ [10]) = m.syms.flatMap symLine := by
    rw [List.flatMap_map]
    apply congrFun
    apply congrArg
    funext x
    simp [symL, symLine]
  have h2 : ((pieces m.words ((m.words.length + 7) / 8)).map wordL).flatMap (fun l => l ++ [10]) = (pieces m.words ((m.words.length + 7) / 8)).flatMap wordLine := by
    rw [List.flatMap_map]
    rfl
  simp only [Img.head, Img.lines, headOf, List.flatMap_append, List.flatMap_cons, h1, h2, codeL, Img.pcs]
  simp

theorem pieces_flat (zs : List Int) : ∀ k, (pieces zs k).flatten = zs.take (8 * k)
  | 0 => by simp [pieces]
  | k + 1 => by
    rw [pieces_succ, List.flatten_append, pieces_flat zs k]
    simp only [List.flatten_cons, List.flatten_nil, List.append_nil, pieceAt]
    rw [Nat.mul_add, List.take_add]

theorem pieces_ne {zs : List Int} {p : List Int} (h : p ∈ pieces zs ((zs.length + 7) / 8)) : p ≠ [] := by
  obtain ⟨j, hj, rfl⟩ := List.mem_map.1 h
  have := List.mem_range.1 hj
  intro e
  have := congrArg List.length e
  simp only [pieceAt, List.length_take, List.length_drop, List.length_nil] at this
  omega

theorem join_byte {ls : List (List UInt8)} {c : UInt8} (h : ∀ l ∈ ls, c ∉ l) (hc : c ≠ 32) : c ∉ Lib.join ls [32] := by
  induction ls with
  | nil => simp [Lib.join]
  | cons x l ih =>
    have ih := ih fun y hy => h y (by simp [hy])
    have hx := h x (by simp)
    cases l with
    | nil => rwa [Lib.join_one]
    | cons y l =>
      have : Lib.join (x :: y :: l) [32] = x ++ [32] ++ Lib.join (y :: l) [32] := by simp [Lib.join, List.intercalate, List.intersperse]
      rw [this]
      simp only [List.mem_append, List.mem_singleton, not_or]
      exact ⟨⟨hx, hc⟩, ih⟩

theorem lab_byte {l : List UInt8} (h : labL l = true) : (10 : UInt8) ∉ l := by
  intro hm
  simp only [labL, Bool.and_eq_true, List.all_eq_true] at h
  have := h.1.1 10 hm
  simp [labC] at this

theorem right_syms {m : Img} (h : m.right = true) : ∀ x ∈ m.syms, labL x.1 = true ∧ 0 ≤ x.2 ∧ x.2 ≤ 262144 := by
  have hg := Img.good h
  simp only [Img.right, Bool.and_eq_true, decide_eq_true_eq] at h
  have hs := h.2.2.2.2
  simp only [symsB, Bool.and_eq_true] at hs
  intro x hx
  obtain ⟨j, hj, rfl⟩ := List.getElem_of_mem hx
  have := okAt_get (List.getElem?_eq_getElem hj) (List.all_eq_true.1 hs.1 j (List.mem_range.2 hj))
  exact ⟨this.1, (hg.syms _ (List.getElem_mem hj)).2⟩

theorem lines_byte {m : Img} (h : m.right = true) : ∀ l ∈ m.lines, (10 : UInt8) ∉ l := by
  intro l hl
  rcases List.mem_append.1 hl with hl | hl
  · obtain ⟨x, hx, rfl⟩ := List.mem_map.1 hl
    simp only [symL, List.mem_append, List.mem_cons, not_or]
    exact ⟨(digN_byte _ _).1, by decide, lab_byte (right_syms h x hx).1⟩
  · rcases List.mem_cons.1 hl with rfl | hl
    · decide
    · obtain ⟨p, _, rfl⟩ := List.mem_map.1 hl
      exact join_byte (fun l hl => by
        obtain ⟨z, _, rfl⟩ := List.mem_map.1 hl
        exact (digN_byte _ _).1) (by decide)

theorem run_syms {ws : List Int} {mem : Int} : ∀ (xs s0 : List (List UInt8 × Int)), (∀ x ∈ xs, 0 ≤ x.2 ∧ x.2 ≤ 262144) → runO ⟨ws, mem, s0⟩ false (xs.map symL) = some (⟨ws, mem, s0 ++ xs⟩, false)
  | [], s0, _ => by simp [runO]
  | x :: xs, s0, h => by
    obtain ⟨h1, h2⟩ := h x (by simp)
    have hne : symL x ≠ [99, 111, 100, 101] := fun e => by
      have := congrArg List.length e
      simp [symL, digN_length] at this
      omega
    have hcut : Lib.cut (symL x) [32] = (digN 8 x.2.toNat, x.1, true) := cut_hit (digN_byte _ _).2
    have hst : stepO ⟨ws, mem, s0⟩ false (symL x) = some (⟨ws, mem, s0 ++ [x]⟩, false) := by
      rw [step_sym _ hne hcut, hexO_digN (by omega)]
      have : ((x.2.toNat : Nat) : Int) = x.2 := by omega
      simp [this]
    rw [List.map_cons, runO, hst]
    have := run_syms (ws := ws) (mem := mem) xs (s0 ++ [x]) (fun y hy => h y (by simp [hy]))
    simpa using this

theorem run_words {mem : Int} {syms : List (List UInt8 × Int)} : ∀ (ps : List (List Int)) (w0 : List Int), (∀ p ∈ ps, p ≠ [] ∧ ∀ z ∈ p, 0 ≤ z ∧ z < 4294967296) → runO ⟨w0, mem, syms⟩ true (ps.map wordL) = some (⟨w0 ++ ps.flatten, mem, syms⟩, true)
  | [], w0, _ => by simp [runO]
  | p :: ps, w0, h => by
    obtain ⟨hne, hz⟩ := h p (by simp)
    have hsp : Lib.split (wordL p) [32] = p.map fun z => digN 8 z.toNat := split_join (by simpa using hne) fun l hl => by
      obtain ⟨z, _, rfl⟩ := List.mem_map.1 hl
      exact (digN_byte _ _).2
    have hst : stepO ⟨w0, mem, syms⟩ true (wordL p) = some (⟨w0 ++ p, mem, syms⟩, true) := by
      have h1 : ((p.map fun z => digN 8 z.toNat).all fun q => (hexO q).isSome) = true := by
        rw [List.all_eq_true]
        intro q hq
        obtain ⟨z, hz', rfl⟩ := List.mem_map.1 hq
        have := hz z hz'
        rw [hexO_digN (by omega)]
        rfl
      have h2 : (p.map fun z => digN 8 z.toNat).map hexV = p := by
        rw [List.map_map]
        refine (List.map_congr_left fun z hz' => ?_).trans (List.map_id p)
        have := hz z hz'
        simp only [Function.comp, hexV, hexO_digN (show z.toNat < 4294967296 by omega), Option.getD_some, id]
        omega
      rw [step_code, hsp, if_pos h1, h2]
    rw [List.map_cons, runO, hst]
    have := run_words (mem := mem) (syms := syms) ps (w0 ++ p) (fun y hy => h y (by simp [hy]))
    simpa using this

theorem run_lines {m : Img} (h : m.right = true) : runO ⟨[], m.mem, []⟩ false m.lines = some (m, true) := by
  have hg := Img.good h
  rw [Img.lines, runO_append, run_syms m.syms [] (fun x hx => (right_syms h x hx).2)]
  simp only [Option.bind_some, List.nil_append, runO]
  have hc : stepO ⟨[], m.mem, m.syms⟩ false codeL = some (⟨[], m.mem, m.syms⟩, true) := by simp [stepO, codeL]
  rw [hc]
  simp only [Option.bind_some]
  rw [run_words m.pcs [] (fun p hp => ⟨pieces_ne hp, fun z hz => hg.words z (by
    obtain ⟨j, _, rfl⟩ := List.mem_map.1 hp
    exact List.mem_of_mem_drop (List.mem_of_mem_take hz))⟩)]
  rw [Img.pcs, pieces_flat, List.take_of_length_le (by omega)]
  rfl

theorem suf_snoc (l : List UInt8) (c : UInt8) : Lib.hasSuffix (l ++ [c]) [c] = true := by
  unfold Lib.hasSuffix
  rw [List.isSuffixOf_iff_suffix]
  exact List.suffix_append l [c]
theorem trim_snoc (l : List UInt8) (c : UInt8) : Lib.trimSuffix (l ++ [c]) [c] = l := by
  unfold Lib.trimSuffix
  rw [if_pos (suf_snoc l c)]
  simp

theorem parse_head {m : Img} (h : m.right = true) : parseO m.head = some m := by
  have hg := Img.good h
  have hne : m.lines ≠ [] := by simp [Img.lines]
  have h10 : (10 : UInt8) ∉ ([105, 109, 97, 103, 101, 32] ++ Lib.itoa m.mem : List UInt8) := by
    simp only [List.mem_append, not_or]
    refine ⟨by decide, ?_⟩
    obtain ⟨u, hu⟩ := Int.eq_ofNat_of_zero_le hg.mem.1
    rw [hu, Lib.itoa_nonneg]
    intro hm
    have := dec_byte u 10 hm
    simp at this
  have hcut := cut_hit (r := m.lines.flatMap fun l => l ++ [10]) h10
  rw [← head_lines m] at hcut
  obtain ⟨xs, x, hx⟩ : ∃ xs x, m.lines = xs ++ [x] := ⟨m.lines.dropLast, m.lines.getLast hne, (List.dropLast_concat_getLast hne).symm⟩
  have htrim : Lib.trimSuffix (m.lines.flatMap fun l => l ++ [10]) [10] = (xs.flatMap fun l => l ++ [10]) ++ x := by
    have e : (m.lines.flatMap fun l => l ++ [10]) = ((xs.flatMap fun l => l ++ [10]) ++ x) ++ [10] := by rw [hx]; simp
    rw [e, trim_snoc]
  have hb := lines_byte h
  have hsplit : Lib.split (Lib.trimSuffix (m.lines.flatMap fun l => l ++ [10]) [10]) [10] = m.lines := by
    rw [htrim, split_lines (fun l hl => hb l (by rw [hx]; simp [hl])) (hb x (by rw [hx]; simp)), hx]
  have hpre : Lib.hasPrefix ([105, 109, 97, 103, 101, 32] ++ Lib.itoa m.mem) [105, 109, 97, 103, 101, 32] = true := by
    unfold Lib.hasPrefix
    simp
  have htp : Lib.trimPrefix ([105, 109, 97, 103, 101, 32] ++ Lib.itoa m.mem) [105, 109, 97, 103, 101, 32] = Lib.itoa m.mem := by
    unfold Lib.trimPrefix
    rw [if_pos hpre]
    simp
  rw [parseO_run (n := m.mem) (by rw [hcut]; exact hpre) (by rw [hcut]; dsimp only; rw [htp]; exact atoi_itoa _ hg.mem.1 hg.mem.2), hcut]
  dsimp only
  rw [hsplit, run_lines h, finO_yes _ h rfl]

/-- unlike images that may be have unlike texts -/
theorem head_inj {m k : Img} (hm : m.right = true) (hk : k.right = true) (h : m.head = k.head) : m = k := by
  have h1 := parse_head hm
  rw [h, parse_head hk] at h1
  exact (Option.some.inj h1).symm
theorem parseO_iff {s : List UInt8} {m : Img} : parseO s = some m ↔ m.right = true ∧ m.head = s :=
  ⟨parseO_sound, fun ⟨h, e⟩ => e ▸ parse_head h⟩

theorem print_parts (m : Img) : m.print = m.head ++ ([115, 117, 109, 32] ++ digN 8 (sumL m.head) ++ [10]) := by simp [Img.print]

theorem parse_print {m : Img} (h : m.right = true) : parseR m.print = some (some m) := by
  have hlen : ([115, 117, 109, 32] ++ digN 8 (sumL m.head) ++ [10] : List UInt8).length = 13 := by simp [digN_length]
  have hat : atL m.print = m.head.length := by
    unfold atL
    rw [print_parts, List.length_append, hlen]
    omega
  have hd : m.print.drop (atL m.print) = [115, 117, 109, 32] ++ digN 8 (sumL m.head) ++ [10] := by rw [hat, print_parts, List.drop_left]
  have ht : m.print.take (atL m.print) = m.head := by rw [hat, print_parts, List.take_left]
  have hpre : Lib.hasPrefix ([115, 117, 109, 32] ++ digN 8 (sumL m.head) ++ [10]) [115, 117, 109, 32] = true := by
    unfold Lib.hasPrefix
    simp [List.isPrefixOf]
  have htold : toldL m.print = digN 8 (sumL m.head) ++ [10] := by
    unfold toldL
    rw [hd]
    unfold Lib.trimPrefix
    rw [if_pos hpre]
    simp
  have hsuf : Lib.hasSuffix (digN 8 (sumL m.head) ++ [10]) [10] = true := suf_snoc _ _
  have htx : Lib.trimSuffix (digN 8 (sumL m.head) ++ [10]) [10] = digN 8 (sumL m.head) := trim_snoc _ _
  unfold parseR
  rw [htold, hd, ht, hpre, hsuf, htx, hexO_digN (sumL_lt _), parse_head h]
  simp
end Go.Proofs.YtgajlhejefjhhaaGreatDoor
