/- A contract: the head of an image as a text. No condition of ours. -/
import Derived.Test.YtgajlhejefjhhaaGreatDoorT8
import Derived.Deep.RegionHeld3
namespace Go.Proofs.YtgajlhejefjhhaaGreatDoor
open Go.RowKit
attribute [local go_sem] Oper.semAt_some

/-! ### what the call reads of package-level variables -/
structure Glob (w : World) : Prop where
  mx : ∃ m : Int, w.cell? ⟨0, 0, none⟩ = some (.int .i64 m)
  syn : ∃ te pe, w.cell? ⟨2, 0, none⟩ = some (.iface te pe)
  rng : ∃ te pe, w.cell? ⟨3, 0, none⟩ = some (.iface te pe)
  pow : Lib.TabIs Tryz.prog w "internal/strconv.uint64pow10" .u64 Lib.pow10Tab
  deb : w.cell? ⟨5, 15, none⟩ = some (.int .u8 4)

theorem pow_named : Tryz.prog.globalNamed "internal/strconv.uint64pow10" = some 1 := by kernel_rfl

theorem var_lt {w : World} {n : String} {g : Nat} {cs : Array Value} (hg : Tryz.prog.globalNamed n = some g) (h : w.var? Tryz.prog n = some cs) : g < w.heap.size := by
  rcases Nat.lt_or_ge g w.heap.size with hlt | hge
  · exact hlt
  · unfold World.var? at h
    simp [hg, Array.getElem?_eq_none hge] at h

theorem Glob.below {w w' : World} (h : Glob w) (hb : Below w.heap.size w w') : Glob w' := by
  obtain ⟨⟨m, hm⟩, ⟨a, b, hs⟩, ⟨c, d, hr⟩, hp, hd⟩ := h
  exact ⟨⟨m, (hb.cell (p := ⟨0, 0, none⟩) (cell_lt hm)).trans hm⟩, ⟨a, b, (hb.cell (p := ⟨2, 0, none⟩) (cell_lt hs)).trans hs⟩, ⟨c, d, (hb.cell (p := ⟨3, 0, none⟩) (cell_lt hr)).trans hr⟩,
    var?_below hb pow_named (var_lt pow_named hp) hp, (hb.cell (p := ⟨5, 15, none⟩) (cell_lt hd)).trans hd⟩

/-! ### a builder that the call made -/
def Bld (w0 : World) (b : Nat) (l : List UInt8) (w : World) : Prop := Lib.IsBuilderF 74 5 w0.heap.size b (Lib.byteCells l) w ∧ Below w0.heap.size w0 w

theorem builder_below {T e : TypeId} {B b : Nat} {bs : List Value} {w w' : World} (h : Lib.IsBuilderF T e B b bs w) (hb : Below w.heap.size w w') : Lib.IsBuilderF T e B b bs w' := by
  have main : ∀ p, Lib.BuilderAtF T e B b p bs w → Lib.BuilderAtF T e B b p bs w' := by
    rintro p ⟨hB, v, hbk, ⟨hl, hown⟩, hne⟩
    have old : ∀ k o, w.heap[k]? = some o → w'.heap[k]? = some o := fun k o hk => (hb.block k (Array.getElem?_eq_some_iff.1 hk).1).trans hk
    refine ⟨hB, v, old _ _ hbk, ⟨hl, ?_⟩, hne⟩
    rcases hown with h0 | ⟨g, cap, cur, fz, hv, hg, hh, rest⟩
    · exact .inl h0
    · exact .inr ⟨g, cap, cur, fz, hv, hg, old _ _ hh, rest⟩
  exact h.elim (fun x => .inl (main _ x)) (fun x => .inr (main _ x))

theorem builder_base {T e : TypeId} {B B' b : Nat} {bs : List Value} {w : World} (h : Lib.IsBuilderF T e B b bs w) (hB : B' ≤ B) : Lib.IsBuilderF T e B' b bs w := by
  have main : ∀ p, Lib.BuilderAtF T e B b p bs w → Lib.BuilderAtF T e B' b p bs w := by
    rintro p ⟨hb, v, hbk, ⟨hl, hown⟩, hne⟩
    refine ⟨by omega, v, hbk, ⟨hl, ?_⟩, hne⟩
    rcases hown with h0 | ⟨g, cap, cur, fz, hv, hg, rest⟩
    · exact .inl h0
    · exact .inr ⟨g, cap, cur, fz, hv, by omega, rest⟩
  exact h.elim (fun x => .inl (main _ x)) (fun x => .inr (main _ x))

theorem Bld.below {w0 w w' : World} {b : Nat} {l : List UInt8} (h : Bld w0 b l w) (hb : Below w.heap.size w w') : Bld w0 b l w' := ⟨builder_below h.1 hb, bT h.2 hb⟩

theorem Bld.lt {w0 w : World} {b : Nat} {l : List UInt8} (h : Bld w0 b l w) : b < w.heap.size := h.1.elim (fun x => x.lt) (fun x => x.lt)

theorem strCells_str (s : List UInt8) : Lib.strCells (str s) = Lib.byteCells s := rfl

theorem write_sz (w0 : World) (b : Nat) (l s : List UInt8) (w : World) (h : Bld w0 b l w) (hlen : l.length + s.length ≤ 140737488355328) :
    Calls Tryz.prog 47 #[.pointer (some ⟨b, 0, none⟩), .string (str s)] w fun e w' => e = .returned (.tuple #[.int .i64 (s.length : Nat), .nilIface]) ∧ (Bld w0 b (l ++ s) w' ∧ Lib.OthersKept 5 (some b) w w' ∧ w.heap.size ≤ w'.heap.size) := by
  refine (writeString w0.heap.size b (Lib.byteCells l) (str s) w h.1 (by rw [Lib.byteCells_length]; exact hlen) h.2.size).mono ?_
  rintro e w' ⟨he, h1, h2, h3⟩
  refine ⟨he, ⟨?_, h.2.trans h2⟩, h3, h2.size⟩
  rw [strCells_str, ← Lib.byteCells_append] at h1
  exact .inr h1

theorem write_any (w0 : World) (b : Nat) (l s : List UInt8) (w : World) (h : Bld w0 b l w) (hlen : l.length + s.length ≤ 140737488355328) :
    Calls Tryz.prog 47 #[.pointer (some ⟨b, 0, none⟩), .string (str s)] w fun e w' => e = .returned (.tuple #[.int .i64 (s.length : Nat), .nilIface]) ∧ (Bld w0 b (l ++ s) w' ∧ Lib.OthersKept 5 (some b) w w') :=
  (write_sz w0 b l s w h hlen).mono fun _ _ h => ⟨h.1, h.2.1, h.2.2.1⟩

/-! ### a right image's text, but its last line -/
def symLine (x : List UInt8 × Int) : List UInt8 := digN 8 x.2.toNat ++ [32] ++ x.1 ++ [10]
def wordLine (l : List Int) : List UInt8 := Lib.join (l.map fun z => digN 8 z.toNat) [32] ++ [10]
def headOf (mem : Int) : List UInt8 := [105, 109, 97, 103, 101, 32] ++ Lib.itoa mem ++ [10]
def Img.head (m : Img) : List UInt8 := headOf m.mem ++ m.syms.flatMap symLine ++ [99, 111, 100, 101, 10] ++ (pieces m.words ((m.words.length + 7) / 8)).flatMap wordLine

/-- what head is asked of: an image that may be -/
structure Good (m : Img) : Prop where
  words : ∀ z ∈ m.words, 0 ≤ z ∧ z < 4294967296
  nwords : m.words.length ≤ 65536
  mem : 0 ≤ m.mem ∧ m.mem ≤ 4096
  syms : ∀ x ∈ m.syms, x.1.length ≤ 40 ∧ 0 ≤ x.2 ∧ x.2 ≤ 262144
  nsyms : m.syms.length ≤ 1000

theorem symLines_length {l : List (List UInt8 × Int)} (h : ∀ x ∈ l, x.1.length ≤ 40) : (l.flatMap symLine).length ≤ 50 * l.length := by
  induction l with
  | nil => simp
  | cons x l ih =>
    have h1 := h x (by simp)
    have h2 := ih fun y hy => h y (by simp [hy])
    simp only [List.flatMap_cons, List.length_append, List.length_cons, symLine, digN_length, List.length_nil] at *
    omega

theorem nd1 {u : Nat} (h : u < 10) : Lib.nDigits u = 1 := by rw [Lib.nDigits, dif_pos h]
theorem ndS {u k : Nat} (h : Lib.nDigits (u / 10) ≤ k) (hk : 1 ≤ k + 1) : Lib.nDigits u ≤ k + 1 := by
  rw [Lib.nDigits]
  split
  · exact hk
  · omega
theorem itoa_small (k : Int) (h0 : 0 ≤ k) (hk : k ≤ 4096) : (Lib.itoa k).length ≤ 4 := by
  obtain ⟨u, rfl⟩ := Int.eq_ofNat_of_zero_le h0
  rw [Lib.itoa_nonneg, Lib.decDigits_length]
  exact ndS (k := 3) (ndS (k := 2) (ndS (k := 1) (Nat.le_of_eq (nd1 (by omega))) (by omega)) (by omega)) (by omega)

theorem below_grow' (w : World) (q : Nat) (os : Array Obj) : Below w.heap.size w (Go.Sort.grow (w.drewN q) os) :=
  ⟨rfl, rfl, rfl, by simp [Go.Sort.grow, World.drewN], fun k hk => by
    show (w.heap ++ os)[k]? = w.heap[k]?
    rw [Array.getElem?_append_left hk]⟩

theorem itoa_any (n : Int) (w : World) (h0 : -9223372036854775808 ≤ n) (h1 : n ≤ 9223372036854775807) (hG : Glob w) :
    Calls Tryz.prog 48 #[.int .i64 n] w fun e w' => e = .returned (.string (str (Lib.itoa n))) ∧ Below w.heap.size w w' := by
  refine (Tryz.strconv_Itoa n h0 h1 w hG.pow).mono ?_
  rintro e w' ⟨rfl, q, os, rfl⟩
  exact ⟨rfl, below_grow' _ _ _⟩

theorem cat_at {x y z : List UInt8} (hz : z = x ++ y) (h : z.length ≤ 9223372036854775807) (w : World) : (Op.stringOp .add (str x) (str y)).run Tryz.prog w = .ok (.string (str z)) w := by
  subst hz
  exact cat_run x y (by simpa using h) w

theorem str_info : (Tryz.prog.info? 9).map (fun i => (i.zero, i.size, i.bytes)) = some (some (.string ⟨#[]⟩), 1, 16) := by kernel_rfl

/-- strings.Join of a slice of the call's own -/
theorem join_any (base : Nat) (v : Value) (n : Nat) (ls : List (List UInt8)) (w : World) (hown : w.ownsRow base 9 1 v n (ls.map fun l => .string (str l))) (hn : n ≤ 140737488355328) (hlen : (Lib.join ls [32]).length ≤ 140737488355328) :
    Calls Tryz.prog 50 #[v, .string (str [32])] w fun e w' => e = .returned (.string (str (Lib.join ls [32]))) ∧ Below w.heap.size w w' := by
  have hl : ls.length = n := by simpa using hown.1
  have hmap : (ls.map str).map (fun x => x.data.toList) = ls := by
    rw [List.map_map]
    exact (List.map_congr_left fun l _ => rfl).trans (List.map_id ls)
  rcases hown.2 with ⟨rfl, rfl⟩ | ⟨g, cap, cur, rfl, _, hg, hnc, _⟩
  · have : ls = [] := List.eq_nil_of_length_eq_zero hl
    subst this
    refine (Tryz.strings_Join_none none 0 (str [32]) w).mono ?_
    rintro e w' ⟨rfl, rfl⟩
    exact ⟨rfl, Below.refl _ _⟩
  · have h := Tryz.strings_Join g 0 cap (ls.map str) (str [32]) w (fun j x hx => ?_) (Array.getElem?_eq_some_iff.1 hg).1 (by simpa [hl] using hn) (by simpa [hl] using hnc) (by rw [hmap]; exact hlen)
    · rw [hmap, List.length_map, hl] at h
      exact h
    · have hj : j < n := by
        have : j < (ls.map str).length := (List.getElem?_eq_some_iff.1 hx).1
        simpa [hl] using this
      rw [Nat.zero_add, hown.cellAt j (by omega), List.getElem?_map]
      rw [List.getElem?_map] at hx
      obtain ⟨l, hl', rfl⟩ := Option.map_eq_some_iff.1 hx
      rw [hl']
      rfl

theorem own_below {w w' : World} {base : Nat} {e : TypeId} {size : Nat} {v : Value} {n : Nat} {xs : List Value} (h : w.ownsRow base e size v n xs) (hb : Below w.heap.size w w') : w'.ownsRow base e size v n xs :=
  h.kept (row := none) ⟨hb.os, hb.tape, hb.output, hb.size, fun k hk _ => hb.block k hk⟩ (by cases v.ownBlock <;> simp)

theorem grown_own {w w' : World} {base : Nat} {e : TypeId} {size : Nat} {v : Value} {n : Nat} {xs : List Value} (h : w.ownsRow base e size v n xs) (hg : w.grownBy w' v.ownBlock) : ∀ B, B ≤ base → B ≤ w.heap.size → Below B w w' :=
  fun B hB hw => ⟨hg.os, hg.tape, hg.output, hg.size, fun k hk => hg.block k (by omega) (fun e => by have := h.lt k e.symm; omega)⟩

theorem builder_grown {T e : TypeId} {B b : Nat} {bs : List Value} {w w' : World} {row : Option Nat} (h : Lib.IsBuilderF T e B b bs w) (hg : w.grownBy w' row) (hr : ∀ r, row = some r → ∃ o : Obj, w.heap[r]? = some o ∧ o.isCells = false) : Lib.IsBuilderF T e B b bs w' := by
  have main : ∀ p, Lib.BuilderAtF T e B b p bs w → Lib.BuilderAtF T e B b p bs w' := by
    rintro p ⟨hB, v, hbk, ⟨hl, hown⟩, hne⟩
    have old : ∀ (k : Nat) (c : Array Value) (t : TypeId) (fz : Nat × Nat), w.heap[k]? = some (Obj.cells c t fz) → w'.heap[k]? = some (Obj.cells c t fz) := fun k c t fz hk =>
      (hg.block k (Array.getElem?_eq_some_iff.1 hk).1 (fun e => by
        obtain ⟨o, ho, hc⟩ := hr k e.symm
        rw [hk] at ho
        cases ho
        simp [Obj.isCells] at hc)).trans hk
    refine ⟨hB, v, old _ _ _ _ hbk, ⟨hl, ?_⟩, hne⟩
    rcases hown with h0 | ⟨g, cap, cur, fz, hv, hg', hh, rest⟩
    · exact .inl h0
    · exact .inr ⟨g, cap, cur, fz, hv, hg', old _ _ _ _ hh, rest⟩
  exact h.elim (fun x => .inl (main _ x)) (fun x => .inr (main _ x))

theorem cells_grown {w w' : World} {row : Option Nat} {k : Nat} {c : Array Value} {t : TypeId} {fz : Nat × Nat} (hk : w.heap[k]? = some (.cells c t fz)) (hg : w.grownBy w' row) (hr : ∀ r, row = some r → ∃ o : Obj, w.heap[r]? = some o ∧ o.isCells = false) : w'.heap[k]? = some (.cells c t fz) :=
  (hg.block k (Array.getElem?_eq_some_iff.1 hk).1 (fun e => by
    obtain ⟨o, ho, hc⟩ := hr k e.symm
    rw [hk] at ho
    cases ho
    simp [Obj.isCells] at hc)).trans hk

def digV (z : Int) : Value := .string (str (digN 8 z.toNat))

theorem join_len (ls : List (List UInt8)) (h : ∀ l ∈ ls, l.length ≤ 8) : (Lib.join ls [32]).length ≤ 9 * ls.length := by
  unfold Lib.join
  induction ls with
  | nil => simp [List.intercalate]
  | cons x r ih =>
    have hx := h x (by simp)
    have hr := ih fun l hl => h l (by simp [hl])
    cases r with
    | nil => simp [List.intercalate]; omega
    | cons y r =>
      simp only [List.intercalate, List.intersperse_cons_cons, List.flatten_cons, List.length_append, List.length_cons, List.length_nil] at hr ⊢
      omega

theorem wordLine_len (zs : List Int) (h : zs.length ≤ 8) : (wordLine zs).length ≤ 73 := by
  have := join_len (zs.map fun z => digN 8 z.toNat) (fun l hl => by
    obtain ⟨z, _, rfl⟩ := List.mem_map.1 hl
    rw [digN_length]
    omega)
  rw [List.length_map] at this
  unfold wordLine
  rw [List.length_append, List.length_cons, List.length_nil]
  omega

theorem wordLines_len {w0 : World} : ∀ (pre : List (Piece w0)), ((pre.map (·.1.2.2)).flatMap wordLine).length ≤ 73 * pre.length
  | [] => by simp
  | x :: pre => by
    have h1 := wordLines_len pre
    have h2 := x.2.1.int_len
    have h3 := x.2.2.1
    have h4 := wordLine_len x.1.2.2 (by omega)
    simp only [List.map_cons, List.flatMap_cons, List.length_append, List.length_cons] at h1 ⊢
    omega

set_option maxHeartbeats 1000000 in
set_option maxRecDepth 100000 in
theorem head_any (A1 : Option Addr) (n1 c1 : Nat) (A2 : Option Addr) (n2 c2 : Nat) (m : Img) (w : World) (h : IsImg w A1 n1 A2 n2 m) (hg : Good m) (hG : Glob w) (hc1 : n1 ≤ c1) :
    Calls Tryz.prog 25 #[.agg #[.slice A1 n1 c1, .int .i64 m.mem, .slice A2 n2 c2]] w fun e w' => e = .returned (.string (str m.head)) ∧ Below w.heap.size w w' := by
  obtain ⟨m1, m2⟩ := hg.mem
  have H := Lib.hid h
  have HG := Lib.hid hG
  have HGd := Lib.hid hg
  clear h hG hg
  refine (callsIn_wide (n := 3)).1 ?_
  refine callsIn_of_wp_marks Tryz.func25 rfl trivial ?_ rfl
  simp only [Tryz.ntmps25, List.size_toArray, List.length_cons, List.length_nil, Nat.reduceAdd, Nat.reduceSub, Array.replicate_succ, Array.replicate_zero, List.push_toArray, List.append_toArray, List.nil_append, List.cons_append]
  refine wpIn_wide.2 ?_
  have HX := Lib.hid (show Below w.heap.size w ((w.alloc (.cells #[.slice A1 n1 c1, .int .i64 m.mem, .slice A2 n2 c2] 25)).alloc (.cells #[.pointer none, .slice none 0 0] 74)) from bA (bA (bR w)))
  have hitoa := itoa_small m.mem m1 m2
  obtain ⟨l0, hl0⟩ : ∃ l0, l0 = [105, 109, 97, 103, 101, 32] ++ Lib.itoa m.mem := ⟨_, rfl⟩
  have hk0 : l0.length ≤ 10 := by rw [hl0]; simp; omega
  obtain ⟨l1, hl1⟩ : ∃ l1, l1 = l0 ++ [10] := ⟨_, rfl⟩
  have hk1 : l1.length ≤ 11 := by rw [hl1]; simp; omega
  have hcat0 := cat_at hl0 (by omega)
  have hcat1 := cat_at hl1 (by omega)
  have HL1 := Lib.hid (show l1 = headOf m.mem by rw [hl1, hl0]; rfl)
  clear hl0 hl1
  obtain ⟨X, hXe⟩ : ∃ X, X = (w.alloc (.cells #[.slice A1 n1 c1, .int .i64 m.mem, .slice A2 n2 c2] 25)).alloc (.cells #[.pointer none, .slice none 0 0] 74) := ⟨_, rfl⟩
  have hbox : X.heap[w.heap.size]? = some (.cells #[.slice A1 n1 c1, .int .i64 m.mem, .slice A2 n2 c2] 25 (0, 0)) := by
    rw [hXe]
    exact (Below.heap_alloc _ _ _ (by simp)).trans (heap_alloc_new w _)
  have hbld : Bld w (w.heap.size + 1) [] X := by
    refine ⟨?_, by rw [hXe]; exact HX.out⟩
    have hf := Lib.IsBuilderF.of (Lib.fresh_isBuilder 74 5 (w.alloc (.cells #[.slice A1 n1 c1, .int .i64 m.mem, .slice A2 n2 c2] 25)))
    rw [← hXe] at hf
    simp only [World.size_alloc] at hf
    exact builder_base hf (by omega)
  go_wp2_with fail
  refine (itoa_any m.mem _ (by omega) (by omega) (HG.out.below HX.out)).mono ?_
  rintro e w1 ⟨rfl, hb1⟩
  rw [← hXe] at hb1
  have HXe := Lib.hid hXe
  clear hXe
  have hbld1 := Lib.hid (hbld.below hb1)
  have hbox1 : w1.heap[w.heap.size]? = some (.cells #[.slice A1 n1 c1, .int .i64 m.mem, .slice A2 n2 c2] 25 (0, 0)) := (hb1.block _ (Array.getElem?_eq_some_iff.1 hbox).1).trans hbox
  have hBox1 := Lib.hid hbox1
  clear hbox hbld hbox1 hb1
  go_wp2_with fail
  refine (write_any w (w.heap.size + 1) [] l1 _ hbld1.out (by simp; omega)).mono ?_
  rintro e w2 ⟨rfl, hbld2, ho2⟩
  have hbox2 := ho2 _ _ hBox1.out (by simp) (by simp)
  have c0 : w2.cell? ⟨w.heap.size, 0, none⟩ = some (.slice A1 n1 c1) := by rw [cell_of_row w2 w.heap.size 0 _ _ _ hbox2]; rfl
  have c2' : w2.cell? ⟨w.heap.size, 2, none⟩ = some (.slice A2 n2 c2) := by rw [cell_of_row w2 w.heap.size 2 _ _ _ hbox2]; rfl
  have HBld2 := Lib.hid hbld2
  have HBox2 := Lib.hid hbox2
  clear ho2 hbld2 hbox2
  have HN2 := Lib.hid H.out.r2.sym_len
  have hb2 := H.out.b2
  go_wp2_with fail
  go_loopw [19] (fun i wr => ∃ k : Nat, k ≤ n2 ∧ i = .int .i64 k ∧ Bld w (w.heap.size + 1) (l1 ++ (m.syms.take k).flatMap symLine) wr ∧ wr.heap[w.heap.size]? = some (.cells #[.slice A1 n1 c1, .int .i64 m.mem, .slice A2 n2 c2] 25 (0, 0))) (fun i _ => n2 - (intOf i).toNat)
  case atStart => exact ⟨0, Nat.zero_le _, rfl, by simpa using HBld2.out, HBox2.out⟩
  case round =>
    obtain ⟨k, hk, rfl, hbld, hbox⟩ := hrel
    have HB := Lib.hid hbld
    have HBox := Lib.hid hbox
    clear hbld hbox
    by_cases hlt : k < n2
    · obtain ⟨b, off, nm, pl, rfl, hx, hc1, hc2⟩ := (H.out.r2.below HB.out.2).sym hlt
      obtain ⟨hs1, hs2, hs3⟩ := HGd.out.syms _ (List.mem_of_getElem? hx)
      have HXx := Lib.hid hx
      clear hx
      dsimp only at hs1 hs2 hs3
      obtain ⟨pn, rfl⟩ := Int.eq_ofNat_of_zero_le hs2
      have hlk : (m.syms.take k).length ≤ 1000 := by have := HGd.out.nsyms; rw [List.length_take]; omega
      obtain ⟨lk, hlke⟩ : ∃ lk, lk = l1 ++ (m.syms.take k).flatMap symLine := ⟨_, rfl⟩
      have hlkl : lk.length ≤ 50011 := by
        have := symLines_length (l := m.syms.take k) fun x hx => (HGd.out.syms x (List.mem_of_mem_take hx)).1
        rw [hlke, List.length_append]
        omega
      obtain ⟨a1, ha1⟩ : ∃ a1, a1 = digN 8 pn ++ [32] := ⟨_, rfl⟩
      obtain ⟨a2, ha2⟩ : ∃ a2, a2 = a1 ++ nm := ⟨_, rfl⟩
      obtain ⟨a3, ha3⟩ : ∃ a3, a3 = a2 ++ [10] := ⟨_, rfl⟩
      have la1 : a1.length = 9 := by rw [ha1, List.length_append, digN_length]; rfl
      have la2 : a2.length ≤ 49 := by rw [ha2, List.length_append]; omega
      have la3 : a3.length ≤ 50 := by rw [ha3, List.length_append]; simp; omega
      have cat1 := cat_at ha1 (by omega)
      have cat2 := cat_at ha2 (by omega)
      have cat3 := cat_at ha3 (by omega)
      have hline : a3 = symLine (nm, (pn : Int)) := by rw [ha3, ha2, ha1]; simp [symLine]
      have HLine := Lib.hid hline
      have HLke := Lib.hid hlke
      clear ha1 ha2 ha3 hline la1 la2 hlke
      have hnext : l1 ++ (m.syms.take (k + 1)).flatMap symLine = lk ++ a3 := by
        rw [HLke.out, HLine.out, List.take_add_one, HXx.out, List.flatMap_append, ← List.append_assoc]
        simp
      have HNext := Lib.hid hnext
      clear hnext
      have hBY : Bld w (w.heap.size + 1) lk (wr.alloc (.cells #[.string (str nm), .int .i64 (pn : Int)] 45)).drew := by
        have := HB.out
        rw [← HLke.out] at this
        exact this.below (bD (bA (bR wr)))
      have HDig := Lib.hid (digits_any pn (wr.alloc (.cells #[.string (str nm), .int .i64 (pn : Int)] 45)).drew (by omega) (HG.out.below hBY.2).deb)
      have HBY := Lib.hid hBY
      clear hBY
      have HBoxY := Lib.hid (show (wr.alloc (.cells #[.string (str nm), .int .i64 (pn : Int)] 45)).drew.heap[w.heap.size]? = _ from (Below.heap_alloc wr _ w.heap.size (Array.getElem?_eq_some_iff.1 HBox.out).1).trans HBox.out)
      go_wp2_with fail
      have hblt := HB.out.lt
      go_region_held3 (fun w' => w'.cell? ⟨wr.heap.size, 0, none⟩ = some (.string (str nm)) ∧ w'.cell? ⟨wr.heap.size, 1, none⟩ = some (.int .i64 (pn : Int)))
        (first | go_keep | (exact n3) | (exact n4))
        (first
          | (go_at_call 26; refine HDig.out.mono ?_; rintro e w3 ⟨rfl, hb3⟩; have n3 : w3.cell? ⟨wr.heap.size, 0, none⟩ = some (.string (str nm)) ∧ w3.cell? ⟨wr.heap.size, 1, none⟩ = some (.int .i64 (pn : Int)) := ⟨(hb3.cell (p := ⟨wr.heap.size, 0, none⟩) (by simp)).trans (new_cell (fz := (0, 0)) rfl), (hb3.cell (p := ⟨wr.heap.size, 1, none⟩) (by simp)).trans (new_cell (fz := (0, 0)) rfl)⟩; have HB3 := Lib.hid (HBY.out.below hb3); have HNm3 := Lib.hid ((hb3.block wr.heap.size (by simp)).trans (heap_alloc_new wr (.cells #[.string (str nm), .int .i64 (pn : Int)] 45))); have HBox3 := Lib.hid ((hb3.block _ (Array.getElem?_eq_some_iff.1 HBoxY.out).1).trans HBoxY.out); clear hb3)
          | (go_at_call 47; refine (write_any w (w.heap.size + 1) lk a3 _ HB3.out (by omega)).mono ?_; rintro e w4 ⟨rfl, hb4, ho4⟩; have HB4 := Lib.hid hb4; have hn4 := ho4 _ _ HNm3.out (by simp; omega) (by simp); have n4 : w4.cell? ⟨wr.heap.size, 0, none⟩ = some (.string (str nm)) ∧ w4.cell? ⟨wr.heap.size, 1, none⟩ = some (.int .i64 (pn : Int)) := ⟨by rw [cell_of_row w4 wr.heap.size 0 _ _ _ hn4]; rfl, by rw [cell_of_row w4 wr.heap.size 1 _ _ _ hn4]; rfl⟩; clear hn4; have HBox4 := Lib.hid (ho4 _ _ HBox3.out (by simp) (by simp)); clear hb4 ho4))
      go_wp2
      go_roundw
      case rel => exact ⟨k + 1, by omega, by go_num, by rw [HNext.out]; exact HB4.out, HBox4.out⟩
      case measure => simp [intOf]; omega
    · have hkn : k = n2 := by omega
      have hall : l1 ++ (m.syms.take k).flatMap symLine = l1 ++ m.syms.flatMap symLine := by rw [hkn, ← HN2.out, List.take_length]
      have HB5 := Lib.hid (hall ▸ HB.out)
      clear hall HB hkn
      obtain ⟨l2, hl2⟩ : ∃ l2, l2 = l1 ++ m.syms.flatMap symLine := ⟨_, rfl⟩
      obtain ⟨l3, hl3⟩ : ∃ l3, l3 = l2 ++ [99, 111, 100, 101, 10] := ⟨_, rfl⟩
      have hk2 : l2.length ≤ 50011 := by
        have := symLines_length (l := m.syms) fun x hx => (HGd.out.syms x hx).1
        have := HGd.out.nsyms
        rw [hl2, List.length_append]
        omega
      have hk3 : l3.length ≤ 50016 := by rw [hl3, List.length_append]; simp; omega
      have HL3 := Lib.hid (show l3 = headOf m.mem ++ m.syms.flatMap symLine ++ [99, 111, 100, 101, 10] by rw [hl3, hl2, HL1.out])
      have HB6 := Lib.hid (hl2 ▸ HB5.out)
      have HL3b := Lib.hid hl3
      clear hl2 hl3 HB5 HL1
      go_wp2_with fail
      refine (write_any w (w.heap.size + 1) l2 [99, 111, 100, 101, 10] _ HB6.out (by simp; omega)).mono ?_
      rintro e w5 ⟨rfl, hb5, ho5⟩
      rw [← HL3b.out] at hb5
      have hbox5 := ho5 _ _ HBox.out (by simp) (by simp)
      have c50 : w5.cell? ⟨w.heap.size, 0, none⟩ = some (.slice A1 n1 c1) := by rw [cell_of_row w5 w.heap.size 0 _ _ _ hbox5]; rfl
      have HB7 := Lib.hid hb5
      clear hb5 hbox5 ho5 c2' c0
      go_wp2_with fail
      refine (chunk_any A1 n1 c1 _).mono ?_
      rintro e w6 ⟨rfl, rfl⟩
      go_wp2_with fail
      have hY : Below w5.heap.size w5 ((w5.alloc (.cells #[.slice A1 n1 c1] 22)).alloc (.cells #[.int .i64 8] 3)) := bA (bA (bR w5))
      have hYs : ((w5.alloc (.cells #[.slice A1 n1 c1] 22)).alloc (.cells #[.int .i64 8] 3)).heap.size = w5.heap.size + 2 := by simp
      have hY1 : ((w5.alloc (.cells #[.slice A1 n1 c1] 22)).alloc (.cells #[.int .i64 8] 3)).heap[w5.heap.size]? = some (.cells #[.slice A1 n1 c1] 22 (0, 0)) := (Below.heap_alloc _ _ _ (by simp)).trans (heap_alloc_new w5 _)
      have hY2 : ((w5.alloc (.cells #[.slice A1 n1 c1] 22)).alloc (.cells #[.int .i64 8] 3)).heap[w5.heap.size + 1]? = some (.cells #[.int .i64 8] 3 (0, 0)) := by
        have := heap_alloc_new (w5.alloc (.cells #[.slice A1 n1 c1] 22)) (.cells #[.int .i64 8] 3)
        rwa [World.size_alloc] at this
      have hws : w.heap.size ≤ w5.heap.size := HB7.out.2.size
      refine (wpIn_wide (n := 3)).1 ?_
      refine wpIn_rangeFunc_ownG (w0 := (w5.alloc (.cells #[.slice A1 n1 c1] 22)).alloc (.cells #[.int .i64 8] 3)) rfl (by omega) (gf := 70) (lb := #[.pointer (some ⟨w5.heap.size, 0, none⟩), .pointer (some ⟨w5.heap.size + 1, 0, none⟩)]) rfl trivial (enters_of Tryz.func70 (by kernel_rfl) rfl)
        (chunk_stops w5.heap.size n1 c1 8192 A1 m.words w _ (by have := HGd.out.nwords; have := H.out.r1.int_len; omega) hc1 H.out.r1 HGd.out.words (by have := HGd.out.nwords; have := H.out.r1.int_len; omega) (by rw [hYs]; omega) hY1 hY2)
        (fun h h' => ⟨h'.1.trans h.1, h'.2.trans h.2⟩)
        (fun W l o o' hl ho hc _ => ⟨World.putObj_heap_other (by rw [hYs] at hl; omega), World.putObj_heap_other (by rw [hYs] at hl; omega)⟩)
        (Below.refl _ _) (fun _ => rfl)
        (fun pre W => Bld w (w.heap.size + 1) (l3 ++ (pre.map (·.1.2.2)).flatMap wordLine) W ∧ W.heap[w5.heap.size]? = some (.cells #[.slice A1 n1 c1] 22 (0, 0)) ∧ W.heap[w5.heap.size + 1]? = some (.cells #[.int .i64 8] 3 (0, 0)))
        (fun _ _ _ => False) ?own (fun _ _ _ _ _ hs _ _ => hs) ?start
        (fun x => { tmps := #[.agg #[.slice A1 n1 c1, .int .i64 m.mem, .slice A2 n2 c2], .pointer (some ⟨w.heap.size, 0, none⟩), .string ⟨#[]⟩, .pointer (some ⟨w.heap.size + 1, 0, none⟩), undef, u5, .slice x.1.1 x.1.2.1 x.1.2.1, undef, undef, undef, .pointer (some ⟨w.heap.size, 1, none⟩), .int .i64 m.mem, .string (str (Lib.itoa m.mem)), .string (str l0), .string (str l1), .tuple #[.int .i64 (l1.length : Nat), .nilIface], .pointer (some ⟨w.heap.size, 2, none⟩), .slice A2 n2 c2, .int .i64 (n2 : Nat), .int .i64 (k : Nat), .bool false, u21, u22, u23, u24, u25, u26, u27, u28, u29, u30, u31, u32, .tuple #[.int .i64 5, .nilIface], .pointer (some ⟨w.heap.size, 0, none⟩), .slice A1 n1 c1, .func (.func 70) #[] #[.pointer (some ⟨w5.heap.size, 0, none⟩), .pointer (some ⟨w5.heap.size + 1, 0, none⟩)], .slice x.1.1 x.1.2.1 x.1.2.1, undef, undef, undef, undef, undef, undef, undef, undef, undef, undef, undef, undef, undef, undef, undef, undef, undef], defers := [] }) ?assign ?body ?done ?stop
      case own =>
        rintro s X1 X2 row ⟨⟨hs1, hs2⟩, hs3, hs4⟩ hg hr
        have hr' : ∀ r, row = some r → ∃ o : Obj, X1.heap[r]? = some o ∧ o.isCells = false := fun r e => (hr r e).2
        exact ⟨⟨builder_grown hs1 hg hr', hs2.grown hg hs2.size (fun r e => by have := (hr r e).1; rw [hYs] at this; omega)⟩, cells_grown hs3 hg hr', cells_grown hs4 hg hr'⟩
      case start => exact ⟨by simpa using HB7.out.below hY, hY1, hY2⟩
      case assign =>
        intro l x W K hK
        gi_wp2
        exact hK
      case body =>
        rintro l pre x W ⟨hB, hbx1, hbx2⟩ hlen
        have HBx := Lib.hid (And.intro hbx1 hbx2)
        clear hbx1 hbx2
        obtain ⟨i0, hi, hz0, hz1, hz2⟩ := info_parts str_info
        obtain ⟨hrd, hn8, hzs⟩ := x.2
        have hsn : (l3 ++ ((pre ++ [x]).map (·.1.2.2)).flatMap wordLine) = l3 ++ (pre.map (·.1.2.2)).flatMap wordLine ++ wordLine x.1.2.2 := by
          rw [List.map_append, List.flatMap_append, ← List.append_assoc]
          simp
        have HSn := Lib.hid hsn
        clear hsn
        generalize x.1.1 = A at hrd ⊢
        generalize x.1.2.1 = n at hrd hn8 ⊢
        generalize x.1.2.2 = zs at hrd hzs HSn ⊢
        have HR := Lib.hid (hrd.below hB.2)
        have HZ := Lib.hid hzs
        have HBb := Lib.hid hB
        have HLn := Lib.hid hrd.int_len
        have HOw := Lib.hid hlen
        clear hB hrd hzs hlen
        gi_wp2
        gi_loopw [7, 40] (fun v i wr => ∃ j : Nat, j ≤ n ∧ i = .int .i64 (j : Nat) ∧ wr.ownsRow W.heap.size 9 1 v j ((zs.take j).map digV) ∧ Below W.heap.size W wr) (fun _ i _ => n - (intOf i).toNat)
        case atStart => exact ⟨0, Nat.zero_le _, rfl, World.ownsRow_nil _ _ _ _, bR W⟩
        case round =>
          obtain ⟨j, hj, rfl, hown, hbw⟩ := hrel
          have HOwn := Lib.hid hown
          have HBw := Lib.hid hbw
          clear hown hbw
          by_cases hjl : j < n
          · obtain ⟨b, off, z, rfl, hz, hc⟩ := (HR.out.below HBw.out).int hjl
            obtain ⟨hz1', hz2'⟩ := HZ.out z (List.mem_of_getElem? hz)
            have HZz := Lib.hid hz
            clear hz
            obtain ⟨zn, rfl⟩ := Int.eq_ofNat_of_zero_le hz1'
            have HTk := Lib.hid (show (zs.take (j + 1)).map digV = (zs.take j).map digV ++ [.string (str (digN 8 zn))] by
              rw [List.take_add_one, HZz.out, List.map_append]; rfl)
            gi_wp2_with fail
            refine ⟨trivial, ?_⟩
            refine (CallsIn.inRound l (callsIn_wide.2 (digits_any zn _ (by omega) ((HG.out.below HBb.out.2).below HBw.out).deb))).mono ?_
            rintro e w6 ⟨rfl, hb6⟩
            have HO6 := Lib.hid (own_below HOwn.out hb6)
            have HB6' := Lib.hid (HBw.out.trans (hb6.mono HBw.out.size))
            clear hb6
            gi_wp2_with (gi_at_builtin; refine wpListIn_append_own _ rfl (.tmp 44) (.tmp 47) 37 rfl W.heap.size 9 i0 _ 1 16 Tryz.underlying37 hi hz0 hz1 hz2 rfl (by decide) u7 j _ rfl (HO6.out.alloc _) ⟨w6.heap.size, 0, none⟩ 1 1 [.string (str (digN 8 zn))] rfl rfl (cell_one_new _ _ _) (by simp [Value.oneCell']) (by unfold maxLen; omega) (by omega) (by have := HB6'.out.size; simp; omega) ?_; intro v' w7 hown' hgrow _)
            refine ⟨⟨j + 1, by omega, by go_num, by rw [HTk.out]; exact hown', (HB6'.out.alloc HB6'.out.size _).grown hgrow (by have := HB6'.out.size; simp; omega) (fun r e => (HO6.out.lt r e).1)⟩, by simp [intOf]; omega⟩
          · have hjn : j = n := by omega
            have hj8 : ((zs.take j).map digV) = ((zs.map fun z => digN 8 z.toNat).map fun l => Value.string (str l)) := by
              rw [hjn, ← HLn.out, List.take_length, List.map_map]
              rfl
            have hown2 := HOwn.out
            rw [hj8] at hown2
            have HOwn2 := Lib.hid hown2
            have hjl2 : (Lib.join (zs.map fun z => digN 8 z.toNat) [32]).length ≤ 72 := by
              have := join_len (zs.map fun z => digN 8 z.toNat) (fun l hl => by
                obtain ⟨z, _, rfl⟩ := List.mem_map.1 hl
                rw [digN_length]
                omega)
              rw [List.length_map, HLn.out] at this
              omega
            obtain ⟨jn, hjne⟩ : ∃ jn, jn = Lib.join (zs.map fun z => digN 8 z.toNat) [32] := ⟨_, rfl⟩
            obtain ⟨ln, hlne⟩ : ∃ ln, ln = jn ++ [10] := ⟨_, rfl⟩
            have hjnl : jn.length ≤ 72 := hjne ▸ hjl2
            have hlln : ln.length ≤ 73 := by rw [hlne, List.length_append]; simp; omega
            have hcatj := cat_at hlne (by omega)
            have HJn := Lib.hid hjne
            have HLn2 := Lib.hid (show ln = wordLine zs by rw [hlne, hjne]; rfl)
            clear hjne hlne hown2 hj8 hjn hjl2
            obtain ⟨lp, hlp⟩ : ∃ lp, lp = l3 ++ (pre.map (·.1.2.2)).flatMap wordLine := ⟨_, rfl⟩
            have HBb2 := Lib.hid (hlp ▸ HBb.out)
            have hlpl : lp.length ≤ 1000000 := by
              have h1 := wordLines_len pre
              have h2 := HOw.out
              rw [hlp, List.length_append]
              omega
            have HSn2 := Lib.hid (show l3 ++ ((pre ++ [x]).map (·.1.2.2)).flatMap wordLine = lp ++ ln by rw [HSn.out, hlp, HLn2.out])
            clear hlp
            gi_wp2_with fail
            refine ⟨trivial, ?_⟩
            refine (CallsIn.inRound l (callsIn_wide.2 (join_any _ _ _ (zs.map fun z => digN 8 z.toNat) _ HOwn2.out (by omega) (by rw [← HJn.out]; omega)))).mono ?_
            rintro e w6 ⟨rfl, hb6⟩
            rw [← HJn.out]
            have HB8 := Lib.hid (HBw.out.trans (hb6.mono HBw.out.size))
            clear hb6
            gi_wp2_with fail
            refine ⟨trivial, ?_⟩
            refine (CallsIn.inRound l (callsIn_wide.2 (write_sz w (w.heap.size + 1) lp ln _ (HBb2.out.below HB8.out) (by omega)))).mono ?_
            rintro e w7 ⟨rfl, hb7, ho7, hsz7⟩
            have HS7 := Lib.hid hsz7
            clear hsz7
            have HB9 := Lib.hid hb7
            have HO9 := Lib.hid ho7
            clear hb7 ho7
            gi_wp2
            have hsame : ∀ (q : Nat) (o : Obj), W.heap[q]? = some o → q ≠ w.heap.size + 1 → (∀ c fz, o ≠ .cells c 5 fz) → w7.heap[q]? = some o := fun q o hq hne ho =>
              HO9.out q o ((HB8.out.block q (Array.getElem?_eq_some_iff.1 hq).1).trans hq) (by simpa using hne) ho
            have hb1 := hsame _ _ HBx.out.1 (by have := HB7.out.lt; omega) (by simp)
            have hb2 := hsame _ _ HBx.out.2 (by have := HB7.out.lt; omega) (by simp)
            refine ⟨⟨Nat.le_trans HB8.out.size HS7.out, fun q o hq ho hc => hsame q o ho (by have := HB7.out.lt; rw [hYs] at hq; omega) (fun c fz e => by subst e; simp [Obj.isCells] at hc)⟩, ⟨hb1.trans HBx.out.1.symm, hb2.trans HBx.out.2.symm⟩, ?_, hb1, hb2⟩
            rw [HSn2.out]
            exact HB9.out
      case done =>
        rintro D ys W hD hS ⟨hB, _, _⟩ hK
        have hfin : l3 ++ (ys.map (·.1.2.2)).flatMap wordLine = m.head := by
          rw [hS, HL3.out, ← H.out.r1.int_len]
          rfl
        rw [hfin] at hB
        have HBd := Lib.hid hB
        have HK := Lib.hid hK
        clear hB hfin hS hK
        go_wp2_with fail
        refine (Tryz.Builder_String_any_k w.heap.size (w.heap.size + 1) m.head _ HBd.out.1 HBd.out.2.size).mono ?_
        rintro e w8 ⟨rfl, hb8, hbw8, ho8⟩
        have hK8 : w8.heap[D]? = some (.deferred (some [])) := ho8 D _ HK.out (by rw [hYs] at hD; simp; omega) (by simp)
        have hfb : Below w.heap.size w w8 := HBd.out.2.trans hbw8
        clear hb8 hbw8 ho8
        go_wp2
        refine ⟨by simp, .inl ⟨_, _, rfl, run_takeDeferred hK8, ?_⟩⟩
        exact ⟨_, results_tmp rfl _ _ _, rfl, hfb.trans (belowK_b (w := w) (Nat.le_refl _) w8 D _ _ (by rw [hYs] at hD; omega) hK8 rfl rfl)⟩
      case stop =>
        rintro D c pre W _ _ h _
        exact h.elim
end Go.Proofs.YtgajlhejefjhhaaGreatDoor
