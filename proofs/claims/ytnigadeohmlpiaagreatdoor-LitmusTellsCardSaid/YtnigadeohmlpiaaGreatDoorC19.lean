/- Contracts and words: bytes are written to a builder; a number is written to a builder. No condition of ours. -/
import Derived.Test.YtnigadeohmlpiaaGreatDoorC18
import Derived.Test.YtnigadeohmlpiaaGreatDoorC03
import Derived.Lib.ItoaLen
set_option maxHeartbeats 32000000
set_option maxRecDepth 100000
namespace Go.Proofs.YtnigadeohmlpiaaGreatDoor
open Go.RowKit
attribute [local go_sem] Oper.semAt_some
theorem copyCheck_used(b:Nat)(w:World)(h0:w.cell? ⟨b,0,none⟩=some (.pointer (some ⟨b,0,none⟩))):
  Calls Tryz.prog 113 #[.pointer (some ⟨b,0,none⟩)] w fun e w'=>e=.returned (.tuple #[])/\w=w':=by
 obtain⟨j,hj,_⟩:=Option.map_eq_some_iff.1 Tryz.Builder_Extra_169.sizeBuilder;go_enter Tryz.func113,Tryz.ntmps113;go_wp2_with fail;rw[Lib.run_neq_ptr_same w _ Tryz.underlying141 hj];go_wp2_with fail;go_end0;exact⟨rfl,rfl⟩
theorem copyCheck_fresh(b:Nat)(w:World)(h0:w.cell? ⟨b,0,none⟩=some (.pointer none))(hsh:w.shape? b=some (144,2))(hfz:w.frozen? ⟨b,0,none⟩=false):
  Calls Tryz.prog 113 #[.pointer (some ⟨b,0,none⟩)] w fun e w'=>e=.returned (.tuple #[])/\w.setCell ⟨b,0,none⟩ (.pointer (some ⟨b,0,none⟩))=w':=by
 obtain⟨j,hj,hjs⟩:=Option.map_eq_some_iff.1 Tryz.Builder_Extra_169.sizeBuilder;go_enter Tryz.func113,Tryz.ntmps113;go_wp2_with fail;rw[Lib.run_to_unsafe w ⟨b,0,none⟩ Tryz.underlying141 Tryz.underlying186 hj (by rw[hjs];decide) hsh (Nat.zero_lt_succ 1)];simp only[Result.andThen];rw[Oper.upon_value];go_wp2_with fail
 rw[run_callFunc_extern Tryz.func133 (by kernel_rfl) (by kernel_rfl) (by kernel_rfl) (e:=Extern.AbiNoEscape.same) (by kernel_rfl)];rw[Lib.run_noEscape];simp only[Result.andThen];rw[Oper.upon_value];go_wp2_with fail;rw[Lib.run_from_unsafe w ⟨b,0,none⟩ Tryz.underlying186 Tryz.underlying141 hj hsh Tryz.Builder_Extra_169.liesBuilder];simp only[Result.andThen];rw[Oper.upon_value];go_wp2_with fail
 go_end0;exact⟨rfl,rfl⟩
theorem Tk.sub{T T':List TypeId}{w1 w2:World}(h:Tk T w1 w2)(hs:∀t∈T,t∈T'):Tk T' w1 w2:=⟨h.1,fun k cur e fz he hk=>h.2 k cur e fz (fun hm=>he (hs e hm)) hk⟩
theorem bld_tk0{B b:Nat}{p q:Value}{bs:List Value}{w:World}(h:Lib.BuilderAt 144 5 B b p bs w)(i:Nat):Tk [144,5] w (w.setCell ⟨b,i,none⟩ q):=by obtain⟨_,v,h2,_⟩:=h;exact(tk_set1 h2).sub (by simp)
theorem copyCheck_any(B b:Nat)(bs:List Value)(w:World)(h:Lib.IsBuilder 144 5 B b bs w):
  Calls Tryz.prog 113 #[.pointer (some ⟨b,0,none⟩)] w fun e w'=>e=.returned (.tuple #[])/\(Lib.BuilderAt 144 5 B b (.pointer (some ⟨b,0,none⟩)) bs w'/\Below B w w'/\Tk [144,5] w w'):=by
 rcases h with h|h
 ·refine(copyCheck_fresh b w h.cell0 h.shape h.frozen0).mono ?_;rintro e w' ⟨rfl,rfl⟩;exact⟨rfl,h.used _,(Below.refl B w).setCell (p:=⟨b,0,none⟩) h.1 _,bld_tk0 h 0⟩
 refine(copyCheck_used b w h.cell0).mono ?_;rintro e w' ⟨rfl,rfl⟩;exact⟨rfl,h,Below.refl B w,Tk.refl _ _⟩
theorem writeString(B b:Nat)(bs:List Value)(s:ByteArray)(w:World)(h:Lib.IsBuilder 144 5 B b bs w)(hlen:bs.length+s.size<=140737488355328)(hBw:B<=w.heap.size):
  Calls Tryz.prog 92 #[.pointer (some ⟨b,0,none⟩),.string s] w fun e w'=>e=.returned (.tuple #[.int .i64 s.size,.nilIface])/\(Lib.BuilderAt 144 5 B b (.pointer (some ⟨b,0,none⟩)) (bs++Lib.strCells s) w'/\Below B w w'/\Tk [144,5] w w'):=by
 obtain⟨i0,hi,hz0,hz1,hz2⟩:=info_parts Tryz.Builder_Extra_169.infoByte;go_enter Tryz.func92,Tryz.ntmps92;go_wp2_with (go_at_call 113;refine(copyCheck_any B b bs _ h).mono ?_);rintro e w1 ⟨rfl,h1,hb1,htk1⟩;obtain⟨hB,v,hbk,hown,hne⟩:=h1;have c0:w1.cell? ⟨b,0,none⟩=some (.pointer (some ⟨b,0,none⟩)):=by rw[Lib.cell_of_heap hbk];rfl
 have c1:w1.cell? ⟨b,1,none⟩=some v:=by rw[Lib.cell_of_heap hbk];rfl
 go_wp2_with (at_builtin;refine Lib.wpList_append_own_string _ rfl _ _ 142 9 rfl B 5 i0 Tryz.underlying142 Tryz.underlying9 hi hz0 hz1 hz2 _ _ _ rfl hown s rfl ?c3 ?c4 ?c5 ?_);case c3=>unfold maxLen;omega
 case c4=>omega
 case c5=>have:=hb1.size;omega
 intro v' w2 hown' hgrow _;have hb2:w2.heap[b]?=some (.cells #[.pointer (some ⟨b,0,none⟩),v] 144 (0,0)):=by rw[hgrow.block b (blk_lt hbk) (fun e=>hne e.symm)];exact hbk
 have d0:w2.cell? ⟨b,0,none⟩=some (.pointer (some ⟨b,0,none⟩)):=by rw[Lib.cell_of_heap hb2];rfl
 have d1:w2.cell? ⟨b,1,none⟩=some v:=by rw[Lib.cell_of_heap hb2];rfl
 have f1:w2.frozen? ⟨b,1,none⟩=false:=Lib.frozen_of_heap hb2 1;obtain⟨ao,n',cap,rfl⟩:∃ao n' cap,v'=.slice ao n' cap:=by
  rcases hown'.2 with⟨hv,_⟩|⟨g,cap,cur,hv,_⟩
  ·exact⟨_,_,_,hv⟩
  exact⟨_,_,_,hv⟩
 go_wp2;go_ret2;refine⟨rfl,?_,?_,tk_trans (tk_trans htk1 ((tk_grown hown hgrow).sub (by simp))) ((tk_set1 hb2).sub (by simp))⟩
 ·exact Lib.BuilderAt.put (T:=144) (e:=5) hB hb2 (bs':=bs++Lib.strCells s) (by simpa[Lib.strCells_length] using hown') (by decide)
 exact(hb1.grown hgrow (by have:=hb1.size;omega) (fun k hk=>(hown.lt k hk).1)).setCell (p:=⟨b,1,none⟩) hB _
theorem writeByte(B b:Nat)(bs:List Value)(c:Int)(w:World)(h:Lib.IsBuilder 144 5 B b bs w)(hlen:bs.length+1<=140737488355328)(hBw:B<=w.heap.size):
  Calls Tryz.prog 94 #[.pointer (some ⟨b,0,none⟩),.int .u8 c] w fun e w'=>e=.returned .nilIface/\(Lib.BuilderAt 144 5 B b (.pointer (some ⟨b,0,none⟩)) (bs++[.int .u8 c]) w'/\Below B w w'/\Tk [144,5] w w'):=by
 obtain⟨i0,hi,hz0,hz1,hz2⟩:=info_parts Tryz.Builder_Extra_169.infoByte;go_enter Tryz.func94,Tryz.ntmps94;go_wp2_with (go_at_call 113;refine(copyCheck_any B b bs _ h).mono ?_);rintro e w1 ⟨rfl,h1,hb1,htk1⟩;obtain⟨hB,v,hbk,hown,hne⟩:=h1;have c0:w1.cell? ⟨b,0,none⟩=some (.pointer (some ⟨b,0,none⟩)):=by rw[Lib.cell_of_heap hbk];rfl
 have c1:w1.cell? ⟨b,1,none⟩=some v:=by rw[Lib.cell_of_heap hbk];rfl
 go_wp2_with (at_builtin;refine wpList_append_own _ rfl _ _ 142 rfl B 5 i0 (.int .u8 0) 1 1 Tryz.underlying142 hi hz0 hz1 hz2 rfl (by decide) _ _ _ rfl (hown.alloc _) ⟨w1.heap.size,0,none⟩ 1 1 [.int .u8 c] rfl rfl ?c1 ?c2 ?c3 ?c4 ?c5 ?_)
 case c1=>
  intro j u hj
  match j,hj with
  |0,hj=>simp at hj;subst hj;simp[Addr.add]
 case c2=>intro u hu;simp at hu;subst hu;rfl
 case c3=>unfold maxLen;omega
 case c4=>omega
 case c5=>have:=hb1.size;simp;omega
 intro v' w2 hown' hgrow _;have hb2:w2.heap[b]?=some (.cells #[.pointer (some ⟨b,0,none⟩),v] 144 (0,0)):=by rw[hgrow.block b (by have:=blk_lt hbk;simp;omega) (fun e=>hne e.symm),Lib.alloc_old w1 _ b (blk_lt hbk)];exact hbk
 have d0:w2.cell? ⟨b,0,none⟩=some (.pointer (some ⟨b,0,none⟩)):=by rw[Lib.cell_of_heap hb2];rfl
 have d1:w2.cell? ⟨b,1,none⟩=some v:=by rw[Lib.cell_of_heap hb2];rfl
 have f1:w2.frozen? ⟨b,1,none⟩=false:=Lib.frozen_of_heap hb2 1;obtain⟨g,cap,rfl⟩:∃g cap,v'=.slice (some ⟨g,0,none⟩) (bs.length+1) cap:=by
  rcases hown'.2 with⟨_,h0⟩|⟨g,cap,cur,hv,_⟩
  ·omega
  exact⟨g,cap,hv⟩
 go_wp2;go_ret;refine⟨rfl,?_,?_,tk_trans (tk_trans (tk_trans htk1 (Tk.below (bA (bR w1)))) ((tk_grown (hown.alloc _) hgrow).sub (by simp))) ((tk_set1 hb2).sub (by simp))⟩
 ·exact Lib.BuilderAt.put (T:=144) (e:=5) hB hb2 (bs':=bs++[.int .u8 c]) (by simpa using hown') (by decide)
 exact((hb1.alloc (by have:=hb1.size;omega) _).grown hgrow (by have:=hb1.size;simp;omega) (fun k hk=>(hown.lt k hk).1)).setCell (p:=⟨b,1,none⟩) hB _
end Go.Proofs.YtnigadeohmlpiaaGreatDoor
namespace Go.Proofs.YtnigadeohmlpiaaGreatDoor
open Go.RowKit Go.Sort
attribute [local go_sem] Oper.semAt_some
def Glob(w:World):Prop:=Lib.TabIs Tryz.prog w "internal/strconv.uint64pow10" .u64 Lib.pow10Tab
theorem below_grow(w:World)(k:Nat)(os:Array Obj):Below w.heap.size w (grow (w.drewN k) os):=by have h:Below w.heap.size w (w.drewN k):=bN (bR w);exact⟨h.os,h.tape,h.output,by simp,fun i hi=>(heap_grow_old _ _ (Nat.lt_of_lt_of_le hi h.size)).trans (h.block i hi)⟩
theorem pow_named:Tryz.prog.globalNamed "internal/strconv.uint64pow10" =some 0:=by kernel_rfl
theorem Glob.heap{w w':World}(h:Glob w)(h0:w'.heap[0]?=w.heap[0]?):Glob w':=by unfold Glob Lib.TabIs World.var? at*;rw[pow_named] at*;simp only[Option.bind_some] at*;rwa[h0]
theorem Glob.lt{w:World}(h:Glob w):0<w.heap.size:=by
 rcases Nat.eq_zero_or_pos w.heap.size with h0|h0
 ·unfold Glob Lib.TabIs World.var? at h;rw[pow_named] at h;simp[Array.getElem?_eq_none (show w.heap.size<=0 by omega)] at h
 exact h0
theorem Glob.below{w w':World}(h:Glob w)(hb:Below w.heap.size w w'):Glob w':=h.heap (hb.block 0 h.lt)
theorem Glob.belowB{w w':World}{B:Nat}(h:Glob w)(hB:0<B)(hb:Below B w w'):Glob w':=h.heap (hb.block 0 hB)
theorem bld_below{B b:Nat}{p:Value}{bs:List Value}{w w':World}(h:Lib.BuilderAt 144 5 B b p bs w)(hb:Below w.heap.size w w'):Lib.BuilderAt 144 5 B b p bs w':=by obtain⟨h1,v,h2,h3,h4⟩:=h;exact⟨h1,v,blk_below hb h2,own_tk (T:=[]) h3 (Tk.below hb) (by simp),h4⟩
theorem isb_below{B b:Nat}{bs:List Value}{w w':World}(h:Lib.IsBuilder 144 5 B b bs w)(hb:Below w.heap.size w w'):Lib.IsBuilder 144 5 B b bs w':=h.imp (fun h=>bld_below h hb) (fun h=>bld_below h hb)
theorem put_any(B b:Nat)(l:List UInt8)(z:Int)(w:World)(h:Lib.IsBuilder 144 5 B b (Lib.byteCells l) w)(hz:I32 z)(hl:l.length<=1000000)(hBw:B<=w.heap.size)(hG:Glob w):
  Calls Tryz.prog 91 #[.int .i64 z,.pointer (some ⟨b,0,none⟩)] w fun e w'=>e=.returned (.tuple #[])/\Lib.IsBuilder 144 5 B b (Lib.byteCells (l++(Lib.itoa z++[32]))) w'/\Below B w w'/\Tk [144,5] w w':=by
 unfold I32 at hz;have HI:=Jh (Tryz.strconv_Itoa z (by omega) (by omega) w hG);have hil:=Lib.itoa_length_le z (by omega) (by omega);have h63:¬9223372036854775807<(Lib.itoa z).length+1:=by omega
 have HH:=Jh h;have HBw:=Jh hBw;clear h hBw;go_enter Tryz.func91,Tryz.ntmps91;go_wp2_with fail;refine HI.o.mono ?_;rintro e w2 ⟨rfl,k,os,rfl⟩;have HB2:=Jh (below_grow w k os);obtain⟨W2,hW2⟩:=exE (grow (w.drewN k) os);rw[<-hW2] at HB2⊢;clear hW2;have HW:=Jh (writeString B b (Lib.byteCells l) (⟨(Lib.itoa z).toArray⟩++⟨#[32]⟩) W2 (isb_below HH.o HB2.o) (by
  rw[Lib.byteCells_length];have:((⟨(Lib.itoa z).toArray⟩:ByteArray)++⟨#[32]⟩).size=(Lib.itoa z).length+1:=by rw[ByteArray.size_append];rfl
  omega) (Nat.le_trans HBw.o HB2.o.size))
 have hdat:Lib.strCells ((⟨(Lib.itoa z).toArray⟩:ByteArray)++⟨#[32]⟩)=Lib.byteCells (Lib.itoa z++[32]):=by rw[Lib.strCells_eq];congr 1
 rw[hdat,<-Lib.byteCells_append] at HW;clear hdat;go_wp2_with fail;refine HW.o.mono ?_;rintro e w3 ⟨rfl,hb,hbb,htk⟩;have HB3:=Jh (And.intro hb (And.intro hbb htk));clear hb hbb htk;go_wp2_with fail;go_end0;exact⟨rfl,.inr HB3.o.1,(HB2.o.mono HBw.o).trans HB3.o.2.1,tk_trans (Tk.below HB2.o) HB3.o.2.2⟩
end Go.Proofs.YtnigadeohmlpiaaGreatDoor
