/- Contracts and words: a number repeated, a new memory; A memory in memory, and the contract of a new one. No condition of ours. -/
import Derived.Test.YtnigadeohmlpiaaGreatDoorC02
import Derived.Test.YtnigadeohmlpiaaGreatDoorC03
import Derived.Laws.CopyOwn
import Derived.Deep.CutRange
set_option maxHeartbeats 32000000
set_option maxRecDepth 100000
namespace Go.Proofs.YtnigadeohmlpiaaGreatDoor
open Go.RowKit
theorem make_ints(w:World):(Instr.makeSlice 32 (.int .i64 4) (.int .i64 4)).run Tryz.prog w=.ok (.slice (some ⟨w.heap.size,0,none⟩) 4 4) (w.alloc (.cells #[.int .i64 0,.int .i64 0,.int .i64 0,.int .i64 0] 3)):=by kernel_rfl
theorem int_sz:(Tryz.prog.info? 3).map (·.size)=some 1:=by kernel_rfl
theorem copy4(w:World)(b o n c g p m d:Nat)(x:Array Value)(cs:List Value)(hb:w.heap[b]?=some (.cells x 3))(hn:cs.length=Nat.min m n)(hc:∀j v,cs[j]?=some v->w.cell? ⟨g,p+j,none⟩=some v)(hf:o+cs.length<=x.size)(h1:∀v∈cs,v.oneCell'=true):
  Sem.run Tryz.prog (Builtin.copy_ #[32,32] 3 #[.slice (some ⟨b,o,none⟩) n c,.slice (some ⟨g,p,none⟩) m d]) w=.ok (.int .i64 cs.length) (w.setRow b (x.toList.take o++(cs++x.toList.drop (o+cs.length))).toArray):=
 by
 rw[<-List.append_assoc];exact run_copy_row (P:=Tryz.prog) w 32 32 3 3 b o n c ⟨g,p,none⟩ m d x 3 cs Tryz.underlying32 int_sz hb hn (fun j v hj=>by rw[add_off];exact hc j v hj) hf h1
theorem setRow_at{w:World}{b:Nat}{x y:Array Value}{t:TypeId}(h:w.heap[b]?=some (.cells x t)):(w.setRow b y).heap[b]?=some (.cells y t):=by simp[World.setRow,Array.getElem?_modify,h]
def row4:Nat->Array Value
 |1=>#[.int .i64 (-1),.int .i64 0,.int .i64 0,.int .i64 0]
 |2=>#[.int .i64 (-1),.int .i64 (-1),.int .i64 0,.int .i64 0]
 |_=>#[.int .i64 (-1),.int .i64 (-1),.int .i64 (-1),.int .i64 (-1)]
theorem repeat_any(g:Nat)(w:World)(hg:w.heap[g]?=some (.cells #[.int .i64 (-1)] 3)):
  Calls Tryz.prog 85 #[.slice (some ⟨g,0,none⟩) 1 1,.int .i64 4] w fun en w'=>OwnIs 3 1 w.heap.size 4 [.int .i64 (-1),.int .i64 (-1),.int .i64 (-1),.int .i64 (-1)] en w'/\Below w.heap.size w w':=by
 have hM:∀wx,Calls Tryz.prog 106 #[.int .u64 1,.int .u64 4] wx fun e w'=>e=.returned (.tuple #[.int .u64 0,.int .u64 4])/\wx=w':=fun wx=>(Tryz.bits_Mul 1 4 (by omega) (by omega) wx).mono fun _ _ h=>⟨h.1,h.2.symm⟩;have HM:=Jh hM;clear hM;have hN:=heap_alloc_new w (.cells #[.int .i64 0,.int .i64 0,.int .i64 0,.int .i64 0] 3)
 have hG:=blk_below (bA (o:=.cells #[.int .i64 0,.int .i64 0,.int .i64 0,.int .i64 0] 3) (bR w)) hg;have hB:=bA (o:=.cells #[.int .i64 0,.int .i64 0,.int .i64 0,.int .i64 0] 3) (bR w);have hmk:=make_ints;obtain⟨W0,hW0⟩:=exE (w.alloc (.cells #[.int .i64 0,.int .i64 0,.int .i64 0,.int .i64 0] 3));rw[<-hW0] at hN hG hB;obtain⟨b,hb⟩:=exE (w.heap.size)
 have hc1:=copy4 W0 b 0 4 4 g 0 1 1 _ [.int .i64 (-1)] (hb▸hN) rfl (fun j v hj=>by
  cases j with
  |zero=>rw[cell_of_row W0 _ _ _ _ _ hG];simpa using hj
  |succ j=>simp at hj) (by simp) (by simp[Value.oneCell'])
 have hr1:=setRow_at (y:=row4 1) (hb▸hN);have hb1:=Below.trans hB (show Below w.heap.size W0 (W0.setRow b (row4 1)) from below_setRow (Below.refl _ _) (Nat.le_of_eq hb.symm) _);have HR:=Jh hr1;have HB:=Jh hb1;have HLe:=Jh (Nat.le_of_eq hb.symm)
 have hc1':Sem.run Tryz.prog (Builtin.copy_ #[32,32] 3 #[.slice (some ⟨b,0,none⟩) 4 4,.slice (some ⟨g,0,none⟩) 1 1]) W0=.ok (.int .i64 1) (W0.setRow b (row4 1)):=hc1;clear hc1 hr1 hb1 hN hG hB;rw[hW0,hb] at hc1';have HW:=Jh hW0;have HBb:=Jh hb;clear hW0 hb;go_enter Tryz.func85,Tryz.ntmps85;go_wp2_with fail;refine(HM.o _).mono ?_;rintro e w1 ⟨rfl,rfl⟩;go_wp2_with fail;rw[<-HBb.o];clear hc1' hmk
 obtain⟨W1,hW1⟩:=exE ((w.alloc (.cells #[.int .i64 0,.int .i64 0,.int .i64 0,.int .i64 0] 3)).setRow b (row4 1));rw[HW.o,<-hW1] at HR HB;rw[<-hW1];clear hW1;go_loopw [8] (fun v wr=>∃k:Nat,(k=1\/k=2\/k=4)/\v=.int .i64 k/\wr.heap[b]?=some (.cells (row4 k) 3)/\Below w.heap.size w wr) (fun v _=>4-(intOf v).toNat);case atStart=>exact⟨1,by omega,rfl,HR.o,HB.o⟩
 case round=>
  obtain⟨k,hk,rfl,hrow,hbw⟩:=hrel;have HBW:=Jh hbw;clear hbw;rcases hk with rfl|rfl|rfl
  ·have hcp:=copy4 wr.drew b 1 3 3 b 0 1 4 _ [.int .i64 (-1)] hrow rfl (fun j v hj=>by
    cases j with
    |zero=>rw[cell_of_row wr.drew _ _ _ _ _ hrow];simpa[row4] using hj
    |succ j=>simp at hj) (by simp[row4]) (by simp[Value.oneCell'])
   have hcp':Sem.run Tryz.prog (Builtin.copy_ #[32,32] 3 #[.slice (some ⟨b,1,none⟩) 3 3,.slice (some ⟨b,0,none⟩) 1 4]) wr.drew=.ok (.int .i64 1) (wr.drew.setRow b (row4 2)):=hcp;have HR2:=Jh (setRow_at (y:=row4 2) (show wr.drew.heap[b]?=_ from hrow));have HB2:=Jh (below_setRow (bD HBW.o) HLe.o (row4 2));clear hcp hrow;go_wp2_with fail;go_region_held3 (fun _=>True) (trivial) (fail);clear hcp'
   go_wp2_with fail;go_roundw;case rel=>exact⟨2,by omega,rfl,HR2.o,HB2.o⟩
   case measure=>decide
  ·have hcp:=copy4 wr.drew b 2 2 2 b 0 2 4 _ [.int .i64 (-1),.int .i64 (-1)] hrow rfl (fun j v hj=>by
    cases j with
    |zero=>rw[cell_of_row wr.drew _ _ _ _ _ hrow];simpa[row4] using hj
    |succ j=>
     cases j with
     |zero=>rw[cell_of_row wr.drew _ _ _ _ _ hrow];simpa[row4] using hj
     |succ j=>simp at hj) (by simp[row4]) (by simp[Value.oneCell'])
   have hcp':Sem.run Tryz.prog (Builtin.copy_ #[32,32] 3 #[.slice (some ⟨b,2,none⟩) 2 2,.slice (some ⟨b,0,none⟩) 2 4]) wr.drew=.ok (.int .i64 2) (wr.drew.setRow b (row4 4)):=hcp;have HR2:=Jh (setRow_at (y:=row4 4) (show wr.drew.heap[b]?=_ from hrow));have HB2:=Jh (below_setRow (bD HBW.o) HLe.o (row4 4));clear hcp hrow;go_wp2_with fail;go_region_held3 (fun _=>True) (trivial) (fail);clear hcp'
   go_wp2_with fail;go_roundw;case rel=>exact⟨4,by omega,rfl,HR2.o,HB2.o⟩
   case measure=>decide
  have HRow:=Jh hrow;clear hrow;go_wp2_with fail;go_ret;exact⟨ownIs ⟨rfl,.inr ⟨b,4,row4 4,rfl,HLe.o,HRow.o,Nat.le_refl _,by decide,rfl,rfl⟩⟩,HBW.o⟩
end Go.Proofs.YtnigadeohmlpiaaGreatDoor
namespace Go.Proofs.YtnigadeohmlpiaaGreatDoor
open Go.RowKit
def ints(l:List Int):List Value:=l.map (Value.int .i64)
def entCells(l:List (Int×Int)):List Value:=l.flatMap fun x=>[.int .i64 x.1,.int .i64 x.2]
structure IsMem(w:World)(v1 v2 v3:Value)(M:Mm):Prop where
 ok:M.Ok
 ws:∃A c,v1=.slice A 4 c/\Row w 3 1 A 4 (ints M.words)
 ps:∃A c pv,v2=.slice A 4 c/\Row w 87 1 A 4 pv/\∀(k:Nat) p,M.pend[k]?=some p->∃A' c',pv[k]?=some (.slice A' p.length c')/\p.length<=c'/\Row w 128 2 A' p.length (entCells p)
 rs:∃A c,v3=.slice A 4 c/\Row w 3 1 A 4 [.int .i64 (-1),.int .i64 (-1),.int .i64 (-1),.int .i64 (-1)]
theorem IsMem.sees{w w':World}{v1 v2 v3:Value}{M:Mm}(h:IsMem w v1 v2 v3 M)(hs:Sees w w'):IsMem w' v1 v2 v3 M:=by
 obtain⟨A1,c1,e1,r1⟩:=h.ws;obtain⟨A2,c2,pv,e2,r2,hp⟩:=h.ps;obtain⟨A3,c3,e3,r3⟩:=h.rs;refine⟨h.ok,⟨A1,c1,e1,r1.sees hs (by decide) (by decide) (by decide)⟩,⟨A2,c2,pv,e2,r2.sees hs (by decide) (by decide) (by decide),fun k p hk=>?_⟩,⟨A3,c3,e3,r3.sees hs (by decide) (by decide) (by decide)⟩⟩;obtain⟨A',c',h1,h2,h3⟩:=hp k p hk;exact⟨A',c',h1,h2,h3.sees hs (by decide) (by decide) (by decide)⟩
theorem results_cell1{fn:Func}{p:Tmp}{ty:TypeId}(h:fn.results=#[.cell p ty])(tmps:Array Value)(P:Program)(w:World):
  (results fn tmps).run P w=((asAddr (tmps.getD p undef)).run P w).andThen fun a w₁=>(loadVar ty a).run P w₁:=by
 simp only[results,h];simp[Sem.run_bind,Result.andThen]
theorem ret59{fn:Func}{p u:Tmp}{tmps:Array Value}{w:World}{b:Nat}{x y z:Value}(hfn:fn.results=#[.cell p 59,.tmp u])(hp:tmps.getD p undef=.pointer (some ⟨b,0,none⟩))
  (h:w.heap[b]?=some (.cells #[x,y,z] 59)):(results fn tmps).run Tryz.prog w=.ok (.tuple #[.agg #[x,y,z],tmps.getD u undef]) w:=by
 rw[results_cell_tmp hfn,hp];obtain⟨h0,h1,h2,_⟩:=cells3 h;simp[go_sem,h0,h1,h2]
theorem make_pend(w:World):(Instr.makeSlice 57 (.int .i64 4) (.int .i64 4)).run Tryz.prog w=.ok (.slice (some ⟨w.heap.size,0,none⟩) 4 4) (w.alloc (.cells #[.slice none 0 0,.slice none 0 0,.slice none 0 0,.slice none 0 0] 87)):=by kernel_rfl
theorem own_low{w:World}{base base':Nat}{e:TypeId}{size n:Nat}{v:Value}{xs:List Value}(h:w.ownsRow base e size v n xs)(hb:base'<=base):w.ownsRow base' e size v n xs:=by
 refine⟨h.1,?_⟩;rcases h.2 with h4|⟨g,cap,cur,e1,e2,e3⟩
 ·exact .inl h4
 exact .inr ⟨g,cap,cur,e1,Nat.le_trans hb e2,e3⟩
theorem RowAt.row{b:Nat}{e:TypeId}{cs:Array Value}{v:Value}{w:World}{n:Nat}(h:RowAt b e cs v w)(hn:cs.size=n):∃A c,v=.slice A n c/\Row w e 1 A n cs.toList:=by obtain⟨g,rfl,_,hg⟩:=h;subst hn;exact⟨_,_,rfl,by simp,fun _=>⟨g,0,cs,(0,0),rfl,hg,fun j u hu=>by simpa using hu⟩⟩
theorem zero_mem{w:World}{b:Nat}{v1 v2 v3:Value}(h1:RowAt b 3 #[.int .i64 0,.int .i64 0,.int .i64 0,.int .i64 0] v1 w)
  (h2:RowAt b 87 #[.slice none 0 0,.slice none 0 0,.slice none 0 0,.slice none 0 0] v2 w) (h3:OwnAt b 3 1 4 [.int .i64 (-1),.int .i64 (-1),.int .i64 (-1),.int .i64 (-1)] v3 w):IsMem w v1 v2 v3 Mm.zero:=by
 obtain⟨A1,c1,e1,r1⟩:=h1.row (n:=4) rfl;obtain⟨A2,c2,e2,r2⟩:=h2.row (n:=4) rfl;obtain⟨A3,c3,e3,_,r3⟩:=h3;refine⟨Mm.zero_ok,⟨A1,c1,e1,r1⟩,⟨A2,c2,_,e2,r2,fun k p hk=>?_⟩,⟨A3,c3,e3,Row.of_own r3⟩⟩;rcases k with _|_|_|_|k
 all_goals simp[Mm.zero] at hk
 all_goals
  subst hk;exact⟨none,0,rfl,Nat.le_refl _,Row.nil_ _ _ _ _⟩
theorem new_any(w:World):Calls Tryz.prog 53 #[.int .i64 4,.int .i64 4] w fun e w'=>(∃v1 v2 v3,e=.returned (.tuple #[.agg #[v1,v2,v3],.int .i64 0])/\IsMem w' v1 v2 v3 Mm.zero)/\Below w.heap.size w w':=by
 obtain⟨b,hb⟩:=exE (w.heap.size);have hbx:=heap_alloc_new w (.cells #[.slice none 0 0,.slice none 0 0,.slice none 0 0] 59);rw[<-hb] at hbx;obtain⟨W0,hW0⟩:=exE (w.alloc (.cells #[.slice none 0 0,.slice none 0 0,.slice none 0 0] 59));rw[<-hW0] at hbx;have HBX:=Jh hbx;have HB0:=Jh (show Below w.heap.size w W0 from hW0▸bA (bR w));have HLe:=Jh (Nat.le_of_eq hb.symm);clear hbx
 go_enter Tryz.func53,Tryz.ntmps53;go_wp2_with fail;rw[<-hb,<-hW0];clear hb hW0;have hq:∀(k:Nat) (l:Nat->Bool) (wx:World),(Below w.heap.size w wx/\∃x y z,wx.heap[b]?=some (.cells #[x,y,z] 59))->(Below w.heap.size w wx/\∃x y z,wx.heap[b]?=some (.cells #[x,y,z] 59)):=fun _ _ _ h=>h;have rr:∀{p:Prop} (wx:World),KB p b wx wx:=fun wx=>KB.refl _ _ wx
 have rb:∀{p:Prop} {w1 w2:World},Below w1.heap.size w1 w2->KB p b w1 w2:=fun h=>KB.of_below h;have lt2:∀{wx:World},(∃x y z,wx.heap[b]?=some (.cells #[x,y,z] 59))->b<wx.heap.size:=fun⟨_,_,_,h⟩=>blk_lt h;have ss:∀{w1 w2:World},Below w1.heap.size w1 w2->(∃x y z,w1.heap[b]?=some (.cells #[x,y,z] 59))->∃x y z,w2.heap[b]?=some (.cells #[x,y,z] 59):=fun h ⟨x,y,z,hx⟩=>⟨x,y,z,blk_below h hx⟩
 refine wp_region_det (by kernel_rfl) (fun f=>(⟨#[.int .i64 4,.int .i64 4,undef,undef,Value.pointer (some ⟨b,0,none⟩),f 9,.int .i64 4,Value.bool false,Value.bool false,.int .i64 4,Value.bool false,Value.bool false,Value.bool false,.int .i64 4,Value.bool false,Value.bool false,Value.bool false,.int .i64 4,Value.bool false,Value.bool false,undef,f 0,f 1,f 2,f 3,f 4,f 5,f 6,f 7],[]⟩:Act)) (fun(i:Nat) (lv:Nat->Bool) (fv:Nat->Value) (wx:World)=>match i with|0=>fv 0=.int .i64 4|1=>RowAt b 3 #[.int .i64 0,.int .i64 0,.int .i64 0,.int .i64 0] (fv 1) wx|2=>fv 2=.int .i64 4|3=>RowAt b 87 #[.slice none 0 0,.slice none 0 0,.slice none 0 0,.slice none 0 0] (fv 3) wx|4=>RowAt b 3 #[.int .i64 (-1)] (fv 4) wx|5=>fv 5=.int .i64 4|6=>OwnAt b 3 1 4 [.int .i64 (-1),.int .i64 (-1),.int .i64 (-1),.int .i64 (-1)] (fv 6) wx|7=>∃v1 v2 v3,(fv 7)=.agg #[v1,v2,v3]/\RowAt b 3 #[.int .i64 0,.int .i64 0,.int .i64 0,.int .i64 0] v1 wx/\RowAt b 87 #[.slice none 0 0,.slice none 0 0,.slice none 0 0,.slice none 0 0] v2 wx/\OwnAt b 3 1 4 [.int .i64 (-1),.int .i64 (-1),.int .i64 (-1),.int .i64 (-1)] v3 wx|8=>∃v1 v2 v3,wx.heap[b]?=some (.cells #[v1,v2,v3] 59)/\RowAt b 3 #[.int .i64 0,.int .i64 0,.int .i64 0,.int .i64 0] v1 wx/\RowAt b 87 #[.slice none 0 0,.slice none 0 0,.slice none 0 0,.slice none 0 0] v2 wx/\OwnAt b 3 1 4 [.int .i64 (-1),.int .i64 (-1),.int .i64 (-1),.int .i64 (-1)] v3 wx|9=>fv 9=.int .i64 0|_=>True) (fun _ wx=>Below w.heap.size w wx/\∃x y z,wx.heap[b]?=some (.cells #[x,y,z] 59)) (fun i w1 w2=>KB (i=8) b w1 w2) (by kernel_rfl) (fun k=>match k with|9=>.int .i64 0|_=>undef) rfl ?keep ⟨bD HB0.o,_,_,_,HBX.o⟩ ?steps ?fin
 case keep=>
  intro i j hij hd l f f' w1 w2 hf hR
  match j with
  |0|2|5|9=>exact fun h=>(hf _ (Ne.symm hij)).trans h
  |1=>intro h;have h:RowAt b 3 #[.int .i64 0,.int .i64 0,.int .i64 0,.int .i64 0] (f 1) w1:=h;show RowAt b 3 #[.int .i64 0,.int .i64 0,.int .i64 0,.int .i64 0] (f' 1) w2;rw[hf 1 (Ne.symm hij)];exact h.kept hR
  |3=>intro h;have h:RowAt b 87 #[.slice none 0 0,.slice none 0 0,.slice none 0 0,.slice none 0 0] (f 3) w1:=h;show RowAt b 87 #[.slice none 0 0,.slice none 0 0,.slice none 0 0,.slice none 0 0] (f' 3) w2;rw[hf 3 (Ne.symm hij)];exact h.kept hR
  |4=>intro h;have h:RowAt b 3 #[.int .i64 (-1)] (f 4) w1:=h;show RowAt b 3 #[.int .i64 (-1)] (f' 4) w2;rw[hf 4 (Ne.symm hij)];exact h.kept hR
  |6=>intro h;have h:OwnAt b 3 1 4 [.int .i64 (-1),.int .i64 (-1),.int .i64 (-1),.int .i64 (-1)] (f 6) w1:=h;show OwnAt b 3 1 4 [.int .i64 (-1),.int .i64 (-1),.int .i64 (-1),.int .i64 (-1)] (f' 6) w2;rw[hf 6 (Ne.symm hij)];exact h.kept hR
  |7=>
   intro h;have h:∃v1 v2 v3,(f 7)=.agg #[v1,v2,v3]/\RowAt b 3 #[.int .i64 0,.int .i64 0,.int .i64 0,.int .i64 0] v1 w1/\RowAt b 87 #[.slice none 0 0,.slice none 0 0,.slice none 0 0,.slice none 0 0] v2 w1/\OwnAt b 3 1 4 [.int .i64 (-1),.int .i64 (-1),.int .i64 (-1),.int .i64 (-1)] v3 w1:=h
   show∃v1 v2 v3,(f' 7)=.agg #[v1,v2,v3]/\RowAt b 3 #[.int .i64 0,.int .i64 0,.int .i64 0,.int .i64 0] v1 w2/\RowAt b 87 #[.slice none 0 0,.slice none 0 0,.slice none 0 0,.slice none 0 0] v2 w2/\OwnAt b 3 1 4 [.int .i64 (-1),.int .i64 (-1),.int .i64 (-1),.int .i64 (-1)] v3 w2;rw[hf 7 (Ne.symm hij)]
   exact h.elim fun v1 h=>h.elim fun v2 h=>h.elim fun v3 h=>⟨v1,v2,v3,h.1,h.2.1.kept hR,h.2.2.1.kept hR,h.2.2.2.kept hR⟩
  |8=>
   intro h;have h:∃v1 v2 v3,w1.heap[b]?=some (.cells #[v1,v2,v3] 59)/\RowAt b 3 #[.int .i64 0,.int .i64 0,.int .i64 0,.int .i64 0] v1 w1/\RowAt b 87 #[.slice none 0 0,.slice none 0 0,.slice none 0 0,.slice none 0 0] v2 w1/\OwnAt b 3 1 4 [.int .i64 (-1),.int .i64 (-1),.int .i64 (-1),.int .i64 (-1)] v3 w1:=h
   show∃v1 v2 v3,w2.heap[b]?=some (.cells #[v1,v2,v3] 59)/\RowAt b 3 #[.int .i64 0,.int .i64 0,.int .i64 0,.int .i64 0] v1 w2/\RowAt b 87 #[.slice none 0 0,.slice none 0 0,.slice none 0 0,.slice none 0 0] v2 w2/\OwnAt b 3 1 4 [.int .i64 (-1),.int .i64 (-1),.int .i64 (-1),.int .i64 (-1)] v3 w2
   exact h.elim fun v1 h=>h.elim fun v2 h=>h.elim fun v3 h=>⟨v1,v2,v3,hR.at_ h.1 (fun e=>absurd e hij),h.2.1.kept hR,h.2.2.1.kept hR,h.2.2.2.kept hR⟩
  |_+10=>exact id
 case steps=>
  refine fun i hi=>stepsOf_at (k:=0) (n:=10) ?_ i (Nat.zero_le _) (by rw[Nat.zero_add];exact hi);refine sD 0 9 aT0 [] (fun f wq l hl hun hdn hS hd K' HK=>?_) ?_
  ·clear hd;go_simp;exact HK.o _ _ _ rfl rfl (hq 0 l _ hS) (rr _)
  refine sD 1 8 aT1 [0] (fun f wq l hl hun hdn hS hd K' HK=>?_) ?_
  ·obtain⟨e0,-⟩:=hd;have e0:f 0=_:=e0;simp only[e0];have hmk:=make_ints;go_simp;exact HK.o _ _ _ (by simp only[e0];rfl) ⟨_,rfl,lt2 hS.2,heap_alloc_new wq _⟩ ⟨bA hS.1,ss (bA (bR wq)) hS.2⟩ (rb (bA (bR wq)))
  refine sD 2 7 aT2 [] (fun f wq l hl hun hdn hS hd K' HK=>?_) ?_
  ·clear hd;go_simp;exact HK.o _ _ _ rfl rfl (hq 2 l _ hS) (rr _)
  refine sD 3 6 aT3 [2] (fun f wq l hl hun hdn hS hd K' HK=>?_) ?_
  ·obtain⟨e2,-⟩:=hd;have e2:f 2=_:=e2;simp only[e2];have hmk:=make_pend;go_simp;exact HK.o _ _ _ (by simp only[e2];rfl) ⟨_,rfl,lt2 hS.2,heap_alloc_new wq _⟩ ⟨bA hS.1,ss (bA (bR wq)) hS.2⟩ (rb (bA (bR wq)))
  refine sD 4 5 aT4 [] (fun f wq l hl hun hdn hS hd K' HK=>?_) ?_
  ·clear hd;go_simp;exact HK.o _ _ _ rfl ⟨_,rfl,lt2 hS.2,heap_alloc_new wq _⟩ ⟨bA hS.1,ss (bA (bR wq)) hS.2⟩ (rb (bA (bR wq)))
  refine sD 5 4 aT5 [] (fun f wq l hl hun hdn hS hd K' HK=>?_) ?_
  ·clear hd;go_simp;exact HK.o _ _ _ rfl rfl (hq 5 l _ hS) (rr _)
  refine sD 6 3 aT6 [4,5] (fun f wq l hl hun hdn hS hd K' HK=>?_) ?_
  ·obtain⟨e4,e5,-⟩:=hd;have e4:RowAt b 3 #[.int .i64 (-1)] (f 4) wq:=e4;have e5:f 5=_:=e5;obtain⟨g,hv,hbg,hg⟩:=e4;simp only[hv,e5];have HC:=Jh (repeat_any g wq hg);clear hg;go_simp;go_wp2_with (go_at_call 85;refine HC.o.mono ?_;rintro e w1 ⟨⟨A,c,rfl,hown,hc⟩,hb1⟩);exact HK.o _ _ _ (by simp only[hv,e5];rfl) ⟨A,c,rfl,hc,own_low hown (lt2 hS.2)⟩ ⟨bT hS.1 hb1,ss hb1 hS.2⟩ (rb hb1)
  refine sD 7 2 aT7 [1,3,6] (fun f wq l hl hun hdn hS hd K' HK=>?_) ?_
  ·obtain⟨e1,e3,e6,-⟩:=hd;have e1:RowAt b 3 #[.int .i64 0,.int .i64 0,.int .i64 0,.int .i64 0] (f 1) wq:=e1;have e3:RowAt b 87 #[.slice none 0 0,.slice none 0 0,.slice none 0 0,.slice none 0 0] (f 3) wq:=e3;have e6:OwnAt b 3 1 4 [.int .i64 (-1),.int .i64 (-1),.int .i64 (-1),.int .i64 (-1)] (f 6) wq:=e6;obtain⟨g1,h1⟩:=e1;obtain⟨g2,h2⟩:=e3;obtain⟨A,c,h3⟩:=e6;simp only[h1.1,h2.1,h3.1];go_simp
   exact HK.o _ _ _ (by simp only[h1.1,h2.1,h3.1];rfl) ⟨_,_,_,rfl,⟨g1,rfl,h1.2⟩,⟨g2,rfl,h2.2⟩,⟨A,c,rfl,h3.2⟩⟩ (hq 7 l _ hS) (rr _)
  refine sD 8 1 aT8 [7] (fun f wq l hl hun hdn hS hd K' HK=>?_) ?_
  ·obtain⟨e7,-⟩:=hd;have e7:∃v1 v2 v3,(f 7)=.agg #[v1,v2,v3]/\RowAt b 3 #[.int .i64 0,.int .i64 0,.int .i64 0,.int .i64 0] v1 wq/\RowAt b 87 #[.slice none 0 0,.slice none 0 0,.slice none 0 0,.slice none 0 0] v2 wq/\OwnAt b 3 1 4 [.int .i64 (-1),.int .i64 (-1),.int .i64 (-1),.int .i64 (-1)] v3 wq:=e7;obtain⟨v1,v2,v3,h7,m1,m2,m3⟩:=e7;obtain⟨x,y,z,hx⟩:=hS.2;obtain⟨r0,r1,r2,r3,r4,r5⟩:=cells3 hx
   obtain⟨g1,rfl,hg1⟩:=m1;obtain⟨g2,rfl,hg2⟩:=m2;obtain⟨A,c,rfl,hg3⟩:=m3;have HX:=Jh hx;have H1:=Jh hg1;have H2:=Jh hg2;have H3:=Jh hg3;have HS:=Jh hS;clear hx hg1 hg2 hg3 hS;simp only[h7];go_simp;have hk:=KB.set3 (p:=8=8) HX.o
   exact HK.o undef _ _ (by simp only[h7];rfl) ⟨_,_,_,set3 HX.o,RowAt.kept ⟨g1,rfl,H1.o⟩ (hk rfl _ _ _),RowAt.kept ⟨g2,rfl,H2.o⟩ (hk rfl _ _ _),OwnAt.kept ⟨A,c,rfl,H3.o⟩ (hk rfl _ _ _)⟩ ⟨bS (bS (bS HS.o.1 HLe.o) HLe.o) HLe.o,_,_,_,set3 HX.o⟩ (hk rfl _ _ _)
  refine sD 9 0 aT9 [] (fun f wq l hl hun hdn hS hd K' HK=>?_) ?_
  ·clear hd;go_simp;exact HK.o _ _ _ rfl rfl (hq 9 l _ hS) (rr _)
  exact trivial
 case fin=>
  intro f wz l hl hall hS;have a8:∃v1 v2 v3,wz.heap[b]?=some (.cells #[v1,v2,v3] 59)/\RowAt b 3 #[.int .i64 0,.int .i64 0,.int .i64 0,.int .i64 0] v1 wz/\RowAt b 87 #[.slice none 0 0,.slice none 0 0,.slice none 0 0,.slice none 0 0] v2 wz/\OwnAt b 3 1 4 [.int .i64 (-1),.int .i64 (-1),.int .i64 (-1),.int .i64 (-1)] v3 wz:=hall 8 (by decide);have a9:f 9=_:=hall 9 (by decide);clear hall;simp only[a9]
  obtain⟨v1,v2,v3,h8,m1,m2,m3⟩:=a8;have HM:=Jh (show IsMem wz v1 v2 v3 Mm.zero from zero_mem m1 m2 m3);clear a9 m1 m2 m3;go_wp2_with fail;exact bodyPost_ret (ret59 rfl rfl h8) rfl ⟨⟨v1,v2,v3,rfl,HM.o⟩,hS.1⟩
end Go.Proofs.YtnigadeohmlpiaaGreatDoor
