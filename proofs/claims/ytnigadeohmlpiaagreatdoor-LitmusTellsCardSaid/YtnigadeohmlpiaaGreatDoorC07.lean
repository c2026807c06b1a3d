/- Contracts and words: an entry is struck from a row; a number goes to memory; a pending store goes to memory. No condition of ours. -/
import Derived.Test.YtnigadeohmlpiaaGreatDoorC06
set_option maxHeartbeats 32000000
set_option maxRecDepth 100000
namespace Go.Proofs.YtnigadeohmlpiaaGreatDoor
open Go.RowKit
theorem clear1(w:World)(g o c:Nat)(ty:TypeId)(cur:Array Value)(hg:w.heap[g]?=some (.cells cur 128))(hf:o+2<=cur.size):
  Sem.run Tryz.prog (Builtin.clear_ #[87] ty #[.slice (some ⟨g,o,none⟩) 1 c]) w=.ok (.tuple #[]) (w.setRow g (cur.toList.take o++[Value.int .i64 0,Value.int .i64 0]++cur.toList.drop (o+2)).toArray):=by
 have hst:=run_storeCells_at Tryz.prog g o 128 [.int .i64 0,.int .i64 0] 0 cur w hg (by simpa using hf) (by simp[Value.oneCell']);have hz:(Builtin.zeroCells (Value.agg #[.int .i64 0,.int .i64 0]).cells 1).toList=[.int .i64 0,.int .i64 0]:=by kernel_rfl
 simp only[Nat.add_zero,List.length_cons,List.length_nil] at hst;simp[Builtin.clear_,run_underlying Tryz.underlying87,hz,hst]
theorem ent_len:∀l:List (Int×Int),(entCells l).length=l.length*2
 |[]=>rfl
 |x::l=>by have:=ent_len l;simp only[entCells,List.flatMap_cons,List.length_append,List.length_cons,List.length_nil] at*;omega
theorem ent_take:∀(l:List (Int×Int)) (k:Nat),(entCells l).take (k*2)=entCells (l.take k)
 |[],k=>by simp[entCells]
 |x::l,0=>by simp[entCells]
 |x::l,k+1=>by have:=ent_take l k;simp only[entCells,List.flatMap_cons,List.take_succ_cons] at*;rw[show(k+1)*2=k*2+1+1 by omega];simp[this]
theorem ent_drop':∀(l:List (Int×Int)) (k:Nat),(entCells l).drop (k*2)=entCells (l.drop k)
 |[],k=>by simp[entCells]
 |x::l,0=>by simp[entCells]
 |x::l,k+1=>by have:=ent_drop' l k;simp only[entCells,List.flatMap_cons,List.drop_succ_cons] at*;rw[show(k+1)*2=k*2+1+1 by omega];simp[this]
theorem ent_drop{cur:Array Value}{p:List (Int×Int)}{n j i:Nat}{u:Value}(hp:cur.toList.take (n*2)=entCells p)(_h:j<=p.length)(hu:(entCells (p.drop j))[i]?=some u):cur[j*2+i]?=some u:=by
 rw[<-ent_drop',List.getElem?_drop,<-hp,List.getElem?_take] at hu;split at hu
 ·simpa using hu
 cases hu
theorem ent_cut{cur:Array Value}{p:List (Int×Int)}{n k m:Nat}(hp:cur.toList.take (n*2)=entCells p)(hn:n=p.length)(hk:k+1<=n):
  (cur.toList.take (k*2)++entCells (p.drop (k+1))++cur.toList.drop (k*2+m*2)).toArray.toList.take ((n-1)*2)=entCells (p.take k++p.drop (k+1)):=by
 have h1:cur.toList.take (k*2)=entCells (p.take k):=by rw[<-ent_take,<-hp,List.take_take,Nat.min_eq_left (by omega)]
 rw[h1,List.toList_toArray,<-entCells_append];rw[List.take_append_of_le_length (by rw[ent_len];simp;omega)];rw[List.take_of_length_le (by rw[ent_len];simp;omega)]
theorem grown_row{w w':World}{g:Nat}{C:Array Value}(h:w.grownBy w' (some g)):w.grownBy (w'.setRow g C) (some g):=
 ⟨h.os,h.tape,h.output,by simpa[World.setRow] using h.size,fun k hk hne=>by rw[setRow_other _ _ _ _ (fun e=>hne (by rw[e]))];exact h.block k hk hne⟩
theorem grown_drew{w w':World}{r:Option Nat}(h:w.grownBy w' r):w.grownBy w'.drew r:=⟨h.os,h.tape,h.output,h.size,h.block⟩
theorem delete_any(g n c k:Nat)(cur:Array Value)(p:List (Int×Int))(w:World)(hg:w.heap[g]?=some (.cells cur 128))(hn:n=p.length)(hk:k<n)(hc:n<=c)(hm:c<=9223372036854775807)(hs:cur.size=c*2)(hp:cur.toList.take (n*2)=entCells p):
  Calls Tryz.prog 132 #[.slice (some ⟨g,0,none⟩) n c,.int .i64 k,.int .i64 ((k:Int)+1)] w fun e w'=>e=.returned (.slice (some ⟨g,0,none⟩) (n-1) c)/\
   ∃cur',w'.heap[g]?=some (.cells cur' 128)/\cur'.size=c*2/\cur'.toList.take ((n-1)*2)=entCells (p.eraseIdx k)/\w.grownBy w' (some g):=by
 obtain⟨j,hj⟩:∃j:Nat,j=k+1:=⟨_,rfl⟩;rw[show(k:Int)+1=(j:Int) by omega];have hjn:j<=n:=by omega
 have hne:((k:Int)==(j:Int))=false:=by rw[beq_eq_false_iff_ne];omega
 have hkj:(k:Int)<=(j:Int):=by omega
 have hkc:(k:Int)<=(c:Int):=by omega
 obtain⟨n1,hn1⟩:∃n1,n=n1+1:=⟨n-1,by omega⟩;have hjn1:k+(n-j)=n1:=by omega
 have hn1n:(n1:Int)<=(n:Int):=by omega
 have hn1c:(n1:Int)<=(c:Int):=by omega
 have h11:n-n1=1:=by omega
 have hcn1:¬c=n1:=by omega
 have HN1:=Jh hn1;have HJ1:=Jh hjn1;have H11:=Jh h11;clear hn1 hjn1 h11;have HG:=Jh hg;have HP:=Jh hp;have HN:=Jh hn;have HS:=Jh hs;have HJ:=Jh hj;clear hg hp hn hs hj;go_enter Tryz.func132,Tryz.ntmps132;go_wp2_with fail;obtain⟨news,hnews⟩:=exE (entCells (p.drop j))
 have hcs:∀i u,news[i]?=some u->w.drew.cell? ⟨g,j*2+i,none⟩=some u:=fun i u hu=>by rw[cell_of_row w.drew g _ _ _ _ HG.o];exact ent_drop HP.o (HN.o▸hjn) (hnews▸hu)
 have hln:news.length=(n-j)*2:=by rw[hnews,ent_len,List.length_drop,<-HN.o]
 obtain⟨m,hm⟩:=exE (n-j);obtain⟨C1,hC1⟩:=exE ((cur.toList.take (k*2)++news++cur.toList.drop (k*2+m*2)).toArray);have hst:=run_storeCells_at Tryz.prog g (k*2) 128 news 0 cur w.drew HG.o (by rw[hln];have:=HS.o;omega) (by rw[hnews];exact ent_one _);rw[Nat.add_zero,hln,<-hm,<-hC1] at hst;have hgc:=setRow_at (y:=C1) (show w.drew.heap[g]?=some (.cells cur 128) from HG.o)
 have hC1s:C1.size=c*2:=by rw[hC1];simp;have:=HS.o;omega
 have hC1t:C1.toList.take ((n-1)*2)=entCells (p.eraseIdx k):=by rw[hC1,hnews,List.eraseIdx_eq_take_drop_succ,HJ.o];exact ent_cut (n:=n) (k:=k) (m:=m) HP.o HN.o (by omega)
 have HGC:=Jh hgc;have HCS:=Jh hC1s;have HCT:=Jh hC1t;have hgr:w.grownBy (w.drew.setRow g C1) (some g):=grown_row (grown_drew (World.grownBy.refl w (some g)));have HGr:=Jh hgr;have HCC:=Jh (show c=j->C1=cur from fun h=>by rw[hC1,List.eq_nil_of_length_eq_zero (show news.length=0 by omega),show m=0 by omega];simp);clear hgr hC1t hC1s hgc hC1;by_cases hcj:c=j
 ·have hC:=HCC.o hcj;subst hC;have hk1:k=n1:=by have:=HJ1.o;omega
  subst hcj;have HGC1:=Jh (show w.drew.heap[g]?=some (.cells C1 128) from HG.o);have hm0:n-c=0:=by omega
  clear hnews hcs hln hm hst;go_region_held3 (fun _=>True) (trivial) (fail);subst hk1;have hcl:=fun ty=>clear1 w.drew g (k*2) (c-k) ty C1 HGC1.o (by have:=HCS.o;have:=HN1.o;omega);rw[<-H11.o] at hcl;obtain⟨C2,hC2⟩:=exE ((C1.toList.take (k*2)++[Value.int .i64 0,Value.int .i64 0]++C1.toList.drop (k*2+2)).toArray);rw[<-hC2] at hcl;have HC2:=Jh hC2;clear hC2;go_wp2_with fail;go_ret;have hn1:=HN1.o
  refine⟨by rw[show n-1=k by omega];rfl,C2,setRow_at HGC1.o,?_,?_,grown_row (grown_drew (World.grownBy.refl w (some g)))⟩
  ·rw[HC2.o];have:=HCS.o;simp;omega
  rw[HC2.o,<-HCT.o,show n-1=k by omega,List.toList_toArray,List.append_assoc,List.take_append_of_le_length (by simp;have:=HCS.o;omega),List.take_take,Nat.min_self]
 have hld:Sem.run Tryz.prog (loadCellsFrom ⟨g,j*2,none⟩ 0 ((n-j)*2) #[]) w.drew=.ok news.toArray w.drew:=by rw[<-hln];exact run_loadCells_list w.drew ⟨g,j*2,none⟩ news (fun i u hu=>by rw[add_off];exact hcs i u hu)
 clear hnews hcs hln hm;go_region_held3 (fun _=>True) (trivial) (fail);rw[HJ1.o];clear hld hst;have hcl:=fun ty=>clear1 (w.drew.setRow g C1) g (n1*2) (c-n1) ty C1 HGC.o (by have:=HCS.o;have:=HN1.o;omega);rw[<-H11.o] at hcl;obtain⟨C2,hC2⟩:=exE ((C1.toList.take (n1*2)++[Value.int .i64 0,Value.int .i64 0]++C1.toList.drop (n1*2+2)).toArray);rw[<-hC2] at hcl;have HC2:=Jh hC2;clear hC2;go_wp2_with fail
 go_ret;have hn1:=HN1.o;refine⟨by rw[show n-1=n1 by omega];rfl,C2,setRow_at HGC.o,?_,?_,grown_row HGr.o⟩
 ·rw[HC2.o];have:=HCS.o;simp;omega
 rw[HC2.o,<-HCT.o,show n-1=n1 by omega,List.toList_toArray,List.append_assoc,List.take_append_of_le_length (by simp;have:=HCS.o;omega),List.take_take,Nat.min_self]
end Go.Proofs.YtnigadeohmlpiaaGreatDoor
namespace Go.Proofs.YtnigadeohmlpiaaGreatDoor
open Go.RowKit
theorem goes_any(bx gW gR dW dR a:Nat)(x2:Value)(cW cR:Array Value)(h n:Int)(w:World)(hb:w.heap[bx]?=some (.cells #[.slice (some ⟨gW,0,none⟩) 4 dW,x2,.slice (some ⟨gR,0,none⟩) 4 dR] 140))
  (hW:w.heap[gW]?=some (.cells cW 3)) (hR:w.heap[gR]?=some (.cells cR 3)) (hne:gR≠gW) (ha:a<4) (hcW:4<=cW.size) (h4:∀i,i<4->cR[i]?=some (.int .i64 (-1))):
  Calls Tryz.prog 131 #[.pointer (some ⟨bx,0,none⟩),.int .i64 h,.int .i64 a,.int .i64 n] w fun e w'=>(∃v,e=.returned v)/\w'=w.setCell ⟨gW,a,none⟩ (.int .i64 n):=by
 have hbW:bx≠gW:=fun e=>by rw[e,hW] at hb;cases hb
 have HW:=Jh hW;have hi4:(a:Int)<4:=by omega
 have r0:=(cell_of_row w gW a _ _ _ hW).trans (Array.getElem?_eq_getElem (by omega));have r1:=not_frozen (i:=a) hW;obtain⟨s0,s1,s2,_⟩:=cells3 hb;have hb':=(set_other (w:=w) (i:=a) (.int .i64 n) hbW).trans hb;have hR':=(set_other (w:=w) (i:=a) (.int .i64 n) hne).trans hR;have HB:=Jh hb';have HR:=Jh hR';have H4:=Jh h4;clear hb hW hR hb' hR' h4;obtain⟨t0,t1,t2,_⟩:=cells3 HB.o
 go_enter Tryz.func131,Tryz.ntmps131;go_wp2_with fail;have hra:((-1:Int)==(a:Int))=false:=by rw[beq_eq_false_iff_ne];omega
 go_loop [24] (fun v=>∃i:Nat,i<=4/\v=.int .i64 i) (fun v=>4-(intOf v).toNat);case atStart=>exact⟨0,by omega,rfl⟩
 case round=>
  obtain⟨i,hi,rfl⟩:=hrel;by_cases hlt:i<4
  ·have r2:=(cell_of_row _ gR i _ _ _ HR.o).trans (H4.o i hlt);have hlb:decide ((i:Int)<4)=true:=by simp;omega
   by_cases hih:(i:Int)=h
   ·have hb1:((i:Int)!=h)=false:=by simp[hih]
    clear hih;go_wp2_with fail;go_round;case rel=>exact⟨i+1,by omega,by go_num⟩
    case measure=>simp[intOf];omega
   have hb1:((i:Int)!=h)=true:=by simpa using hih
   clear hih;go_wp2_with fail;go_round;case rel=>exact⟨i+1,by omega,by go_num⟩
   case measure=>simp[intOf];omega
  have hlb:decide ((i:Int)<4)=false:=by simp;omega
  go_wp2_with fail;go_end0;exact⟨⟨_,rfl⟩,rfl⟩
end Go.Proofs.YtnigadeohmlpiaaGreatDoor
namespace Go.Proofs.YtnigadeohmlpiaaGreatDoor
open Go.RowKit
theorem own_open{w:World}{base:Nat}{e:TypeId}{size n c:Nat}{A:Option Addr}{xs:List Value}(h:w.ownsRow base e size (.slice A n c) n xs)(hn:0<n):
  ∃g cur,A=some ⟨g,0,none⟩/\base<=g/\w.heap[g]?=some (.cells cur e)/\cur.size=c*size/\cur.toList.take (n*size)=xs/\n<=c/\c<=maxLen:=by
 rcases h.2 with⟨_,h0⟩|⟨g,cap,cur,hv,hb,hg,h1,h2,h3,h4⟩
 ·omega
 injection hv with e1 _ e3
 subst e1;subst e3;exact⟨g,cur,rfl,hb,hg,h3,h4,h1,h2⟩
theorem own_set{w:World}{base:Nat}{e:TypeId}{n c g i:Nat}{xs:List Value}{v:Value}(h:w.ownsRow base e 1 (.slice (some ⟨g,0,none⟩) n c) n xs)(hi:i<n):(w.setCell ⟨g,i,none⟩ v).ownsRow base e 1 (.slice (some ⟨g,0,none⟩) n c) n (xs.set i v):=by
 obtain⟨g',cur,e1,hb,hg,h3,h4,h1,h2⟩:=own_open h (by omega);injection e1 with e1
 injection e1 with e1
 subst e1;refine⟨by rw[List.length_set];exact h.1,.inr ⟨g,c,_,rfl,hb,set_same hg v,h1,h2,by simpa using h3,?_⟩⟩;rw[Array.toList_setIfInBounds,<-h4,List.take_set]
theorem ent_at:∀(l:List (Int×Int)) (k:Nat) (x:Int×Int),l[k]?=some x->(entCells l)[k*2]?=some (.int .i64 x.1)/\(entCells l)[k*2+1]?=some (.int .i64 x.2)
 |[],k,x,h=>by simp at h
 |y::l,0,x,h=>by simp at h;subst h;simp[entCells]
 |y::l,k+1,x,h=>by have:=ent_at l k x (by simpa using h);simp only[entCells,List.flatMap_cons] at*;rw[show(k+1)*2=k*2+1+1 by omega];simpa using this
theorem ints_set(l:List Int)(i:Nat)(z:Int):(ints l).set i (.int .i64 z)=ints (l.set i z):=by simp[ints]
structure DMid(B:Nat)(w:World)(x1 x3:Value)(pv:List Value)(W:List Int)(P:List (List (Int×Int)))(h:Nat)(v:Value)(q:List (Int×Int)):Prop where
 ws:OwnAt B 3 1 4 (ints W) x1 w
 rs:OwnAt B 3 1 4 [.int .i64 (-1),.int .i64 (-1),.int .i64 (-1),.int .i64 (-1)] x3 w
 en:∀(k:Nat) q',k≠h->P[k]?=some q'->∃u,pv[k]?=some u/\OwnAt B 128 2 q'.length (entCells q') u w
 nw:OwnAt B 128 2 q.length (entCells q) v w
theorem DMid.tk{B:Nat}{w w':World}{x1 x3:Value}{pv:List Value}{W:List Int}{P:List (List (Int×Int))}{h:Nat}{v:Value}{q:List (Int×Int)}(hm:DMid B w x1 x3 pv W P h v q){T:List TypeId}(hk:Tk T w w')(h1:3∉T)(h2:128∉T):DMid B w' x1 x3 pv W P h v q:=
 ⟨hm.ws.tk hk h1,hm.rs.tk hk h1,fun k q hkh hq=>(hm.en k q hkh hq).elim fun u hu=>⟨u,hu.1,hu.2.tk hk h2⟩,hm.nw.tk hk h2⟩
theorem DMid.fin{B:Nat}{w:World}{x1 x3:Value}{pv:List Value}{W:List Int}{P:List (List (Int×Int))}{h:Nat}{v:Value}{q:List (Int×Int)}{cP gP:Nat}{cur:Array Value}(hm:DMid B w x1 x3 pv W P h v q)(hok:(⟨W,P.set h q⟩:Mm).Ok)(hP:P.length=4)(hh:h<4)
  (hcur:cur.toList.take 4=pv/\4<=cur.size) (hg:w.heap[gP]?=some (.cells cur 87)):IsMem (w.setCell ⟨gP,h,none⟩ v) x1 (.slice (some ⟨gP,0,none⟩) 4 cP) x3 ⟨W,P.set h q⟩:=by
 have hk:=tk_set1 (i:=h) (x:=v) hg;obtain⟨A1,c1,e1,_,r1⟩:=(hm.ws.tk hk (by decide)).row;obtain⟨A3,c3,e3,_,r3⟩:=(hm.rs.tk hk (by decide)).row;have hl:pv.length=4:=by rw[<-hcur.1,List.length_take];have:=hcur.2;simp;omega
 refine⟨hok,⟨A1,c1,e1,r1⟩,⟨_,cP,pv.set h v,rfl,?_,fun k q' hq=>?_⟩,⟨A3,c3,e3,r3⟩⟩
 ·refine⟨by simp[hl],fun _=>⟨gP,0,_,(0,0),rfl,set_same hg v,fun j u hu=>?_⟩⟩;rw[Nat.zero_add];have hj:j<4:=by have:=(List.getElem?_eq_some_iff.1 hu).1;simpa[hl] using this
  rw[List.getElem?_set] at hu;rw[Array.getElem?_setIfInBounds];split
  ·rename_i e;subst e;rw[if_pos rfl,if_pos (by omega)] at hu;rw[if_pos (by have:=hcur.2;omega)];exact hu
  rename_i e;rw[if_neg e] at hu;rw[<-hcur.1,List.getElem?_take,if_pos hj] at hu;simpa using hu
 by_cases e:k=h
 ·subst e;have hq':q'=q:=by have:(P.set k q)[k]?=some q':=hq;rw[List.getElem?_set,if_pos rfl,if_pos (by omega)] at this;exact(Option.some.inj this).symm
  subst hq';obtain⟨A,c,e4,hc,r⟩:=(hm.nw.tk hk (by decide)).row;exact⟨A,c,by rw[List.getElem?_set,if_pos rfl,if_pos (by omega),e4],hc,r⟩
 have hq':P[k]?=some q':=by have:(P.set h q)[k]?=some q':=hq;rwa[List.getElem?_set,if_neg (fun e'=>e e'.symm)] at this
 obtain⟨u,hu,ho⟩:=hm.en k q' e hq';obtain⟨A,c,rfl,hc,r⟩:=(ho.tk hk (by decide)).row;exact⟨A,c,by rw[List.getElem?_set,if_neg (fun e'=>e e'.symm)];exact hu,hc,r⟩
theorem OwnMem.goes{B a:Nat}{w w1:World}{gW dW:Nat}{x2 x3:Value}{pv:List Value}{M:Mm}{z:Int}(hm:OwnMem B w (.slice (some ⟨gW,0,none⟩) 4 dW) x2 x3 pv M)(hb:Below w.heap.size w w1)(ha:a<4)(hz:I32 z)(hne:x3.ownBlock≠some gW):
  OwnMem B (w1.setCell ⟨gW,a,none⟩ (.int .i64 z)) (.slice (some ⟨gW,0,none⟩) 4 dW) x2 x3 pv ⟨M.words.set a z,M.pend⟩:=by
 have h0:Tk [] w w1:=Tk.below hb;have h1:=hm.tk h0;obtain⟨AW,dW',e,hd,oW⟩:=h1.ws;injection e with e1 _ e3
 subst e1;subst e3;obtain⟨gW',cW,e1,_,hg,_⟩:=own_open oW (by decide);injection e1 with e1
 injection e1 with e1
 subst e1;have hk:=tk_set1 (i:=a) (x:=.int .i64 z) hg;refine⟨⟨by simpa using hm.ok.lw,hm.ok.lp,fun y hy=>?_,hm.ok.few,hm.ok.ent⟩,⟨_,_,rfl,hd,?_⟩,h1.ps.tk hk (by decide),?_,h1.ne,fun k p hp=>(h1.en k p hp).elim fun v hv=>⟨v,hv.1,hv.2.tk hk (by decide)⟩,h1.dj⟩
 ·rcases List.mem_or_eq_of_mem_set hy with h|h
  ·exact hm.ok.nw y h
  rw[h];exact hz
 ·rw[<-ints_set];exact own_set oW ha
 obtain⟨A,c,e,hc,o⟩:=h1.rs;refine⟨A,c,e,hc,own_block o (row:=some gW) ⟨rfl,rfl,rfl,by simp[World.setCell],fun k _ hne=>set_other _ (fun e=>hne (by rw[e]))⟩ (fun g hg' e'=>hne ?_)⟩;rw[e,hg'];exact e'.symm
theorem tk_one{w w':World}{g:Nat}{C:Array Value}{t:TypeId}(h:w.heap[g]?=some (.cells C t))(hg:w.grownBy w' (some g)):Tk [t] w w':=
 ⟨hg.size,fun k cur e fz he hk=>(hg.block k (blk_lt hk) (fun e1=>by
  injection e1 with e1
  subst e1;rw[h] at hk;injection hk with hk
  injection hk with _ h2
  exact he (by simp[h2]))).trans hk⟩
theorem below_one{B g:Nat}{w w':World}(hg:w.grownBy w' (some g))(hb:B+1<=g)(hB:B<=w.heap.size):Below B w w':=
 ⟨hg.os,hg.tape,hg.output,hg.size,fun k hk=>hg.block k (by omega) (fun e=>by injection e with e;omega)⟩
theorem OwnMem.dmid{B:Nat}{w w':World}{x1 x2 x3:Value}{pv:List Value}{M:Mm}{h k n4 c4 gE:Nat}{p:List (Int×Int)}{x:Int×Int}{cD:Array Value}(hm:OwnMem B w x1 x2 x3 pv M)(hv:pv[h]?=some (.slice (some ⟨gE,0,none⟩) n4 c4))(_hp:M.pend[h]?=some p)(hn:n4=p.length)(hx:p[k]?=some x)
  (hc:w'.heap[gE]?=some (.cells cD 128)) (hs:cD.size=c4*2) (ht:cD.toList.take ((n4-1)*2)=entCells (p.eraseIdx k)) (hg:w.grownBy w' (some gE)) (hk:Tk [128] w w') (hc4:n4<=c4) (hm4:c4<=maxLen) (hb:B+1<=gE):
  DMid B w' x1 x3 pv M.words M.pend h (.slice (some ⟨gE,0,none⟩) (n4-1) c4) (p.eraseIdx k):=by
 have hkl:=(List.getElem?_eq_some_iff.1 hx).1;have hl:(p.eraseIdx k).length=n4-1:=by rw[List.length_eraseIdx_of_lt hkl,hn]
 refine⟨hm.ws.tk hk (by decide),hm.rs.tk hk (by decide),fun j q hj hq=>?_,?_⟩
 ·obtain⟨u,hu,A',c',rfl,hc',ho⟩:=hm.en j q hq;exact⟨_,hu,A',c',rfl,hc',own_block ho hg (fun g hg' e=>hm.dj j h g _ _ hj hu hv hg' (by simpa[Value.ownBlock] using e))⟩
 rw[hl];exact⟨_,c4,rfl,by omega,by rw[ent_len,hl],.inr ⟨gE,c4,cD,rfl,hb,hc,by omega,hm4,hs,ht⟩⟩
theorem Mm.cut_ok{M:Mm}(hM:M.Ok){h k a:Nat}{z:Int}{p:List (Int×Int)}(hp:M.pend[h]?=some p)(hz:I32 z):(⟨M.words.set a z,M.pend.set h (p.eraseIdx k)⟩:Mm).Ok:=by
 have hmem:=List.mem_of_getElem? hp;refine⟨by simpa using hM.lw,by simpa using hM.lp,fun y hy=>?_,fun q hq=>?_,fun q hq x hx=>?_⟩
 ·rcases List.mem_or_eq_of_mem_set hy with h|h
  ·exact hM.nw y h
  rw[h];exact hz
 ·rcases List.mem_or_eq_of_mem_set hq with h|h
  ·exact hM.few q h
  rw[h];exact Nat.le_trans (List.length_eraseIdx_le _ _) (hM.few p hmem)
 rcases List.mem_or_eq_of_mem_set hq with h|h
 ·exact hM.ent q h x hx
 rw[h] at hx;exact hM.ent p hmem x (List.mem_of_mem_eraseIdx hx)
theorem drain_any(B bx:Nat)(x1 x2 x3:Value)(pv:List Value)(M:Mm)(ht k:Nat)(p:List (Int×Int))(x:Int×Int)(w:World)(hb:w.heap[bx]?=some (.cells #[x1,x2,x3] 140))(hm:OwnMem B w x1 x2 x3 pv M)(hh:ht<4)(hp:M.pend[ht]?=some p)(hx:p[k]?=some x)(hB:B<=w.heap.size):
  Calls Tryz.prog 110 #[.pointer (some ⟨bx,0,none⟩),.int .i64 ht,.int .i64 k] w fun e w'=>(∃v,e=.returned v)/\w'.heap[bx]?=some (.cells #[x1,x2,x3] 140)/\IsMem w' x1 x2 x3 ⟨M.words.set x.1.toNat x.2,M.pend.set ht (p.eraseIdx k)⟩/\Below B w w':=by
 obtain⟨AW,dW,rfl,hdW,oW⟩:=hm.ws;obtain⟨AP,cP,rfl,hcP,oP⟩:=hm.ps;obtain⟨AR,dR,rfl,hdR,oR⟩:=hm.rs;obtain⟨v4,hv4,AE,c4,rfl,hc4,oE⟩:=hm.en ht p hp;have hkl:k<p.length:=(List.getElem?_eq_some_iff.1 hx).1;obtain⟨gW,cW,rfl,hbW,hgW,hsW,htW,_,_⟩:=own_open oW (by decide);obtain⟨gP,cur,rfl,hbP,hgP,hsP,htP,_,_⟩:=own_open oP (by decide);obtain⟨gR,cR,rfl,hbR,hgR,hsR,htR,_,_⟩:=own_open oR (by decide)
 obtain⟨gE,cE,rfl,hbE,hgE,hsE,htE,_,hmE⟩:=own_open oE (by omega);have hwr:gR≠gW:=fun e=>hm.ne (by simp[Value.ownBlock,e]);obtain⟨n4,hn4⟩:=exE (p.length);rw[<-hn4] at hv4 hc4 oE htE hkl;obtain⟨hx0,hx4,hxn⟩:=hm.ok.ent p (List.mem_of_getElem? hp) x (List.mem_of_getElem? hx);obtain⟨a,haz⟩:∃a:Nat,x.1=(a:Int):=⟨x.1.toNat,by omega⟩;have ha4:a<4:=by omega
 obtain⟨z,hz⟩:=exE (x.2);have he:=ent_at p k x hx;rw[haz,<-hz] at he;have hc0:w.cell? ⟨gE,k*2,none⟩=some (.int .i64 a):=by
  rw[cell_of_row w gE _ _ _ _ hgE];have:=he.1;rw[<-htE,List.getElem?_take] at this;split at this
  ·simpa using this
  cases this
 have hc1:w.cell? ⟨gE,k*2+1,none⟩=some (.int .i64 z):=by
  rw[cell_of_row w gE _ _ _ _ hgE];have:=he.2;rw[<-htE,List.getElem?_take] at this;split at this
  ·simpa using this
  cases this
 have hcp:w.cell? ⟨gP,ht,none⟩=some (.slice (some ⟨gE,0,none⟩) n4 c4):=by rw[cell_of_row w gP _ _ _ _ hgP];have:=hv4;rw[<-htP,List.getElem?_take,if_pos (by omega)] at this;simpa using this
 obtain⟨s0,s1,s2,_⟩:=cells3 hb;have hi4:(ht:Int)<4:=by omega
 have hkn:(k:Int)<(n4:Int):=by omega
 have HM:=Jh hm;have HN4:=Jh hn4;have HX:=Jh hx;have HA:=Jh haz;have HZ:=Jh hz;have HP:=Jh hp;have HBX:=Jh hb;have HGW:=Jh hgW;have HGP:=Jh hgP;have HGR:=Jh hgR;have HGE:=Jh hgE;have HTW:=Jh htW;have HTP:=Jh htP;have HTR:=Jh htR;have HTE:=Jh htE;have HSZ:=Jh (show cW.size=dW/\cur.size=cP/\cR.size=dR/\cE.size=c4*2/\c4<=maxLen from⟨by simpa using hsW,by simpa using hsP,by simpa using hsR,hsE,hmE⟩)
 have HOW:=Jh oW;have HOP:=Jh oP;have HOR:=Jh oR;have HOE:=Jh oE;have HV4:=Jh hv4;have HXN:=Jh hxn;clear hm hn4 hx haz hz hp hb hgW hgP hgR hgE htW htP htR htE hsW hsP hsR hsE hmE oW oP oR oE hv4 he hxn hx0 hx4;go_enter Tryz.func110,Tryz.ntmps110;go_wp2_with fail;have hw1:=bA (o:=.cells #[.int .i64 (a:Int),.int .i64 z] 128) (bR w);have hI:∀i,i<4->cR[i]?=some (Value.int .i64 (-1)):=fun i hi=>by
  have h9:[Value.int .i64 (-1),Value.int .i64 (-1),Value.int .i64 (-1),Value.int .i64 (-1)][i]?=some (Value.int .i64 (-1)):=by rcases(show i=0\/i=1\/i=2\/i=3 by omega) with rfl|rfl|rfl|rfl<;>rfl
  rw[<-HTR.o,List.getElem?_take,if_pos (by omega)] at h9;simpa using h9
 refine(goes_any bx gW gR dW dR a _ cW cR ht z _ (blk_below hw1 HBX.o) (blk_below hw1 HGW.o) (blk_below hw1 HGR.o) hwr ha4 (by have:=HSZ.o.1;omega) hI).mono ?_;rintro e w2 ⟨⟨v,rfl⟩,rfl⟩;have HO1:=Jh (HM.o.goes hw1 ha4 (HZ.o▸HXN.o) (by simp[Value.ownBlock,hwr]));have hbW2:bx≠gW:=fun e=>by have h1:=HBX.o;rw[e,HGW.o] at h1;cases h1
 have hPW:gP≠gW:=fun e=>by have h1:=HGP.o;rw[e,HGW.o] at h1;cases h1
 have hEW:gE≠gW:=fun e=>by have h1:=HGE.o;rw[e,HGW.o] at h1;cases h1
 obtain⟨W2,hW2⟩:=exE ((w.alloc (.cells #[.int .i64 (a:Int),.int .i64 z] 128)).setCell ⟨gW,a,none⟩ (.int .i64 z));rw[<-hW2] at HO1;have HBX2:=Jh (show W2.heap[bx]?=_ from hW2▸(set_other _ hbW2).trans (blk_below hw1 HBX.o));have HGP2:=Jh (show W2.heap[gP]?=_ from hW2▸(set_other _ hPW).trans (blk_below hw1 HGP.o))
 have HGE2:=Jh (show W2.heap[gE]?=_ from hW2▸(set_other _ hEW).trans (blk_below hw1 HGE.o));have HBB:=Jh (show Below B w W2 from hW2▸((hw1.mono hB).setCell (p:=⟨gW,a,none⟩) (Nat.le_of_lt hbW) _));rw[<-hW2];clear hW2 hbW2 hPW hEW hI hw1;go_wp2_with fail
 have HC9:=Jh (show cur[ht]?=some (.slice (some ⟨gE,0,none⟩) n4 c4) by have:=HV4.o;rw[<-HTP.o,List.getElem?_take,if_pos (by omega)] at this;simpa using this);have HCur:=Jh (show cur.toList.take 4=pv/\4<=cur.size from⟨by simpa using HTP.o,by have:=HSZ.o.2.1;omega⟩);have HOK2:=Jh (Mm.cut_ok (k:=k) (a:=a) HM.o.ok HP.o (HZ.o▸HXN.o))
 have hk1:IntKind.i64.wrap ((k:Int)+1)=(k:Int)+1:=IntWalk.i64_in _ (by have:=HM.o.ok.few p (List.mem_of_getElem? HP.o);have:=HN4.o;omega);have HBP:=Jh (show bx≠gP from fun e=>by have h1:=HBX2.o;rw[e,HGP2.o] at h1;cases h1)
 have hS0:=Jh (show Below B w W2.drew/\W2.drew.heap[bx]?=some (.cells #[.slice (some ⟨gW,0,none⟩) 4 dW,.slice (some ⟨gP,0,none⟩) 4 cP,.slice (some ⟨gR,0,none⟩) 4 dR] 140)/\(false=false->OwnMem B W2.drew (.slice (some ⟨gW,0,none⟩) 4 dW) (.slice (some ⟨gP,0,none⟩) 4 cP) (.slice (some ⟨gR,0,none⟩) 4 dR) pv ⟨M.words.set a z,M.pend⟩/\W2.drew.heap[gE]?=some (.cells cE 128))/\(false=false->W2.drew.heap[gP]?=some (.cells cur 87)) from⟨HBB.o.drew,HBX2.o,fun _=>⟨HO1.o.tk ⟨Nat.le_refl _,fun _ _ _ _ _ h=>h⟩,HGE2.o⟩,fun _=>HGP2.o⟩)
 clear HGW HGP HGR HGE HOW HOP HOR HOE HBX HTW HTR HBX2 HGP2 HGE2 HBB HO1 hcp hc0 hc1 s0 s1 s2
 have hq:∀(k9:Nat),k9≠17->k9≠19->∀(l:Nat->Bool) (wx:World),(Below B w wx/\wx.heap[bx]?=some (.cells #[.slice (some ⟨gW,0,none⟩) 4 dW,.slice (some ⟨gP,0,none⟩) 4 cP,.slice (some ⟨gR,0,none⟩) 4 dR] 140)/\(l 17=false->OwnMem B wx (.slice (some ⟨gW,0,none⟩) 4 dW) (.slice (some ⟨gP,0,none⟩) 4 cP) (.slice (some ⟨gR,0,none⟩) 4 dR) pv ⟨M.words.set a z,M.pend⟩/\wx.heap[gE]?=some (.cells cE 128))/\(l 19=false->wx.heap[gP]?=some (.cells cur 87)))->(Below B w wx/\wx.heap[bx]?=some (.cells #[.slice (some ⟨gW,0,none⟩) 4 dW,.slice (some ⟨gP,0,none⟩) 4 cP,.slice (some ⟨gR,0,none⟩) 4 dR] 140)/\((decide (17=k9)||l 17)=false->OwnMem B wx (.slice (some ⟨gW,0,none⟩) 4 dW) (.slice (some ⟨gP,0,none⟩) 4 cP) (.slice (some ⟨gR,0,none⟩) 4 dR) pv ⟨M.words.set a z,M.pend⟩/\wx.heap[gE]?=some (.cells cE 128))/\((decide (19=k9)||l 19)=false->wx.heap[gP]?=some (.cells cur 87))):=fun k9 h1 h2 l wx h=>⟨h.1,h.2.1,fun hl=>h.2.2.1 (by simpa[Ne.symm h1] using hl),fun hl=>h.2.2.2 (by simpa[Ne.symm h2] using hl)⟩
 have rr:∀{T:List TypeId} (wx:World),Tk T wx wx:=fun wx=>Tk.refl _ wx
 refine wp_region_det (by kernel_rfl) (fun f=>(⟨#[Value.pointer (some ⟨bx,0,none⟩),.int .i64 (ht:Int),.int .i64 (k:Int),undef,undef,undef,Value.pointer (some ⟨w.heap.size,0,none⟩),Value.pointer (some ⟨bx,0,none⟩),Value.pointer (some ⟨bx,0,none⟩),Value.pointer (some ⟨bx,0,none⟩),Value.pointer (some ⟨bx,1,none⟩),Value.slice (some ⟨gP,0,none⟩) 4 cP,.int .i64 (ht:Int),Value.pointer (some ⟨gP,ht,none⟩),Value.slice (some ⟨gE,0,none⟩) n4 c4,.int .i64 (k:Int),Value.pointer (some ⟨gE,k*2,none⟩),Value.agg #[.int .i64 (a:Int),.int .i64 z],Value.pointer (some ⟨bx,0,none⟩),.int .i64 (ht:Int),Value.pointer (some ⟨w.heap.size,0,none⟩),.int .i64 (a:Int),Value.pointer (some ⟨w.heap.size,1,none⟩),.int .i64 z,v,f 0,f 1,f 2,f 3,f 4,f 5,f 6,f 7,f 8,f 9,f 10,f 11,f 12,f 13,f 14,f 15,f 16,f 17,f 18],[]⟩:Act)) (fun(i:Nat) (lv:Nat->Bool) (fv:Nat->Value) (wx:World)=>match i with|0=>fv 0=.pointer (some ⟨bx,0,none⟩)|1=>fv 1=.pointer (some ⟨bx,0,none⟩)|2=>fv 2=.pointer (some ⟨bx,0,none⟩)|3=>fv 3=.pointer (some ⟨bx,1,none⟩)|4=>fv 4=.slice (some ⟨gP,0,none⟩) 4 cP|5=>fv 5=.int .i64 (ht:Int)|6=>fv 6=.pointer (some ⟨bx,0,none⟩)|7=>fv 7=.pointer (some ⟨bx,0,none⟩)|8=>fv 8=.pointer (some ⟨bx,0,none⟩)|9=>fv 9=.pointer (some ⟨bx,1,none⟩)|10=>fv 10=.slice (some ⟨gP,0,none⟩) 4 cP|11=>fv 11=.int .i64 (ht:Int)|12=>fv 12=.pointer (some ⟨gP,ht,none⟩)|13=>fv 13=.slice (some ⟨gE,0,none⟩) n4 c4|14=>fv 14=.int .i64 (k:Int)|15=>fv 15=.int .i64 (k:Int)|16=>fv 16=.int .i64 ((k:Int)+1)|17=>(fv 17)=.slice (some ⟨gE,0,none⟩) (n4-1) c4/\((lv 19)=false->DMid B wx (.slice (some ⟨gW,0,none⟩) 4 dW) (.slice (some ⟨gR,0,none⟩) 4 dR) pv (M.words.set a z) M.pend ht (.slice (some ⟨gE,0,none⟩) (n4-1) c4) (p.eraseIdx k))|18=>fv 18=.pointer (some ⟨gP,ht,none⟩)|19=>IsMem wx (.slice (some ⟨gW,0,none⟩) 4 dW) (.slice (some ⟨gP,0,none⟩) 4 cP) (.slice (some ⟨gR,0,none⟩) 4 dR) ⟨M.words.set a z,M.pend.set ht (p.eraseIdx k)⟩|_=>True) (fun lv wx=>Below B w wx/\wx.heap[bx]?=some (.cells #[.slice (some ⟨gW,0,none⟩) 4 dW,.slice (some ⟨gP,0,none⟩) 4 cP,.slice (some ⟨gR,0,none⟩) 4 dR] 140)/\((lv 17)=false->OwnMem B wx (.slice (some ⟨gW,0,none⟩) 4 dW) (.slice (some ⟨gP,0,none⟩) 4 cP) (.slice (some ⟨gR,0,none⟩) 4 dR) pv ⟨M.words.set a z,M.pend⟩/\wx.heap[gE]?=some (.cells cE 128))/\((lv 19)=false->wx.heap[gP]?=some (.cells cur 87))) (fun i w1 w2=>Tk (if i=17 then[128] else if i=19 then[87] else[]) w1 w2) (by kernel_rfl) (fun k=>match k with|_=>undef) rfl ?keep hS0.o ?steps ?fin
 case keep=>
  intro i j hij hd l f f' w1 w2 hf hR
  match j with
  |0|1|2|3|4|5|6|7|8|9|10|11|12|13|14|15|16|18=>exact fun h=>(hf _ (Ne.symm hij)).trans h
  |17=>
   intro h;have h:(f 17)=.slice (some ⟨gE,0,none⟩) (n4-1) c4/\((l 19)=false->DMid B w1 (.slice (some ⟨gW,0,none⟩) 4 dW) (.slice (some ⟨gR,0,none⟩) 4 dR) pv (M.words.set a z) M.pend ht (.slice (some ⟨gE,0,none⟩) (n4-1) c4) (p.eraseIdx k)):=h
   show(f' 17)=.slice (some ⟨gE,0,none⟩) (n4-1) c4/\((decide (19=i)||l 19)=false->DMid B w2 (.slice (some ⟨gW,0,none⟩) 4 dW) (.slice (some ⟨gR,0,none⟩) 4 dR) pv (M.words.set a z) M.pend ht (.slice (some ⟨gE,0,none⟩) (n4-1) c4) (p.eraseIdx k));rw[hf 17 (Ne.symm hij)];exact⟨h.1,fun hl=>by
   simp only[Bool.or_eq_false_iff,decide_eq_false_iff_not] at hl;exact(h.2 hl.2).tk (hR.nil (fun e=>hij e) (fun e=>hl.1 e.symm)) (by simp) (by simp)⟩
  |19=>
   intro h;have h:IsMem w1 (.slice (some ⟨gW,0,none⟩) 4 dW) (.slice (some ⟨gP,0,none⟩) 4 cP) (.slice (some ⟨gR,0,none⟩) 4 dR) ⟨M.words.set a z,M.pend.set ht (p.eraseIdx k)⟩:=h;show IsMem w2 (.slice (some ⟨gW,0,none⟩) 4 dW) (.slice (some ⟨gP,0,none⟩) 4 cP) (.slice (some ⟨gR,0,none⟩) 4 dR) ⟨M.words.set a z,M.pend.set ht (p.eraseIdx k)⟩
   exact h.sees (Tk.sees (hR.nil (fun e=>hd (by subst e;exact of_decide_eq_true (by kernel_rfl))) hij))
  |_+20=>exact id
 case steps=>
  refine fun i hi=>stepsOf_at (k:=0) (n:=20) ?_ i (Nat.zero_le _) (by rw[Nat.zero_add];exact hi);refine sD 0 19 aT0 [] (fun f wq l hl hun hdn hS hd K' HK=>?_) ?_
  ·clear hd;go_simp;exact HK.o _ _ _ rfl rfl (hq 0 (by decide) (by decide) l _ hS) (rr _)
  refine sD 1 18 aT1 [0] (fun f wq l hl hun hdn hS hd K' HK=>?_) ?_
  ·obtain⟨e0,-⟩:=hd;have e0:f 0=_:=e0;simp only[e0];go_simp;exact HK.o _ _ _ (by simp only[e0];rfl) rfl (hq 1 (by decide) (by decide) l _ hS) (rr _)
  refine sD 2 17 aT2 [1] (fun f wq l hl hun hdn hS hd K' HK=>?_) ?_
  ·obtain⟨e1,-⟩:=hd;have e1:f 1=_:=e1;simp only[e1];go_simp;exact HK.o _ _ _ (by simp only[e1];rfl) rfl (hq 2 (by decide) (by decide) l _ hS) (rr _)
  refine sD 3 16 aT3 [2] (fun f wq l hl hun hdn hS hd K' HK=>?_) ?_
  ·obtain⟨e2,-⟩:=hd;have e2:f 2=_:=e2;simp only[e2];go_simp;exact HK.o _ _ _ (by simp only[e2];rfl) rfl (hq 3 (by decide) (by decide) l _ hS) (rr _)
  refine sD 4 15 aT4 [3] (fun f wq l hl hun hdn hS hd K' HK=>?_) ?_
  ·obtain⟨e3,-⟩:=hd;have e3:f 3=_:=e3;obtain⟨r0,r1,r2,_⟩:=cells3 hS.2.1;simp only[e3];go_simp;exact HK.o _ _ _ (by simp only[e3];rfl) rfl (hq 4 (by decide) (by decide) l _ hS) (rr _)
  refine sD 5 14 aT5 [] (fun f wq l hl hun hdn hS hd K' HK=>?_) ?_
  ·clear hd;go_simp;exact HK.o _ _ _ rfl rfl (hq 5 (by decide) (by decide) l _ hS) (rr _)
  refine sD 6 13 aT6 [] (fun f wq l hl hun hdn hS hd K' HK=>?_) ?_
  ·clear hd;go_simp;exact HK.o _ _ _ rfl rfl (hq 6 (by decide) (by decide) l _ hS) (rr _)
  refine sD 7 12 aT7 [6] (fun f wq l hl hun hdn hS hd K' HK=>?_) ?_
  ·obtain⟨e6,-⟩:=hd;have e6:f 6=_:=e6;simp only[e6];go_simp;exact HK.o _ _ _ (by simp only[e6];rfl) rfl (hq 7 (by decide) (by decide) l _ hS) (rr _)
  refine sD 8 11 aT8 [7] (fun f wq l hl hun hdn hS hd K' HK=>?_) ?_
  ·obtain⟨e7,-⟩:=hd;have e7:f 7=_:=e7;simp only[e7];go_simp;exact HK.o _ _ _ (by simp only[e7];rfl) rfl (hq 8 (by decide) (by decide) l _ hS) (rr _)
  refine sD 9 10 aT9 [8] (fun f wq l hl hun hdn hS hd K' HK=>?_) ?_
  ·obtain⟨e8,-⟩:=hd;have e8:f 8=_:=e8;simp only[e8];go_simp;exact HK.o _ _ _ (by simp only[e8];rfl) rfl (hq 9 (by decide) (by decide) l _ hS) (rr _)
  refine sD 10 9 aT10 [9] (fun f wq l hl hun hdn hS hd K' HK=>?_) ?_
  ·obtain⟨e9,-⟩:=hd;have e9:f 9=_:=e9;obtain⟨r0,r1,r2,_⟩:=cells3 hS.2.1;simp only[e9];go_simp;exact HK.o _ _ _ (by simp only[e9];rfl) rfl (hq 10 (by decide) (by decide) l _ hS) (rr _)
  refine sD 11 8 aT11 [] (fun f wq l hl hun hdn hS hd K' HK=>?_) ?_
  ·clear hd;go_simp;exact HK.o _ _ _ rfl rfl (hq 11 (by decide) (by decide) l _ hS) (rr _)
  refine sD 12 7 aT12 [10,11] (fun f wq l hl hun hdn hS hd K' HK=>?_) ?_
  ·obtain⟨e10,e11,-⟩:=hd;have e10:f 10=_:=e10;have e11:f 11=_:=e11;simp only[e10,e11];go_simp;exact HK.o _ _ _ (by simp only[e10,e11];rfl) rfl (hq 12 (by decide) (by decide) l _ hS) (rr _)
  refine sD 13 6 aT13 [12] (fun f wq l hl hun hdn hS hd K' HK=>?_) ?_
  ·obtain⟨e12,-⟩:=hd;have e12:f 12=_:=e12;have r9:=(cell_of_row wq gP ht _ _ _ (hS.2.2.2 (hun 19 (of_decide_eq_true (by kernel_rfl))))).trans HC9.o;simp only[e12];go_simp;exact HK.o _ _ _ (by simp only[e12];rfl) rfl (hq 13 (by decide) (by decide) l _ hS) (rr _)
  refine sD 14 5 aT14 [] (fun f wq l hl hun hdn hS hd K' HK=>?_) ?_
  ·clear hd;go_simp;exact HK.o _ _ _ rfl rfl (hq 14 (by decide) (by decide) l _ hS) (rr _)
  refine sD 15 4 aT15 [] (fun f wq l hl hun hdn hS hd K' HK=>?_) ?_
  ·clear hd;go_simp;exact HK.o _ _ _ rfl rfl (hq 15 (by decide) (by decide) l _ hS) (rr _)
  refine sD 16 3 aT16 [15] (fun f wq l hl hun hdn hS hd K' HK=>?_) ?_
  ·obtain⟨e15,-⟩:=hd;have e15:f 15=_:=e15;simp only[e15];go_simp;exact HK.o _ _ _ (by simp only[e15];rfl) rfl (hq 16 (by decide) (by decide) l _ hS) (rr _)
  refine sD 17 2 aT17 [13,14,16] (fun f wq l hl hun hdn hS hd K' HK=>?_) ?_
  ·obtain⟨e13,e14,e16,-⟩:=hd;have e13:f 13=_:=e13;have e14:f 14=_:=e14;have e16:f 16=_:=e16;have HD:=Jh (delete_any gE n4 c4 k cE p wq (hS.2.2.1 hl).2 HN4.o hkl hc4 (by have:=HSZ.o.2.2.2.2;unfold maxLen at this;omega) HSZ.o.2.2.2.1 HTE.o);have HS:=Jh hS;have hl19:=hun 19 (of_decide_eq_true (by kernel_rfl));clear hS;simp only[e13,e14,e16];go_simp
   go_wp2_with (go_at_call 132;refine HD.o.mono ?_;rintro e wD ⟨rfl,cD,hcD,hsD,htD,hgD⟩);have hS:=HS.o;have htk:=tk_one (HS.o.2.2.1 hl).2 hgD
   exact HK.o _ _ _ (by simp only[e13,e14,e16];rfl) ⟨rfl,fun _=>(hS.2.2.1 hl).1.dmid HV4.o HP.o HN4.o (HX.o) hcD hsD htD hgD htk hc4 HSZ.o.2.2.2.2 hbE⟩ ⟨hS.1.trans (below_one hgD hbE (Nat.le_trans hB hS.1.size)),htk.at_ (by decide) hS.2.1,fun hl9=>absurd hl9 (by simp),fun _=>htk.at_ (by decide) (hS.2.2.2 hl19)⟩ htk
  refine sD 18 1 aT18 [4,5,17] (fun f wq l hl hun hdn hS hd K' HK=>?_) ?_
  ·obtain⟨e4,e5,e17,-⟩:=hd;have e4:f 4=_:=e4;have e5:f 5=_:=e5;have e17:(f 17)=.slice (some ⟨gE,0,none⟩) (n4-1) c4/\((l 19)=false->DMid B wq (.slice (some ⟨gW,0,none⟩) 4 dW) (.slice (some ⟨gR,0,none⟩) 4 dR) pv (M.words.set a z) M.pend ht (.slice (some ⟨gE,0,none⟩) (n4-1) c4) (p.eraseIdx k)):=e17;clear e17;simp only[e4,e5];go_simp
   exact HK.o _ _ _ (by simp only[e4,e5];rfl) rfl (hq 18 (by decide) (by decide) l _ hS) (rr _)
  refine sD 19 0 aT19 [17,18] (fun f wq l hl hun hdn hS hd K' HK=>?_) ?_
  ·obtain⟨e17,e18,-⟩:=hd;have e17:(f 17)=.slice (some ⟨gE,0,none⟩) (n4-1) c4/\((l 19)=false->DMid B wq (.slice (some ⟨gW,0,none⟩) 4 dW) (.slice (some ⟨gR,0,none⟩) 4 dR) pv (M.words.set a z) M.pend ht (.slice (some ⟨gE,0,none⟩) (n4-1) c4) (p.eraseIdx k)):=e17;have e18:f 18=_:=e18;obtain⟨hv17,hmid⟩:=e17;have hmid:=hmid hl;have hblk:=hS.2.2.2 hl;have r9:=(cell_of_row wq gP ht _ _ _ hblk).trans HC9.o
   have r8:=not_frozen (i:=ht) hblk;have HG:=Jh hblk;have HS:=Jh hS;have HMid:=Jh hmid;clear hS hblk hmid;simp only[e18,hv17];go_simp;have hS:=HS.o
   exact HK.o undef _ _ (by simp only[hv17,e18];rfl) (HMid.o.fin HOK2.o HM.o.ok.lp hh HCur.o HG.o) ⟨hS.1.setCell (p:=⟨gP,ht,none⟩) (Nat.le_of_lt hbP) _,(set_other _ HBP.o).trans hS.2.1,fun hl9=>absurd ((show(decide (17=19)||l 17)=true by rw[hdn 17 (of_decide_eq_true (by kernel_rfl))];rfl).symm.trans hl9) (by decide),fun hl9=>absurd hl9 (by simp)⟩ (tk_set1 HG.o)
  exact trivial
 case fin=>
  intro f wz l hl hall hS;have a17:(f 17)=.slice (some ⟨gE,0,none⟩) (n4-1) c4/\((l 19)=false->DMid B wz (.slice (some ⟨gW,0,none⟩) 4 dW) (.slice (some ⟨gR,0,none⟩) 4 dR) pv (M.words.set a z) M.pend ht (.slice (some ⟨gE,0,none⟩) (n4-1) c4) (p.eraseIdx k)):=hall 17 (by decide)
  have a19:IsMem wz (.slice (some ⟨gW,0,none⟩) 4 dW) (.slice (some ⟨gP,0,none⟩) 4 cP) (.slice (some ⟨gR,0,none⟩) 4 dR) ⟨M.words.set a z,M.pend.set ht (p.eraseIdx k)⟩:=hall 19 (by decide);clear hall;simp only[a17.1];have HI:=Jh a19;have HS:=Jh hS;clear a17 a19 hS hq rr hl;go_wp2_with fail;go_end0;exact⟨⟨_,rfl⟩,HS.o.2.1,by rw[HA.o,Int.toNat_natCast,<-HZ.o];exact HI.o,HS.o.1⟩
end Go.Proofs.YtnigadeohmlpiaaGreatDoor
