/- Contracts and words: whether a hart and a word are there; what a load tells; what a load tells; a memory in memory of its own; a memory of four harts and four words; a number that is in a word's range is its own word; a number goes to memory. No condition of ours. -/
import Derived.Test.YtnigadeohmlpiaaGreatDoorC15
import Derived.Test.YtnigadeohmlpiaaGreatDoorC02
set_option maxHeartbeats 32000000
set_option maxRecDepth 100000
namespace Go.Proofs.YtnigadeohmlpiaaGreatDoor
open Go.RowKit
attribute [local go_sem] Oper.semAt_some
theorem hart80_any(v1 v2 v3:Value)(M:Mm)(h:Int)(w:World)(hm:IsMem w v1 v2 v3 M):
  Calls Tryz.prog 80 #[.agg #[v1,v2,v3],.int .i64 h] w fun o w'=>o=.returned (.bool (decide (0<=h)&&decide (h<4)))/\Below w.heap.size w w':=by
 obtain⟨A1,c1,rfl,_⟩:=hm.ws;obtain⟨A2,c2,pv,rfl,_⟩:=hm.ps;obtain⟨A3,c3,rfl,_⟩:=hm.rs;obtain⟨W,hW⟩:=exE (w.alloc (.cells #[.slice A1 4 c1,.slice A2 4 c2,.slice A3 4 c3] 59));obtain⟨b,hb⟩:=exE (w.heap.size);have HB:=Jh (show Below w.heap.size w W from hW▸bA (bR w));have hh:W.heap[b]?=some (.cells #[.slice A1 4 c1,.slice A2 4 c2,.slice A3 4 c3] 59):=by rw[hW,hb];exact heap_alloc_new w _
 obtain⟨q0,q1,q2,_⟩:=cells3 hh;clear hm hh;by_cases h0:0<=h
 ·have hb0:decide (h>=0)=true:=by simpa using h0
  have hb0':decide (0<=h)=true:=by simpa using h0
  rw[hb0',Bool.true_and];by_cases h4:h<4
  ·have hb4:decide (h<4)=true:=by simpa using h4
   rw[hb4];clear h0 h4;go_enter Tryz.func80,Tryz.ntmps80;go_upto_region 1 with fail
   rw[<-hW,<-hb];clear hW hb;go_wp2_with fail;go_ret;exact⟨rfl,HB.o⟩
  have hb4:decide (h<4)=false:=by simpa using h4
  rw[hb4];clear h0 h4;go_enter Tryz.func80,Tryz.ntmps80;go_upto_region 1 with fail
  rw[<-hW,<-hb];clear hW hb;go_wp2_with fail;go_ret;exact⟨rfl,HB.o⟩
 have hb0:decide (h>=0)=false:=by simpa using h0
 have hb0':decide (0<=h)=false:=by simpa using h0
 rw[hb0',Bool.false_and];clear h0;go_enter Tryz.func80,Tryz.ntmps80;go_upto_region 1 with fail
 rw[<-hW,<-hb];clear hW hb;go_wp2_with fail;go_ret;exact⟨rfl,HB.o⟩
theorem there82_any(v1 v2 v3:Value)(M:Mm)(h a:Int)(w:World)(hm:IsMem w v1 v2 v3 M):
  Calls Tryz.prog 82 #[.agg #[v1,v2,v3],.int .i64 h,.int .i64 a] w fun o w'=>o=.returned (.bool ((decide (0<=h)&&decide (h<4))&&(decide (0<=a)&&decide (a<4))))/\Below w.heap.size w w':=by
 have HM:=Jh hm;obtain⟨A1,c1,rfl,_⟩:=hm.ws;obtain⟨A2,c2,pv,rfl,_⟩:=hm.ps;obtain⟨A3,c3,rfl,_⟩:=hm.rs;obtain⟨W,hW⟩:=exE (w.alloc (.cells #[.slice A1 4 c1,.slice A2 4 c2,.slice A3 4 c3] 59));obtain⟨b,hb⟩:=exE (w.heap.size);have HB:=Jh (show Below w.heap.size w W from hW▸bA (bR w));have hh:W.heap[b]?=some (.cells #[.slice A1 4 c1,.slice A2 4 c2,.slice A3 4 c3] 59):=by rw[hW,hb];exact heap_alloc_new w _
 have HH:=Jh hh;obtain⟨q0,q1,q2,_⟩:=cells3 hh;have HHt:=Jh (hart80_any _ _ _ M h W (HM.o.sees (Below.sees HB.o)));obtain⟨ht,hht⟩:=exE ((decide (0<=h)&&decide (h<4)));rw[<-hht] at HHt⊢;obtain⟨r,hr⟩:=exE ((ht&&(decide (0<=a)&&decide (a<4))));rw[<-hr];have HRr:=Jh hr;clear hm hh hht hr;go_enter Tryz.func82,Tryz.ntmps82;go_upto_region 1 with fail
 rw[<-hW,<-hb];clear hW hb;go_wp2_with fail;refine HHt.o.mono ?_;rintro o w2 ⟨rfl,hb2⟩;have HB2:=Jh (bT HB.o hb2);obtain⟨r0,_⟩:=cells3 (blk_below hb2 HH.o);clear hb2 q0 q1 q2;cases ht with
 |false=>have HR2:=Jh (show r=false from by rw[HRr.o];rfl);go_wp2_with fail;go_ret;exact⟨ret_bool HR2.o.symm,HB2.o⟩
 |true=>
  by_cases h0:0<=a
  ·have hb0:decide (a>=0)=true:=by simpa using h0
   have hb0':decide (0<=a)=true:=by simpa using h0
   by_cases h4:a<4
   ·have hb4:decide (a<4)=true:=by simpa using h4
    have HR2:=Jh (show r=true from by rw[HRr.o,hb0',hb4];rfl);clear h0 h4;go_wp2_with fail;go_ret;exact⟨ret_bool HR2.o.symm,HB2.o⟩
   have hb4:decide (a<4)=false:=by simpa using h4
   have HR2:=Jh (show r=false from by rw[HRr.o,hb0',hb4];rfl);clear h0 h4;go_wp2_with fail;go_ret;exact⟨ret_bool HR2.o.symm,HB2.o⟩
  have hb0:decide (a>=0)=false:=by simpa using h0
  have hb0':decide (0<=a)=false:=by simpa using h0
  have HR2:=Jh (show r=false from by rw[HRr.o,hb0'];rfl);clear h0;go_wp2_with fail;go_ret;exact⟨ret_bool HR2.o.symm,HB2.o⟩
end Go.Proofs.YtnigadeohmlpiaaGreatDoor
namespace Go.Proofs.YtnigadeohmlpiaaGreatDoor
open Go.RowKit
attribute [local go_sem] Oper.semAt_some
def ldF(p:List (Int×Int))(a n:Int):Int:=p.foldl (fun n x=>if x.1=a then x.2 else n) n
theorem ldF_snoc(p:List (Int×Int))(x:Int×Int)(a n:Int):ldF (p++[x]) a n=if x.1=a then x.2 else ldF p a n:=by unfold ldF;rw[List.foldl_append];rfl
theorem ldF_eq(p:List (Int×Int))(a n:Int):ldF p a n=match p.reverse.find? (fun x=>x.1==a) with
  |some x=>x.2
  |none=>n:=by
 suffices h:∀q:List (Int×Int),ldF q.reverse a n=match q.find? (fun x=>x.1==a) with
  |some x=>x.2
  |none=>n by
  have:=h p.reverse;rwa[List.reverse_reverse] at this
 intro q;induction q with
 |nil=>rfl
 |cons x q ih=>
  rw[List.reverse_cons,ldF_snoc,ih,List.find?_cons];by_cases hx:x.1=a
  ·rw[if_pos hx,show(x.1==a)=true by simpa using hx]
  rw[if_neg hx,show(x.1==a)=false by simpa using hx]
theorem load_ldF(M:Mm)(h a:Nat):M.load h a=ldF (M.pend.getD h []) a (M.words.getD a 0):=(ldF_eq _ _ _).symm
theorem load51_any(v1 v2 v3:Value)(M:Mm)(h a:Nat)(w:World)(hm:IsMem w v1 v2 v3 M)(hh:h<4)(ha:a<4):
  Calls Tryz.prog 51 #[.agg #[v1,v2,v3],.int .i64 h,.int .i64 a] w fun o w'=>o=.returned (.tuple #[.int .i64 (M.load h a),.int .i64 0])/\Below w.heap.size w w':=by
 have HM:=Jh hm;obtain⟨A1,c1,rfl,hr1⟩:=hm.ws;obtain⟨A2,c2,pv,rfl,hr2,hp⟩:=hm.ps;obtain⟨A3,c3,rfl,_⟩:=hm.rs;obtain⟨p,hpk⟩:∃p,M.pend[h]?=some p:=⟨_,List.getElem?_eq_getElem (by rw[hm.ok.lp];exact hh)⟩;obtain⟨A4,c4,he4,hc4,hr4⟩:=hp h p hpk;obtain⟨n4,hn4⟩:=exE (p.length);have hn8:n4<=8:=hn4▸hm.ok.few p (List.mem_of_getElem? hpk);rw[<-hn4] at hr4 he4 hc4
 obtain⟨W,hW⟩:=exE (w.alloc (.cells #[.slice A1 4 c1,.slice A2 4 c2,.slice A3 4 c3] 59));obtain⟨b,hb⟩:=exE (w.heap.size);have kW:Below w.heap.size w W:=hW▸bA (bR w);have HB:=Jh kW;have hbx:W.heap[b]?=some (.cells #[.slice A1 4 c1,.slice A2 4 c2,.slice A3 4 c3] 59):=by rw[hW,hb];exact heap_alloc_new w _
 have HH:=Jh hbx;obtain⟨q0,q1,q2,_⟩:=cells3 hbx;have HTh:=Jh (there82_any _ _ _ M h a W (HM.o.sees (Below.sees kW)));have hyes:((decide (0<=(h:Int))&&decide ((h:Int)<4))&&(decide (0<=(a:Int))&&decide ((a:Int)<4)))=true:=by simp;omega
 rw[hyes] at HTh;have HR1:=Jh (hr1.below kW);have HR2:=Jh (hr2.below kW);have HR4:=Jh (hr4.below kW);have HE4:=Jh he4;have HN4:=Jh hn4;have HLd:=Jh (show M.load h a=ldF p a (M.words.getD a 0) from by rw[load_ldF];congr 1;rw[List.getD_eq_getElem?_getD,hpk];rfl);clear hm hr1 hr2 hp hpk he4 hr4 hn4 kW hbx hyes;go_enter Tryz.func51,Tryz.ntmps51;go_upto_region 1 with fail
 rw[<-hW,<-hb];clear hW hb;go_wp2_with fail;refine HTh.o.mono ?_;rintro o w2 ⟨rfl,hb2⟩;have HB2:=Jh (bT HB.o hb2);obtain⟨r0,r1,r2,_⟩:=cells3 (blk_below hb2 HH.o);have hR1:=(HR1.o.below hb2).rd;have hR2:=(HR2.o.below hb2).rd;have HR4b:=Jh (HR4.o.below hb2).rd;obtain⟨g1,o1,wv,rfl,hwv,hcw⟩:=hR1.int ha;obtain⟨g2,o2,u,rfl,hu,hcp⟩:=hR2.at1 hh
 obtain rfl:u=.slice A4 n4 c4:=Option.some.inj (hu.symm.trans HE4.o);have HW:=Jh (show M.words.getD a 0=wv from by rw[List.getD_eq_getElem?_getD,hwv];rfl);have ha0:decide ((a:Int)<0)=false:=by simp
 have ha4:(a:Int)<4:=by omega
 have hh0:decide ((h:Int)<0)=false:=by simp
 have hh4:(h:Int)<4:=by omega
 clear hb2 q0 q1 q2 hR1 hR2 hwv hu;go_wp2_with fail;go_loop [9,10] (fun vn vk=>∃k:Nat,k<=n4/\vk=.int .i64 k/\vn=.int .i64 (ldF (p.take k) a wv)) (fun _ vk=>n4-(intOf vk).toNat);case atStart=>exact⟨0,Nat.zero_le _,rfl,rfl⟩
 case round=>
  obtain⟨k,hk,rfl,rfl⟩:=hrel;by_cases hlt:k<n4
  ·have hlb:decide ((k:Int)<(n4:Int))=true:=by simp;omega
   have hkn:(k:Int)<(n4:Int):=by omega
   have hk0:decide ((k:Int)<0)=false:=by simp
   obtain⟨g4,o4,x,rfl,hx,hx1,hx2⟩:=HR4b.o.ent HN4.o hlt;have HS:=Jh (show ldF (p.take (k+1)) a wv=if x.1=(a:Int) then x.2 else ldF (p.take k) a wv from by rw[List.take_add_one,hx];exact ldF_snoc _ _ _ _)
   obtain⟨xa,hxa⟩:=exE (x.1);obtain⟨xn,hxn⟩:=exE (x.2);rw[<-hxa,<-hxn] at HS;rw[<-hxa] at hx1;rw[<-hxn] at hx2;clear hx hxa hxn;by_cases hxa:xa=a
   ·have hb1:(xa==(a:Int))=true:=by simpa using hxa
    have HS2:=Jh (HS.o.trans (if_pos hxa));clear hxa;go_wp2_with fail;go_round;case rel=>exact⟨k+1,by omega,by go_num,by rw[HS2.o]⟩
    case measure=>simp[intOf];omega
   have hb1:(xa==(a:Int))=false:=by simpa using hxa
   have HS2:=Jh (HS.o.trans (if_neg hxa));clear hxa;go_wp2_with fail;go_round;case rel=>exact⟨k+1,by omega,by go_num,by rw[HS2.o]⟩
   case measure=>simp[intOf];omega
  have hlb:decide ((k:Int)<(n4:Int))=false:=by simp;omega
  have HF:=Jh (show ldF (p.take k) a wv=M.load h a from by rw[HLd.o,HW.o,List.take_of_length_le (by have:=HN4.o;omega)]);go_wp2_with fail;exact bodyPost_ret (results_tmp2 rfl _ _ _) rfl ⟨by rw[<-HF.o];rfl,HB2.o⟩
end Go.Proofs.YtnigadeohmlpiaaGreatDoor
namespace Go.Proofs.YtnigadeohmlpiaaGreatDoor
open Go.RowKit
attribute [local go_sem] Oper.semAt_some
theorem ret59a{fn:Func}{p:Tmp}{tmps:Array Value}{w:World}{b:Nat}{x y z:Value}(hfn:fn.results=#[.cell p 59])(hp:tmps.getD p undef=.pointer (some ⟨b,0,none⟩))
  (h:w.heap[b]?=some (.cells #[x,y,z] 59)):(results fn tmps).run Tryz.prog w=.ok (.agg #[x,y,z]) w:=by
 obtain⟨q0,q1,q2,_⟩:=cells3 h;rw[results_cell1 hfn,hp];simp[go_sem,q0,q1,q2]
theorem OwnMem.tk59{B:Nat}{w w':World}{x1 x2 x3:Value}{pv:List Value}{M:Mm}(hm:OwnMem B w x1 x2 x3 pv M)(hk:Tk [59] w w'):OwnMem B w' x1 x2 x3 pv M:=
 ⟨hm.ok,hm.ws.tk hk (by decide),hm.ps.tk hk (by decide),hm.rs.tk hk (by decide),hm.ne,fun k p hp=>(hm.en k p hp).elim fun v hv=>⟨v,hv.1,hv.2.tk hk (by decide)⟩,hm.dj⟩
def OwnIsM(B:Nat)(M:Mm)(e:Ending)(w:World):Prop:=∃x1 x2 x3 pv,e=.returned (.agg #[x1,x2,x3])/\OwnMem B w x1 x2 x3 pv M
theorem own83_any(v1 v2 v3:Value)(M:Mm)(w:World)(h:IsMem w v1 v2 v3 M):
  Calls Tryz.prog 83 #[.agg #[v1,v2,v3]] w fun e w'=>OwnIsM w.heap.size M e w'/\Below w.heap.size w w':=by
 obtain⟨i3,hi3,hz0,hz1,hz2⟩:=info_parts int_info;obtain⟨A1,c1,rfl,hr1⟩:=h.ws;obtain⟨A2,c2,p0,rfl,hr2,hp⟩:=h.ps;obtain⟨A3,c3,rfl,hr3⟩:=h.rs;have HOK:=Jh h.ok;obtain⟨b1,hb1⟩:=exE (w.heap.size);obtain⟨b2,hb2⟩:=exE (b1+1);obtain⟨bx,hbx⟩:=exE (b2+1);obtain⟨X1,hX1⟩:=exE (w.alloc (.cells #[.slice A1 4 c1,.slice A2 4 c2,.slice A3 4 c3] 59))
 obtain⟨X2,hX2⟩:=exE (X1.alloc (.cells #[.slice none 0 0,.slice none 0 0,.slice none 0 0] 59));obtain⟨W0,hW0⟩:=exE (X2.alloc (.cells #[.slice none 0 0,.slice none 0 0,.slice none 0 0] 59));have s1:X1.heap.size=b1+1:=by rw[hX1,World.size_alloc,hb1]
 have s2:X2.heap.size=b1+1+1:=by rw[hX2,World.size_alloc,s1]
 have k2:Below X2.heap.size X2 W0:=hW0▸bA (bR X2);have k1:Below X1.heap.size X1 W0:=bT (hX2▸bA (bR X1)) k2;have k0:Below w.heap.size w W0:=bT (hX1▸bA (bR w)) k1;have HI:=Jh (show W0.heap[b1]?=some (.cells #[.slice A1 4 c1,.slice A2 4 c2,.slice A3 4 c3] 59) from blk_below k1 (by rw[hX1,hb1];exact heap_alloc_new w _))
 have HT:=Jh (show W0.heap[b2]?=some (.cells #[.slice none 0 0,.slice none 0 0,.slice none 0 0] 59) from blk_below k2 (by rw[hX2,hb2,<-s1];exact heap_alloc_new X1 _));have HXo:=Jh (show W0.heap[bx]?=some (.cells #[.slice none 0 0,.slice none 0 0,.slice none 0 0] 59) from by rw[hW0,hbx,hb2,<-s2];exact heap_alloc_new X2 _);have HB0:=Jh k0;have HLe:=Jh (Nat.le_of_eq hb1.symm)
 have HN:=Jh (show b1<b2/\b2<bx from by omega);have H1:=Jh hr1;have H2:=Jh hr2;have H3:=Jh hr3;have HP:=Jh hp;have hWW:W0=((w.alloc (.cells #[.slice A1 4 c1,.slice A2 4 c2,.slice A3 4 c3] 59)).alloc (.cells #[.slice none 0 0,.slice none 0 0,.slice none 0 0] 59)).alloc (.cells #[.slice none 0 0,.slice none 0 0,.slice none 0 0] 59):=by rw[hW0,hX2,hX1]
 clear h hr1 hr2 hr3 hp s1 s2 k1 k2 k0 hX1 hX2 hW0;go_enter Tryz.func83,Tryz.ntmps83;go_upto_region 2 with fail
 rw[<-hWW,<-hb1,<-hb2,<-hbx];clear hWW hb1 hb2 hbx;have HS0:=Jh (show b1+1<=W0.heap.size from by have:=blk_lt HXo.o;have:=HN.o;omega);obtain⟨q0,q1,q2,_⟩:=cells3 HI.o;obtain⟨o0,o1,o2,_⟩:=cells3 HXo.o;go_upto_region 3 with(
  at_builtin
  refine wpList_append_rd _ rfl (.tmp 6) (.tmp 8) 32 rfl (b1+1) 3 i3 _ 1 8 Tryz.underlying32 hi3 hz0 hz1 hz2 rfl (by decide) (.slice none 0 0) 0 [] rfl (World.ownsRow_nil _ _ _ _) A1 4 c1 (ints M.words) rfl (H1.o.below HB0.o).rd (ints_one _) (by unfold maxLen;omega) (by omega) HS0.o ?_;intro v5 w5 hown5 hg5;have hB5:Below W0.heap.size W0 w5:=(bR W0).grown hg5 (Nat.le_refl _) (fun r e=>by cases e)
  obtain⟨A5,c5,rfl,hc5,_⟩:=own_slice hown5;have HO5:=Jh (show OwnAt b1 3 1 4 (ints M.words) (.slice A5 4 c5) w5 from⟨A5,c5,rfl,by omega,by rwa[Nat.zero_add,List.nil_append] at hown5⟩);have HB5:=Jh hB5;have HX5:=Jh (blk_below hB5 HXo.o);obtain⟨p0,p1,p2,f0,f1,f2⟩:=cells3 HX5.o;clear hown5 hg5 q0 q1 q2 o0 o1 o2 hB5 hc5)
 obtain⟨W6,hW6⟩:=exE (w5.setCell ⟨bx,0,none⟩ (.slice A5 4 c5));have HI6:=Jh (show W6.heap[b1]?=_ from hW6▸(set_other _ (show b1≠bx from by have:=HN.o;omega)).trans (blk_below HB5.o HI.o));have HT6:=Jh (show W6.heap[b2]?=_ from hW6▸(set_other _ (show b2≠bx from by have:=HN.o;omega)).trans (blk_below HB5.o HT.o))
 have HX6:=Jh (show W6.heap[bx]?=some (.cells #[.slice A5 4 c5,.slice none 0 0,.slice none 0 0] 59) from hW6▸set_same HX5.o _);have HO6:=Jh (show OwnAt b1 3 1 4 (ints M.words) (.slice A5 4 c5) W6 from hW6▸HO5.o.tk (tk_set1 HX5.o) (by decide));have HB6:=Jh (show Below w.heap.size w W6 from hW6▸bS (bT HB0.o HB5.o) (show w.heap.size<=bx from by have:=HLe.o;have:=HN.o;omega));rw[<-hW6]
 have HS6:=Jh (show b1+1<=W6.heap.size from by have:=blk_lt HX6.o;have:=HN.o;omega);clear hW6 p0 p1 p2 f0 f1 f2;obtain⟨q0,q1,q2,_⟩:=cells3 HI6.o;obtain⟨o0,o1,o2,_⟩:=cells3 HX6.o;go_upto_region 4 with(
  at_builtin
  refine wpList_append_rd _ rfl (.tmp 12) (.tmp 14) 32 rfl W6.heap.size 3 i3 _ 1 8 Tryz.underlying32 hi3 hz0 hz1 hz2 rfl (by decide) (.slice none 0 0) 0 [] rfl (World.ownsRow_nil _ _ _ _) A3 4 c3 [.int .i64 (-1),.int .i64 (-1),.int .i64 (-1),.int .i64 (-1)] rfl (H3.o.below HB6.o).rd (by simp[Value.oneCell']) (by unfold maxLen;omega) (by omega) (Nat.le_refl _) ?_;intro v7 w7 hown7 hg7
  have hB7:Below W6.heap.size W6 w7:=(bR W6).grown hg7 (Nat.le_refl _) (fun r e=>by cases e);have HNE:=Jh (own_ne HO6.o hown7 (by omega));obtain⟨A7,c7,rfl,hc7,_⟩:=own_slice hown7;have HO7:=Jh (show OwnAt b1 3 1 4 [.int .i64 (-1),.int .i64 (-1),.int .i64 (-1),.int .i64 (-1)] (.slice A7 4 c7) w7 from⟨A7,c7,rfl,by omega,own_low (by rwa[Nat.zero_add,List.nil_append] at hown7) HS6.o⟩);have HB7:=Jh hB7
  have HX7:=Jh (blk_below hB7 HX6.o);obtain⟨p0,p1,p2,f0,f1,f2⟩:=cells3 HX7.o;clear hown7 hg7 q0 q1 q2 o0 o1 o2 hB7 hc7)
 obtain⟨W8,hW8⟩:=exE (w7.setCell ⟨bx,2,none⟩ (.slice A7 4 c7));have HI8:=Jh (show W8.heap[b1]?=_ from hW8▸(set_other _ (show b1≠bx from by have:=HN.o;omega)).trans (blk_below HB7.o HI6.o));have HT8:=Jh (show W8.heap[b2]?=_ from hW8▸(set_other _ (show b2≠bx from by have:=HN.o;omega)).trans (blk_below HB7.o HT6.o))
 have HX8:=Jh (show W8.heap[bx]?=some (.cells #[.slice A5 4 c5,.slice none 0 0,.slice A7 4 c7] 59) from hW8▸set_same HX7.o _);have HOw:=Jh (show OwnAt b1 3 1 4 (ints M.words) (.slice A5 4 c5) W8 from hW8▸(HO6.o.below HB7.o).tk (tk_set1 HX7.o) (by decide))
 have HOr:=Jh (show OwnAt b1 3 1 4 [.int .i64 (-1),.int .i64 (-1),.int .i64 (-1),.int .i64 (-1)] (.slice A7 4 c7) W8 from hW8▸HO7.o.tk (tk_set1 HX7.o) (by decide));have HB8:=Jh (show Below w.heap.size w W8 from hW8▸bS (bT HB6.o HB7.o) (show w.heap.size<=bx from by have:=HLe.o;have:=HN.o;omega));rw[<-hW8];clear hW8 p0 p1 p2 f0 f1 f2;obtain⟨q0,q1,q2,_⟩:=cells3 HI8.o
 have HREL:=Jh (show OfL w b1 bx A5 c5 A7 c7 M 0 W8 from⟨HB8.o,none,0,[],HX8.o,Nat.le_refl _,World.ownsRow_nil _ _ _ _,rfl,fun i p hi=>absurd hi (by omega),fun i j g v u _ hv=>by simp at hv,HOw.o,HOr.o⟩);clear q0 q1 q2;go_wp2_with fail
 go_loopw [4] (fun v wr=>∃k:Nat,k<=4/\v=.int .i64 k/\OfL w b1 bx A5 c5 A7 c7 M k wr/\wr.heap[b1]?=some (.cells #[.slice A1 4 c1,.slice A2 4 c2,.slice A3 4 c3] 59)/\wr.heap[b2]?=some (.cells #[.slice none 0 0,.slice none 0 0,.slice none 0 0] 59)) (fun v _=>4-(intOf v).toNat);case atStart=>exact⟨0,by omega,rfl,HREL.o,HI8.o,HT8.o⟩
 case round=>
  obtain⟨k,hk,rfl,⟨hB,AP,cP,pv,hblk,hcP,hown,hlen,hent,hdj,hO2,hO5⟩,hin,hto⟩:=hrel;obtain⟨wo,rfl⟩:=exE wr;have HB:=Jh hB;have HBK:=Jh hblk;have HOW:=Jh hown;have HEN:=Jh hent;have HDJ:=Jh hdj;have HO2:=Jh hO2;have HO5':=Jh hO5;have HLEN:=Jh hlen;have HIN:=Jh (And.intro hin hto);obtain⟨q0,q1,q2,_⟩:=cells3 hin;clear hB hblk hown hlen hent hdj hO2 hO5 hin hto;by_cases hlt:k<4
  ·have hltb:decide ((k:Int)<4)=true:=by simp;omega
   obtain⟨p,hp⟩:∃p,M.pend[k]?=some p:=⟨_,List.getElem?_eq_getElem (by rw[HOK.o.lp];exact hlt)⟩;obtain⟨A4,c4,he4,hc4,hr4⟩:=HP.o k p hp;obtain⟨ba,off,u,hA2,hu,hcell⟩:=H2.o.rd.at1 hlt;rw[he4] at hu;injection hu with hu
   subst hu;subst hA2;obtain⟨n4,hn4⟩:=exE (p.length);have hn8:n4<=8:=hn4▸HOK.o.few p (List.mem_of_getElem? hp);rw[<-hn4] at hcell hr4 hc4;have HCp:=Jh (fun(wx:World) (hb:Below w.heap.size w wx)=>(hb.cell (cell_lt hcell)).trans hcell);have HPk:=Jh hp;have HN4:=Jh hn4;have HR4:=Jh hr4;have hk0:decide ((k:Int)<0)=false:=by simp
   have hk4:(k:Int)<4:=by omega
   clear hp he4 hr4 hn4 hcell;go_upto_region 7 with fail
   clear q0 q1 q2
   have hq:∀(k9:Nat),k9≠11->k9≠9->∀(l:Nat->Bool) (wx:World),(Below w.heap.size w wx/\(l 11=false->wx.heap[bx]?=some (.cells #[.slice A5 4 c5,.slice AP k cP,.slice A7 4 c7] 59))/\(l 9=false->wx.ownsRow (b1+1) 87 1 (.slice AP k cP) k pv)/\(∀i p,i<k->M.pend[i]?=some p->∃v,pv[i]?=some v/\OwnAt b1 128 2 p.length (entCells p) v wx)/\OwnAt b1 3 1 4 (ints M.words) (.slice A5 4 c5) wx/\OwnAt b1 3 1 4 [.int .i64 (-1),.int .i64 (-1),.int .i64 (-1),.int .i64 (-1)] (.slice A7 4 c7) wx/\(wx.heap[b1]?=some (.cells #[.slice A1 4 c1,.slice (some ⟨ba,off,none⟩) 4 c2,.slice A3 4 c3] 59)/\wx.heap[b2]?=some (.cells #[.slice none 0 0,.slice none 0 0,.slice none 0 0] 59)))->(Below w.heap.size w wx/\((decide (11=k9)||l 11)=false->wx.heap[bx]?=some (.cells #[.slice A5 4 c5,.slice AP k cP,.slice A7 4 c7] 59))/\((decide (9=k9)||l 9)=false->wx.ownsRow (b1+1) 87 1 (.slice AP k cP) k pv)/\(∀i p,i<k->M.pend[i]?=some p->∃v,pv[i]?=some v/\OwnAt b1 128 2 p.length (entCells p) v wx)/\OwnAt b1 3 1 4 (ints M.words) (.slice A5 4 c5) wx/\OwnAt b1 3 1 4 [.int .i64 (-1),.int .i64 (-1),.int .i64 (-1),.int .i64 (-1)] (.slice A7 4 c7) wx/\(wx.heap[b1]?=some (.cells #[.slice A1 4 c1,.slice (some ⟨ba,off,none⟩) 4 c2,.slice A3 4 c3] 59)/\wx.heap[b2]?=some (.cells #[.slice none 0 0,.slice none 0 0,.slice none 0 0] 59))):=fun k9 h7 h5 l wx h=>⟨h.1,fun hl=>h.2.1 (Bool.or_eq_false_iff.1 hl).2,fun hl=>h.2.2.1 (Bool.or_eq_false_iff.1 hl).2,h.2.2.2⟩
   have rr:∀{T:List TypeId} (wx:World),Tk T wx wx:=fun wx=>Tk.refl _ wx;have rb:∀{T:List TypeId} {w1 w2:World},Below w1.heap.size w1 w2->Tk T w1 w2:=fun h=>Tk.below h;have nt:∀{i:Nat} (e:TypeId),e≠87->e≠59->e∉(if i=9 then[87] else if i=11 then[59] else[]:List TypeId):=fun e h1 h2=>by
    split
    ·simpa using h1
    split
    ·simpa using h2
    simp
   have nt5:∀{i:Nat} (e:TypeId),i≠9->e≠59->e∉(if i=9 then[87] else if i=11 then[59] else[]:List TypeId):=fun e h1 h2=>by
    rw[if_neg h1];split
    ·simpa using h2
    simp
   have nt7:∀{i:Nat} (e:TypeId),i≠11->e≠87->e∉(if i=9 then[87] else if i=11 then[59] else[]:List TypeId):=fun e h1 h2=>by split<;>simp_all
   refine wp_region_det (by kernel_rfl) (fun f=>(⟨#[Value.agg #[Value.slice A1 4 c1,Value.slice (some ⟨ba,off,none⟩) 4 c2,Value.slice A3 4 c3],Value.pointer (some ⟨b1,0,none⟩),Value.pointer (some ⟨b2,0,none⟩),Value.pointer (some ⟨bx,0,none⟩),.int .i64 (k:Int),Value.pointer (some ⟨bx,0,none⟩),Value.slice none 0 0,Value.pointer (some ⟨b1,0,none⟩),Value.slice A1 4 c1,Value.slice A5 4 c5,Value.pointer (some ⟨bx,0,none⟩),Value.pointer (some ⟨bx,2,none⟩),Value.slice none 0 0,Value.pointer (some ⟨b1,2,none⟩),Value.slice A3 4 c3,Value.slice A7 4 c7,Value.pointer (some ⟨bx,2,none⟩),.int .i64 (k:Int),Value.pointer (some ⟨b1,1,none⟩),Value.slice (some ⟨ba,off,none⟩) 4 c2,.int .i64 4,Value.bool true,u22,u23,f 0,f 1,f 2,f 3,f 4,f 5,f 6,f 7,f 8,f 9,f 10,undef],[]⟩:Act)) (fun(iv:Nat) (lv:Nat->Bool) (fv:Nat->Value) (wx:World)=>match iv with|0=>fv 0=.pointer (some ⟨bx,1,none⟩)|1=>fv 1=.slice AP k cP|2=>fv 2=.pointer (some ⟨b1,1,none⟩)|3=>fv 3=.slice (some ⟨ba,off,none⟩) 4 c2|4=>fv 4=.int .i64 k|5=>fv 5=.pointer (some ⟨ba,off+k,none⟩)|6=>fv 6=.slice A4 n4 c4|7=>OwnAt b1 128 2 n4 (entCells p) (fv 7) wx/\∀(j g:Nat) (u:Value),pv[j]?=some u->u.ownBlock=some g->((fv 7)).ownBlock≠some g|8=>∃g,(fv 8)=.slice (some ⟨g,0,none⟩) 1 1/\((lv 9)=false->wx.heap[g]?=some (.cells #[(fv 7)] 87))|9=>OwnAt b1 87 1 (k+1) (pv++[(fv 7)]) (fv 9) wx|10=>fv 10=.pointer (some ⟨bx,1,none⟩)|11=>wx.heap[bx]?=some (.cells #[.slice A5 4 c5,(fv 9),.slice A7 4 c7] 59)|_=>True) (fun lv wx=>Below w.heap.size w wx/\(lv 11=false->wx.heap[bx]?=some (.cells #[.slice A5 4 c5,.slice AP k cP,.slice A7 4 c7] 59))/\(lv 9=false->wx.ownsRow (b1+1) 87 1 (.slice AP k cP) k pv)/\(∀i p,i<k->M.pend[i]?=some p->∃v,pv[i]?=some v/\OwnAt b1 128 2 p.length (entCells p) v wx)/\OwnAt b1 3 1 4 (ints M.words) (.slice A5 4 c5) wx/\OwnAt b1 3 1 4 [.int .i64 (-1),.int .i64 (-1),.int .i64 (-1),.int .i64 (-1)] (.slice A7 4 c7) wx/\(wx.heap[b1]?=some (.cells #[.slice A1 4 c1,.slice (some ⟨ba,off,none⟩) 4 c2,.slice A3 4 c3] 59)/\wx.heap[b2]?=some (.cells #[.slice none 0 0,.slice none 0 0,.slice none 0 0] 59))) (fun i w1 w2=>Tk (if i=9 then[87] else if i=11 then[59] else[]) w1 w2) (by kernel_rfl) (fun k=>match k with|0=>u24|1=>u25|2=>u26|3=>u27|4=>u28|5=>u29|6=>u30|7=>u31|8=>u32|9=>u33|10=>u34|_=>undef) rfl ?keep ⟨bD HB.o,fun _=>HBK.o,fun _=>HOW.o,HEN.o,HO2.o,HO5'.out,HIN.o⟩ ?steps ?fin
   case keep=>
    intro iv j hij hd l f f' w1 w2 hf hR
    match j with
    |0|1|2|3|4|5|6|10=>exact fun h=>(hf _ (Ne.symm hij)).trans h
    |7=>intro h;have h:OwnAt b1 128 2 n4 (entCells p) (f 7) w1/\∀(j g:Nat) (u:Value),pv[j]?=some u->u.ownBlock=some g->((f 7)).ownBlock≠some g:=h;show OwnAt b1 128 2 n4 (entCells p) (f' 7) w2/\∀(j g:Nat) (u:Value),pv[j]?=some u->u.ownBlock=some g->((f' 7)).ownBlock≠some g;rw[hf 7 (Ne.symm hij)];exact⟨h.1.tk hR (nt 128 (by decide) (by decide)),h.2⟩
    |8=>
     intro h;have h:∃g,(f 8)=.slice (some ⟨g,0,none⟩) 1 1/\((l 9)=false->w1.heap[g]?=some (.cells #[(f 7)] 87)):=h;show∃g,(f' 8)=.slice (some ⟨g,0,none⟩) 1 1/\((decide (9=iv)||l 9)=false->w2.heap[g]?=some (.cells #[(f' 7)] 87));rw[hf 8 (Ne.symm hij),hf 7 (fun e=>hd (e▸of_decide_eq_true (by kernel_rfl)))]
     exact h.elim fun g h=>⟨g,h.1,fun hl=>hR.at_ (nt5 87 (fun e=>(Bool.or_eq_false_iff.1 hl).1|>fun z=>absurd e.symm (of_decide_eq_false z)) (by decide)) (h.2 (Bool.or_eq_false_iff.1 hl).2)⟩
    |9=>intro h;have h:OwnAt b1 87 1 (k+1) (pv++[(f 7)]) (f 9) w1:=h;show OwnAt b1 87 1 (k+1) (pv++[(f' 7)]) (f' 9) w2;rw[hf 9 (Ne.symm hij),hf 7 (fun e=>hd (e▸of_decide_eq_true (by kernel_rfl)))];exact h.tk hR (nt5 87 hij (by decide))
    |11=>intro h;have h:w1.heap[bx]?=some (.cells #[.slice A5 4 c5,(f 9),.slice A7 4 c7] 59):=h;show w2.heap[bx]?=some (.cells #[.slice A5 4 c5,(f' 9),.slice A7 4 c7] 59);rw[hf 9 (fun e=>hd (e▸of_decide_eq_true (by kernel_rfl)))];exact hR.at_ (nt7 59 hij (by decide)) h
    |_+12=>exact id
   case steps=>
    refine fun iv hiv=>stepsOf_at (k:=0) (n:=12) ?_ iv (Nat.zero_le _) (by rw[Nat.zero_add];exact hiv);refine sD 0 11 aT0 [] (fun f wq l hl hun hdn hS hd K' HK=>?_) ?_
    ·clear hd;have HSS:=Jh hS;clear hS;go_simp;exact HK.o _ _ _ rfl rfl (hq 0 (by decide) (by decide) l _ HSS.o) (rr _)
    refine sD 1 10 aT1 [0] (fun f wq l hl hun hdn hS hd K' HK=>?_) ?_
    ·obtain⟨e0,-⟩:=hd;have e0:f 0=_:=e0;obtain⟨r0,r1,r2,_⟩:=cells3 (hS.2.1 (hun 11 (of_decide_eq_true (by kernel_rfl))));have HSS:=Jh hS;clear hS;simp only[e0];go_simp;exact HK.o _ _ _ (by simp only[e0];rfl) rfl (hq 1 (by decide) (by decide) l _ HSS.o) (rr _)
    refine sD 2 9 aT2 [] (fun f wq l hl hun hdn hS hd K' HK=>?_) ?_
    ·clear hd;have HSS:=Jh hS;clear hS;go_simp;exact HK.o _ _ _ rfl rfl (hq 2 (by decide) (by decide) l _ HSS.o) (rr _)
    refine sD 3 8 aT3 [2] (fun f wq l hl hun hdn hS hd K' HK=>?_) ?_
    ·obtain⟨e2,-⟩:=hd;have e2:f 2=_:=e2;obtain⟨r0,r1,r2,_⟩:=cells3 hS.2.2.2.2.2.2.1;have HSS:=Jh hS;clear hS;simp only[e2];go_simp;exact HK.o _ _ _ (by simp only[e2];rfl) rfl (hq 3 (by decide) (by decide) l _ HSS.o) (rr _)
    refine sD 4 7 aT4 [] (fun f wq l hl hun hdn hS hd K' HK=>?_) ?_
    ·clear hd;have HSS:=Jh hS;clear hS;go_simp;exact HK.o _ _ _ rfl rfl (hq 4 (by decide) (by decide) l _ HSS.o) (rr _)
    refine sD 5 6 aT5 [3,4] (fun f wq l hl hun hdn hS hd K' HK=>?_) ?_
    ·obtain⟨e3,e4,-⟩:=hd;have e3:f 3=_:=e3;have e4:f 4=_:=e4;have HSS:=Jh hS;clear hS;simp only[e3,e4];go_simp;exact HK.o _ _ _ (by simp only[e3,e4];rfl) rfl (hq 5 (by decide) (by decide) l _ HSS.o) (rr _)
    refine sD 6 5 aT6 [5] (fun f wq l hl hun hdn hS hd K' HK=>?_) ?_
    ·obtain⟨e5,-⟩:=hd;have e5:f 5=_:=e5;have r0:=HCp.o wq hS.1;have HSS:=Jh hS;clear hS;simp only[e5];go_simp;exact HK.o _ _ _ (by simp only[e5];rfl) rfl (hq 6 (by decide) (by decide) l _ HSS.o) (rr _)
    refine sD 7 4 aT7 [6] (fun f wq l hl hun hdn hS hd K' HK=>?_) ?_
    ·obtain⟨e6,-⟩:=hd;have e6:f 6=_:=e6;obtain⟨i0,hi0,hy0,hy1,hy2⟩:=info_parts ent_info;try rw[if_pos (by rfl)]
     refine wp_append_rd _ _ _ 87 rfl wq.heap.size 128 i0 _ 2 16 Tryz.underlying87 hi0 hy0 hy1 hy2 rfl (by decide) (.slice none 0 0) 0 [] rfl (World.ownsRow_nil _ _ _ _) A4 n4 c4 (entCells p) (by simp only[e6];rfl) (HR4.o.below hS.1).rd (ent_one _) (by unfold maxLen;omega) (by omega) (Nat.le_refl _) ?_;intro v9 w9 hown9 hg9
     have hbb:Below wq.heap.size wq w9:=(bR wq).grown hg9 (Nat.le_refl _) (fun r e=>by cases e);rw[Nat.zero_add,List.nil_append] at hown9;obtain⟨A9,c9,rfl,hc9,_⟩:=own_slice hown9
     exact HK.o _ _ _ (by first|rfl|(simp only[e6];rfl)) ⟨⟨A9,c9,rfl,hc9,own_low hown9 (own_at_lt hS.2.2.2.2.1 (by decide))⟩,fun j g u hj hu h9=>pend_new hS.2.2.2.1 HLEN.o HOK.o.lp hk hj hu (hown9.lt g h9).1⟩ ⟨bT hS.1 hbb,fun hl=>Tk.at_ (Tk.below (T:=[]) hbb) (by decide) (hS.2.1 (Bool.or_eq_false_iff.1 hl).2),fun hl=>own_tk (hS.2.2.1 (Bool.or_eq_false_iff.1 hl).2) (Tk.below (T:=[]) hbb) (by decide),fun i q hi hq=>(hS.2.2.2.1 i q hi hq).elim fun v h=>⟨v,h.1,h.2.tk (Tk.below (T:=[]) hbb) (by decide)⟩,hS.2.2.2.2.1.tk (Tk.below (T:=[]) hbb) (by decide),hS.2.2.2.2.2.1.tk (Tk.below (T:=[]) hbb) (by decide),⟨Tk.at_ (Tk.below (T:=[]) hbb) (by decide) hS.2.2.2.2.2.2.1,Tk.at_ (Tk.below (T:=[]) hbb) (by decide) hS.2.2.2.2.2.2.2⟩⟩ (rb hbb)
    refine sD 8 3 aT8 [7] (fun f wq l hl hun hdn hS hd K' HK=>?_) ?_
    ·obtain⟨e7,-⟩:=hd;have e7:OwnAt b1 128 2 n4 (entCells p) (f 7) wq/\∀(j g:Nat) (u:Value),pv[j]?=some u->u.ownBlock=some g->((f 7)).ownBlock≠some g:=e7;obtain⟨⟨A9,c9,hv7,_⟩,_⟩:=e7;simp only[hv7];have HS:=Jh hS;clear hS;go_simp;have hS:=HS.o
     exact HK.o _ _ _ (by simp only[hv7];rfl) ⟨_,rfl,fun _=>(show _=some (Obj.cells #[f 7] 87) by rw[hv7];exact heap_alloc_new wq _)⟩ ⟨bA hS.1,fun hl=>Tk.at_ (Tk.below (T:=[]) (bA (bR wq))) (by decide) (hS.2.1 (Bool.or_eq_false_iff.1 hl).2),fun hl=>own_tk (hS.2.2.1 (Bool.or_eq_false_iff.1 hl).2) (Tk.below (T:=[]) (bA (bR wq))) (by decide),fun i q hi hq=>(hS.2.2.2.1 i q hi hq).elim fun v h=>⟨v,h.1,h.2.tk (Tk.below (T:=[]) (bA (bR wq))) (by decide)⟩,hS.2.2.2.2.1.tk (Tk.below (T:=[]) (bA (bR wq))) (by decide),hS.2.2.2.2.2.1.tk (Tk.below (T:=[]) (bA (bR wq))) (by decide),⟨Tk.at_ (Tk.below (T:=[]) (bA (bR wq))) (by decide) hS.2.2.2.2.2.2.1,Tk.at_ (Tk.below (T:=[]) (bA (bR wq))) (by decide) hS.2.2.2.2.2.2.2⟩⟩ (rb (bA (bR wq)))
    refine sD 9 2 aT9 [1,7,8] (fun f wq l hl hun hdn hS hd K' HK=>?_) ?_
    ·obtain⟨e1,e7,e8,-⟩:=hd;have e1:f 1=_:=e1;have e7:OwnAt b1 128 2 n4 (entCells p) (f 7) wq/\∀(j g:Nat) (u:Value),pv[j]?=some u->u.ownBlock=some g->((f 7)).ownBlock≠some g:=e7;have e8:∃g,(f 8)=.slice (some ⟨g,0,none⟩) 1 1/\((l 9)=false->wq.heap[g]?=some (.cells #[(f 7)] 87)):=e8;obtain⟨g,hv8,hg⟩:=e8;have hg:=hg hl;have hown:=hS.2.2.1 hl;obtain⟨i0,hi0,hy0,hy1,hy2⟩:=info_parts pend_info
     rw[if_pos (by rfl)]
     refine wp_append_rd _ _ _ 57 rfl (b1+1) 87 i0 _ 1 24 Tryz.underlying57 hi0 hy0 hy1 hy2 rfl (by decide) (.slice AP k cP) k pv (by simp only[e1];rfl) hown (some ⟨g,0,none⟩) 1 1 [f 7] (by simp only[hv8];rfl) ⟨rfl,fun _=>⟨g,0,rfl,blk_lt hg,fun j u hu=>one_cell hg hu⟩⟩ (by obtain⟨⟨A9,c9,hv7,_⟩,_⟩:=e7;rw[hv7];simp[Value.oneCell']) (by unfold maxLen;omega) (by omega) (own_at_lt hS.2.2.2.2.1 (by decide)) ?_
     intro v9 w9 hown9 hg9;obtain⟨A9,c9,rfl,hc9,_⟩:=own_slice hown9;have htk:=tk_grown hown hg9
     exact HK.o _ _ _ (by first|rfl|(simp only[e1];rfl)) ⟨A9,c9,rfl,hc9,hown9⟩ ⟨hS.1.grown hg9 hS.1.size (fun j hj=>by have:=(hown.lt j hj).1;have:=HLe.o;omega),fun hl=>Tk.at_ htk (by decide) (hS.2.1 (Bool.or_eq_false_iff.1 hl).2),fun hl=>absurd hl (by simp),fun i q hi hq=>(hS.2.2.2.1 i q hi hq).elim fun v h=>⟨v,h.1,h.2.tk htk (by decide)⟩,hS.2.2.2.2.1.tk htk (by decide),hS.2.2.2.2.2.1.tk htk (by decide),⟨Tk.at_ htk (by decide) hS.2.2.2.2.2.2.1,Tk.at_ htk (by decide) hS.2.2.2.2.2.2.2⟩⟩ htk
    refine sD 10 1 aT10 [7,8,9] (fun f wq l hl hun hdn hS hd K' HK=>?_) ?_
    ·obtain⟨e7,e8,e9,-⟩:=hd;have e7:OwnAt b1 128 2 n4 (entCells p) (f 7) wq/\∀(j g:Nat) (u:Value),pv[j]?=some u->u.ownBlock=some g->((f 7)).ownBlock≠some g:=e7;have e8:∃g,(f 8)=.slice (some ⟨g,0,none⟩) 1 1/\((l 9)=false->wq.heap[g]?=some (.cells #[(f 7)] 87)):=e8;have e9:OwnAt b1 87 1 (k+1) (pv++[(f 7)]) (f 9) wq:=e9;clear e7 e8 e9;have HSS:=Jh hS;clear hS;go_simp
     exact HK.o _ _ _ rfl rfl (hq 10 (by decide) (by decide) l _ HSS.o) (rr _)
    refine sD 11 0 aT11 [7,8,9,10] (fun f wq l hl hun hdn hS hd K' HK=>?_) ?_
    ·obtain⟨e7,e8,e9,e10,-⟩:=hd;have e7:OwnAt b1 128 2 n4 (entCells p) (f 7) wq/\∀(j g:Nat) (u:Value),pv[j]?=some u->u.ownBlock=some g->((f 7)).ownBlock≠some g:=e7;have e8:∃g,(f 8)=.slice (some ⟨g,0,none⟩) 1 1/\((l 9)=false->wq.heap[g]?=some (.cells #[(f 7)] 87)):=e8;have e9:OwnAt b1 87 1 (k+1) (pv++[(f 7)]) (f 9) wq:=e9;have e10:f 10=_:=e10;clear e7 e8;obtain⟨A9,c9,hv9,hc9,hown9⟩:=e9
     have hblk:=hS.2.1 hl;obtain⟨_,_,_,r3,r4,r5⟩:=cells3 hblk;have HG:=Jh hblk;have HS:=Jh hS;clear hS hblk hown9;simp only[e10,hv9];go_simp;have hS:=HS.o
     exact HK.o undef _ _ (by simp only[hv9,e10];rfl) (show _=some (Obj.cells #[.slice A5 4 c5,f 9,.slice A7 4 c7] 59) by rw[hv9];exact set_same HG.o _) ⟨bS hS.1 (show w.heap.size<=bx from by have:=HLe.o;have:=HN.o;omega),fun hl=>absurd hl (by simp),fun hl=>own_tk (hS.2.2.1 (Bool.or_eq_false_iff.1 hl).2) (tk_set1 HG.o) (by decide),fun i q hi hq=>(hS.2.2.2.1 i q hi hq).elim fun v h=>⟨v,h.1,h.2.tk (tk_set1 HG.o) (by decide)⟩,hS.2.2.2.2.1.tk (tk_set1 HG.o) (by decide),hS.2.2.2.2.2.1.tk (tk_set1 HG.o) (by decide),⟨(set_other _ (show b1≠bx from by have:=HN.o;omega)).trans hS.2.2.2.2.2.2.1,(set_other _ (show b2≠bx from by have:=HN.o;omega)).trans hS.2.2.2.2.2.2.2⟩⟩ (tk_set1 HG.o)
    exact trivial
   case fin=>
    intro fo wz lo hl hall hS;have a7:OwnAt b1 128 2 n4 (entCells p) (fo 7) wz/\∀(j g:Nat) (u:Value),pv[j]?=some u->u.ownBlock=some g->((fo 7)).ownBlock≠some g:=hall 7 (by decide);have a8:∃g,(fo 8)=.slice (some ⟨g,0,none⟩) 1 1/\((lo 9)=false->wz.heap[g]?=some (.cells #[(fo 7)] 87)):=hall 8 (by decide);have a9:OwnAt b1 87 1 (k+1) (pv++[(fo 7)]) (fo 9) wz:=hall 9 (by decide)
    have a11:wz.heap[bx]?=some (.cells #[.slice A5 4 c5,(fo 9),.slice A7 4 c7] 59):=hall 11 (by decide);clear hall;obtain⟨A9,c9,hv7,hc9,ho9⟩:=a7.1;obtain⟨A8,c8,hv9,hc8,ho8⟩:=a9;obtain⟨g4,hv8,_⟩:=a8;have HO3:=Jh (show OwnAt b1 128 2 n4 (entCells p) (fo 7) wz from⟨A9,c9,hv7,hc9,ho9⟩);have HNW:=Jh a7.2;have HO8:=Jh ho8;rw[hv9] at a11;have H7:=Jh a11;have HS:=Jh hS;simp only[hv7,hv8,hv9]
    clear a7 a11 hv7 hv8 hv9 ho8 ho9 hS hq rr rb nt nt5 nt7 hl;obtain⟨WE,rfl⟩:=exE wz;go_wp2_with fail;go_roundw;case rel=>have hn4:=HN4.o;exact⟨k+1,by omega,by go_num,OfL.next HS.o.1 H7.o hc8 HO8.o HLEN.o HS.o.2.2.2.1 HDJ.o (hn4▸HO3.o) HPk.o HNW.o HS.o.2.2.2.2.1 HS.o.2.2.2.2.2.1,HS.o.2.2.2.2.2.2⟩
    case measure=>simp[intOf];omega
  obtain rfl:k=4:=by omega
  obtain⟨s0,s1,s2,_⟩:=cells3 HBK.o;obtain⟨_,_,_,z0,z1,z2⟩:=cells3 HIN.o.2;go_wp2_with fail
  exact bodyPost_ret (ret59a rfl rfl (set3 HIN.o.2)) rfl ⟨⟨_,_,_,pv,rfl,(OfL.mem HOK.o hcP HOW.o HEN.o HDJ.o HO2.o HO5'.out HNE.o HLe.o (bR wo)).tk59 (Tk.set3 HIN.o.2)⟩,bS (bS (bS HB.o (show w.heap.size<=b2 from by have:=HLe.o;have:=HN.o;omega)) (show w.heap.size<=b2 from by have:=HLe.o;have:=HN.o;omega)) (show w.heap.size<=b2 from by have:=HLe.o;have:=HN.o;omega)⟩
end Go.Proofs.YtnigadeohmlpiaaGreatDoor
namespace Go.Proofs.YtnigadeohmlpiaaGreatDoor
open Go.RowKit
attribute [local go_sem] Oper.semAt_some
theorem zero_rows{w:World}{A1 A2 A3:Option Addr}{c1 c2 c3:Nat}(h1:Row w 3 1 A1 4 (List.replicate 4 (.int .i64 0)))(h2:Row w 87 1 A2 4 (List.replicate 4 (.slice none 0 0)))(h3:Row w 3 1 A3 4 (List.replicate 4 (.int .i64 (-1)))):IsMem w (.slice A1 4 c1) (.slice A2 4 c2) (.slice A3 4 c3) Mm.zero:=by
 refine⟨Mm.zero_ok,⟨A1,c1,rfl,h1⟩,⟨A2,c2,_,rfl,h2,fun k p hk=>?_⟩,⟨A3,c3,rfl,h3⟩⟩;rcases k with _|_|_|_|k
 all_goals simp[Mm.zero] at hk
 all_goals
  subst hk;exact⟨none,0,rfl,Nat.le_refl _,Row.nil_ _ _ _ _⟩
theorem row_of_take{w:World}{g n:Nat}{e:TypeId}{cur:Array Value}{xs:List Value}(h:w.heap[g]?=some (.cells cur e))(ht:cur.toList.take (n*1)=xs)(hl:xs.length=n*1:=by rfl):Row w e 1 (some ⟨g,0,none⟩) n xs:=
 ⟨hl,fun _=>⟨g,0,cur,(0,0),rfl,h,fun j u hu=>by
  rw[<-ht,List.getElem?_take] at hu;split at hu
  ·simpa using hu
  cases hu⟩⟩
theorem new49_any(w:World):Calls Tryz.prog 49 #[.int .i64 4,.int .i64 4] w fun e w'=>(∃v1 v2 v3,e=.returned (.tuple #[.agg #[v1,v2,v3],.int .i64 0])/\IsMem w' v1 v2 v3 Mm.zero)/\Below w.heap.size w w':=by
 obtain⟨i3,hi3,hz0,hz1,hz2⟩:=info_parts int_info;obtain⟨i4,hi4,hy0,hy1,hy2⟩:=info_parts pend_info;obtain⟨b1,hb1⟩:=exE (w.heap.size);obtain⟨bx,hbx⟩:=exE (b1+1);obtain⟨X1,hX1⟩:=exE (w.alloc (.cells #[.slice none 0 0,.slice none 0 0,.slice none 0 0] 59));obtain⟨W0,hW0⟩:=exE (X1.alloc (.cells #[.slice none 0 0,.slice none 0 0,.slice none 0 0] 59))
 have s1:X1.heap.size=b1+1:=by rw[hX1,World.size_alloc,hb1]
 have k1:Below X1.heap.size X1 W0:=hW0▸bA (bR X1);have k0:Below w.heap.size w W0:=bT (hX1▸bA (bR w)) k1;have HT:=Jh (show W0.heap[b1]?=some (.cells #[.slice none 0 0,.slice none 0 0,.slice none 0 0] 59) from blk_below k1 (by rw[hX1,hb1];exact heap_alloc_new w _))
 have HXo:=Jh (show W0.heap[bx]?=some (.cells #[.slice none 0 0,.slice none 0 0,.slice none 0 0] 59) from by rw[hW0,hbx,<-s1];exact heap_alloc_new X1 _);have HB0:=Jh k0;have HLe:=Jh (Nat.le_of_eq hb1.symm);have HN:=Jh (show b1<bx from by omega)
 have hWW:W0=(w.alloc (.cells #[.slice none 0 0,.slice none 0 0,.slice none 0 0] 59)).alloc (.cells #[.slice none 0 0,.slice none 0 0,.slice none 0 0] 59):=by rw[hW0,hX1]
 clear s1 k1 k0 hX1 hW0;go_enter Tryz.func49,Tryz.ntmps49;go_wp2_with fail;rw[<-hWW,<-hb1,<-hbx];clear hWW hb1 hbx
 go_loopw [7] (fun v wr=>∃(k:Nat) (vP vR:Value),k<=4/\v=.int .i64 k/\Below w.heap.size w wr/\wr.heap[b1]?=some (.cells #[.slice none 0 0,.slice none 0 0,.slice none 0 0] 59)/\wr.heap[bx]?=some (.cells #[.slice none 0 0,vP,vR] 59)/\wr.ownsRow (b1+1) 87 1 vP k (List.replicate k (.slice none 0 0))/\wr.ownsRow (b1+1) 3 1 vR k (List.replicate k (.int .i64 (-1)))) (fun v _=>4-(intOf v).toNat)
 case atStart=>exact⟨0,_,_,by omega,rfl,HB0.o,HT.o,HXo.o,World.ownsRow_nil _ _ _ _,World.ownsRow_nil _ _ _ _⟩
 case round=>
  obtain⟨k,vP,vR,hk,rfl,hB,hT,hX,hP,hR⟩:=hrel;obtain⟨wo,rfl⟩:=exE wr;have HB:=Jh hB;have HTo:=Jh hT;have HXx:=Jh hX;have HPo:=Jh hP;have HRo:=Jh hR;clear hB hT hX hP hR;obtain⟨AP,cP,rfl,_,_⟩:=own_slice HPo.o;obtain⟨AR,cR,rfl,_,_⟩:=own_slice HRo.o;by_cases hlt:k<4
  ·have hltb:decide ((k:Int)<4)=true:=by simp;omega
   have HS0:=Jh (show b1+1<=wo.heap.size from by have:=blk_lt HXx.o;have:=HN.o;omega);have HNw:=Jh (heap_alloc_new wo (.cells #[.slice none 0 0] 87));have kA:Below wo.heap.size wo (wo.alloc (.cells #[.slice none 0 0] 87)):=bA (bR wo);have HOl:=Jh (own_tk (T:=[]) HPo.o (Tk.below kA) (by decide));have HRl:=Jh (own_tk (T:=[]) HRo.o (Tk.below kA) (by decide));have HXl:=Jh (blk_below kA HXx.o)
   have HTl:=Jh (blk_below kA HTo.o);have HBl:=Jh (bT HB.o kA);obtain⟨q0,q1,q2,_⟩:=cells3 HXx.o;clear kA;go_upto_region 8 with(
    at_builtin
    refine wpList_append_rd _ rfl (.tmp 30) (.tmp 31) 57 rfl (b1+1) 87 i4 _ 1 24 Tryz.underlying57 hi4 hy0 hy1 hy2 rfl (by decide) (.slice AP k cP) k (List.replicate k (.slice none 0 0)) rfl HOl.o (some ⟨wo.heap.size,0,none⟩) 1 1 [.slice none 0 0] rfl ⟨rfl,fun _=>⟨wo.heap.size,0,rfl,blk_lt HNw.o,fun j u hu=>one_cell HNw.o hu⟩⟩ (by simp[Value.oneCell']) (by unfold maxLen;omega) (by omega) (by have:=HS0.o;simp;omega) ?_
    intro v5 w5 hown5 hg5;have htk:=tk_grown HOl.o hg5;obtain⟨A5,c5,rfl,_,_⟩:=own_slice hown5;have HO5:=Jh (show w5.ownsRow (b1+1) 87 1 (.slice A5 (k+1) c5) (k+1) (List.replicate (k+1) (.slice none 0 0)) from by rw[List.replicate_succ'];exact hown5);have HR5:=Jh (own_tk HRl.o htk (by decide));have HX5:=Jh (htk.at_ (by decide) HXl.o);have HT5:=Jh (htk.at_ (by decide) HTl.o)
    have HB5:=Jh (HBl.o.grown hg5 HBl.o.size (fun r e=>by have:=(HOl.o.lt r e).1;have:=HLe.o;omega));obtain⟨p0,p1,p2,f0,f1,f2⟩:=cells3 HX5.o;clear hown5 hg5 htk q0 q1 q2)
   obtain⟨W6,hW6⟩:=exE (w5.setCell ⟨bx,1,none⟩ (.slice A5 (k+1) c5));have hne:b1≠bx:=by have:=HN.o;omega
   have HX6:=Jh (show W6.heap[bx]?=some (.cells #[.slice none 0 0,.slice A5 (k+1) c5,.slice AR k cR] 59) from hW6▸set_same HX5.o _);have HT6:=Jh (show W6.heap[b1]?=_ from hW6▸(set_other _ hne).trans HT5.o);have HP6:=Jh (show W6.ownsRow (b1+1) 87 1 (.slice A5 (k+1) c5) (k+1) (List.replicate (k+1) (.slice none 0 0)) from hW6▸own_tk HO5.o (tk_set1 HX5.o) (by decide))
   have HR6:=Jh (show W6.ownsRow (b1+1) 3 1 (.slice AR k cR) k (List.replicate k (.int .i64 (-1))) from hW6▸own_tk HR5.o (tk_set1 HX5.o) (by decide));have HB6:=Jh (show Below w.heap.size w W6 from hW6▸bS HB5.o (show w.heap.size<=bx from by have:=HLe.o;have:=HN.o;omega));rw[<-hW6];have HS6:=Jh (show b1+1<=W6.heap.size from by have:=blk_lt HX6.o;have:=HN.o;omega)
   have HNw6:=Jh (heap_alloc_new W6 (.cells #[.int .i64 (-1)] 3));have kA:Below W6.heap.size W6 (W6.alloc (.cells #[.int .i64 (-1)] 3)):=bA (bR W6);have HOl6:=Jh (own_tk (T:=[]) HR6.o (Tk.below kA) (by decide));have HPl6:=Jh (own_tk (T:=[]) HP6.o (Tk.below kA) (by decide));have HXl6:=Jh (blk_below kA HX6.o);have HTl6:=Jh (blk_below kA HT6.o);have HBl6:=Jh (bT HB6.o kA)
   clear hW6 p0 p1 p2 f0 f1 f2 kA hne;obtain⟨q0,q1,q2,_⟩:=cells3 HX6.o;go_wp2_with (
    at_builtin
    refine wpList_append_rd _ rfl (.tmp 35) (.tmp 36) 32 rfl (b1+1) 3 i3 _ 1 8 Tryz.underlying32 hi3 hz0 hz1 hz2 rfl (by decide) (.slice AR k cR) k (List.replicate k (.int .i64 (-1))) rfl HOl6.o (some ⟨W6.heap.size,0,none⟩) 1 1 [.int .i64 (-1)] rfl ⟨rfl,fun _=>⟨W6.heap.size,0,rfl,blk_lt HNw6.o,fun j u hu=>one_cell HNw6.o hu⟩⟩ (by simp[Value.oneCell']) (by unfold maxLen;omega) (by omega) (by have:=HS6.o;simp;omega) ?_
    intro v7 w7 hown7 hg7;have htk:=tk_grown HOl6.o hg7;obtain⟨A7,c7,rfl,_,_⟩:=own_slice hown7;have HO7:=Jh (show w7.ownsRow (b1+1) 3 1 (.slice A7 (k+1) c7) (k+1) (List.replicate (k+1) (.int .i64 (-1))) from by rw[List.replicate_succ'];exact hown7);have HP7:=Jh (own_tk HPl6.o htk (by decide));have HX7:=Jh (htk.at_ (by decide) HXl6.o);have HT7:=Jh (htk.at_ (by decide) HTl6.o)
    have HB7:=Jh (HBl6.o.grown hg7 HBl6.o.size (fun r e=>by have:=(HOl6.o.lt r e).1;have:=HLe.o;omega));obtain⟨p0,p1,p2,f0,f1,f2⟩:=cells3 HX7.o;clear hown7 hg7 htk q0 q1 q2)
   go_roundw;case rel=>exact⟨k+1,_,_,by omega,by go_num,bS HB7.o (show w.heap.size<=bx from by have:=HLe.o;have:=HN.o;omega),(set_other _ (show b1≠bx from by have:=HN.o;omega)).trans HT7.o,set_same HX7.o _,own_tk HP7.o (tk_set1 HX7.o) (by decide),own_tk HO7.o (tk_set1 HX7.o) (by decide)⟩
   case measure=>simp[intOf];omega
  have hk4:k=4:=by omega
  have hPo:=HPo.o;have hRo:=HRo.o;have hXx:=HXx.o;rw[hk4] at hPo hRo hXx;obtain⟨gR,curR,e1,_,hgR,_,htR,_,_⟩:=own_open hRo (by decide);subst e1;have HX4:=Jh hXx;have HPP:=Jh (Row.of_own hPo);have HK4:=Jh hk4;obtain⟨B2,hB2⟩:=exE (wo.heap.size);have HB2:=Jh (Nat.le_of_eq hB2);have HB2':=Jh (show w.heap.size<=B2 from hB2▸HB.o.size);have HGR:=Jh (show gR<B2 from hB2▸blk_lt hgR)
  have HL2:=Jh (show w.heap.size<=bx from by have:=HLe.o;have:=HN.o;omega);have HRR:=Jh hgR;have HTR:=Jh htR;have hlb4:decide ((k:Int)<4)=false:=by simp;omega
  clear hB2 hgR htR hPo hRo hXx hk4 hlt hk HXx HPo HRo;go_upto_region 10 with fail
  go_loopw [8] (fun v wr=>∃(k:Nat) (vW:Value),k<=4/\v=.int .i64 k/\Below w.heap.size w wr/\wr.heap[b1]?=some (.cells #[.slice none 0 0,.slice none 0 0,.slice none 0 0] 59)/\wr.heap[bx]?=some (.cells #[vW,.slice AP 4 cP,.slice (some ⟨gR,0,none⟩) 4 cR] 59)/\wr.ownsRow B2 3 1 vW k (List.replicate k (.int .i64 0))/\Row wr 87 1 AP 4 (List.replicate 4 (.slice none 0 0))/\wr.heap[gR]?=some (.cells curR 3)/\B2<=wr.heap.size) (fun v _=>4-(intOf v).toNat)
  case atStart=>exact⟨0,_,by omega,rfl,HB.o,HTo.o,HX4.o,World.ownsRow_nil _ _ _ _,HPP.o,HRR.o,HB2.o⟩
  case round=>
   obtain⟨j,vW,hj,rfl,hB,hT,hX,hW,hP,hR,hS⟩:=hrel;obtain⟨wn,rfl⟩:=exE wr;have JB:=Jh hB;have JT:=Jh hT;have JX:=Jh hX;have JW:=Jh hW;have JP:=Jh hP;have JR:=Jh hR;have JS:=Jh hS;clear hB hT hX hW hP hR hS;obtain⟨AW,cW,rfl,_,_⟩:=own_slice JW.o;by_cases hlt:j<4
   ·have hltb:decide ((j:Int)<4)=true:=by simp;omega
    have HNw:=Jh (heap_alloc_new wn (.cells #[.int .i64 0] 3));have kA:Below wn.heap.size wn (wn.alloc (.cells #[.int .i64 0] 3)):=bA (bR wn);have HOl:=Jh (own_tk (T:=[]) JW.o (Tk.below kA) (by decide));have HXl:=Jh (blk_below kA JX.o);have HTl:=Jh (blk_below kA JT.o);have HRl:=Jh (blk_below kA JR.o);have HPl:=Jh (JP.o.below kA);have HBl:=Jh (bT JB.o kA);have HSl:=Jh (Nat.le_trans JS.o kA.size)
    obtain⟨q0,q1,q2,_⟩:=cells3 JX.o;clear kA;go_upto_region 12 with fail
    go_wp2_with (
     at_builtin
     refine wpList_append_rd _ rfl (.tmp 45) (.tmp 46) 32 rfl B2 3 i3 _ 1 8 Tryz.underlying32 hi3 hz0 hz1 hz2 rfl (by decide) (.slice AW j cW) j (List.replicate j (.int .i64 0)) rfl HOl.o (some ⟨wn.heap.size,0,none⟩) 1 1 [.int .i64 0] rfl ⟨rfl,fun _=>⟨wn.heap.size,0,rfl,blk_lt HNw.o,fun j u hu=>one_cell HNw.o hu⟩⟩ (by simp[Value.oneCell']) (by unfold maxLen;omega) (by omega) HSl.o ?_
     intro v5 w5 hown5 hg5;have htk:=tk_grown HOl.o hg5;obtain⟨A5,c5,rfl,_,_⟩:=own_slice hown5;have HO5:=Jh (show w5.ownsRow B2 3 1 (.slice A5 (j+1) c5) (j+1) (List.replicate (j+1) (.int .i64 0)) from by rw[List.replicate_succ'];exact hown5);have HX5:=Jh (htk.at_ (by decide) HXl.o);have HT5:=Jh (htk.at_ (by decide) HTl.o);have HP5:=Jh (HPl.o.tk htk (by decide))
     have HR5:=Jh ((hg5.block gR (blk_lt HRl.o) (fun e=>by have:=(HOl.o.lt gR e.symm).1;have:=HGR.o;omega)).trans HRl.o);have HB5:=Jh (HBl.o.grown hg5 HBl.o.size (fun r e=>by have:=(HOl.o.lt r e).1;have:=HB2'.out;omega));have HS5:=Jh (Nat.le_trans HSl.o hg5.size);obtain⟨p0,p1,p2,f0,f1,f2⟩:=cells3 HX5.o;clear hown5 hg5 htk q0 q1 q2)
    go_roundw;case rel=>exact⟨j+1,_,by omega,by go_num,bS HB5.o HL2.o,(set_other _ (show b1≠bx from by have:=HN.o;omega)).trans HT5.o,set_same HX5.o _,own_tk HO5.o (tk_set1 HX5.o) (by decide),HP5.o.tk (tk_set1 HX5.o) (by decide),(tk_set1 HX5.o).at_ (by decide) HR5.o,by simp[World.setCell];exact HS5.o⟩
    case measure=>simp[intOf];omega
   obtain rfl:j=4:=by omega
   obtain⟨q0,q1,q2,_⟩:=cells3 JX.o;obtain⟨p0,p1,p2,f0,f1,f2⟩:=cells3 JT.o;go_wp2_with fail;have HK:=Tk.set3 (x':=.slice AW 4 cW) (y':=.slice AP 4 cP) (z':=.slice (some ⟨gR,0,none⟩) 4 cR) JT.o
   exact bodyPost_ret (ret59 rfl rfl (set3 JT.o)) rfl ⟨⟨_,_,_,rfl,zero_rows ((Row.of_own JW.o).tk HK (by decide)) (JP.o.tk HK (by decide)) ((row_of_take JR.o HTR.o).tk HK (by decide))⟩,bS (bS (bS JB.o HLe.o) HLe.o) HLe.o⟩
end Go.Proofs.YtnigadeohmlpiaaGreatDoor
namespace Go.Proofs.YtnigadeohmlpiaaGreatDoor
open Go.RowKit
theorem tmod_small(z:Int)(h1:-4294967296<z)(h2:z<4294967296):Int.tmod z 4294967296=z:=by
 by_cases h:0<=z
 ·exact Int.tmod_eq_of_lt h h2
 have e:z=-(-z):=by omega
 rw[e,Int.neg_tmod,Int.tmod_eq_of_lt (by omega) (by omega)]
theorem word105_any(z:Int)(hz:I32 z)(w:World):Calls Tryz.prog 105 #[.int .i64 z] w fun e w'=>e=.returned (.int .i64 (if z<0 then z+4294967296 else z))/\w=w':=by
 obtain⟨h1,h2⟩:=hz;have hm:=tmod_small z (by omega) (by omega);have hw:IntKind.i64.wrap z=z:=IntWalk.i64_in _ (by omega);by_cases h:z<0
 ·have hb:decide (z<0)=true:=by simpa using h
  have hw2:IntKind.i64.wrap (z+4294967296)=z+4294967296:=IntWalk.i64_in _ (by omega);rw[if_pos h];go_enter Tryz.func105,Tryz.ntmps105;go_wp2_with fail;go_ret;exact⟨rfl,rfl⟩
 have hb:decide (z<0)=false:=by simpa using h
 rw[if_neg h];go_enter Tryz.func105,Tryz.ntmps105;go_wp2_with fail;go_ret;exact⟨rfl,rfl⟩
theorem wrap84_any(z:Int)(hz:I32 z)(w:World):Calls Tryz.prog 84 #[.int .i64 z] w fun e w'=>e=.returned (.int .i64 z)/\w=w':=by
 have HW:=Jh (word105_any z hz w);obtain⟨h1,h2⟩:=hz;by_cases h:z<0
 ·rw[if_pos h] at HW;have hb:decide (z+4294967296>=2147483648)=true:=by simp;omega
  have hb':decide (2147483648<=z+4294967296)=true:=by simp;omega
  have hw2:IntKind.i64.wrap (z+4294967296-4294967296)=z:=by rw[show z+4294967296-4294967296=z by omega];exact IntWalk.i64_in _ (by omega)
  go_enter Tryz.func84,Tryz.ntmps84;go_wp2_with fail;refine HW.o.mono ?_;rintro e w2 ⟨rfl,rfl⟩;go_wp2_with fail;go_ret;exact⟨rfl,rfl⟩
 rw[if_neg h] at HW;have hb:decide (z>=2147483648)=false:=by simp;omega
 have hb':decide (2147483648<=z)=false:=by simp;omega
 go_enter Tryz.func84,Tryz.ntmps84;go_wp2_with fail;refine HW.o.mono ?_;rintro e w2 ⟨rfl,rfl⟩;go_wp2_with fail;go_ret;exact⟨rfl,rfl⟩
end Go.Proofs.YtnigadeohmlpiaaGreatDoor
namespace Go.Proofs.YtnigadeohmlpiaaGreatDoor
open Go.RowKit
attribute [local go_sem] Oper.semAt_some
theorem OwnMem.low{B B':Nat}{w:World}{x1 x2 x3:Value}{pv:List Value}{M:Mm}(h:OwnMem B w x1 x2 x3 pv M)(hb:B'<=B):OwnMem B' w x1 x2 x3 pv M:=
 ⟨h.ok,h.ws.low hb,h.ps.low hb,h.rs.low hb,h.ne,fun k p hp=>(h.en k p hp).elim fun v hv=>⟨v,hv.1,hv.2.low hb⟩,h.dj⟩
theorem goes81_any(v1 v2 v3:Value)(M:Mm)(h a:Nat)(z:Int)(w:World)(hm:IsMem w v1 v2 v3 M)(ha:a<4)(hz:I32 z):
  Calls Tryz.prog 81 #[.agg #[v1,v2,v3],.int .i64 h,.int .i64 a,.int .i64 z] w fun e w'=>OwnIsM w.heap.size ⟨M.words.set a z,M.pend⟩ e w'/\Below w.heap.size w w':=by
 have HM:=Jh hm;obtain⟨A1,c1,rfl,_⟩:=hm.ws;obtain⟨A2,c2,p0,rfl,_⟩:=hm.ps;obtain⟨A3,c3,rfl,_⟩:=hm.rs;obtain⟨b4,hb4⟩:=exE (w.heap.size);obtain⟨b8,hb8⟩:=exE (b4+1);obtain⟨X1,hX1⟩:=exE (w.alloc (.cells #[.slice A1 4 c1,.slice A2 4 c2,.slice A3 4 c3] 59));obtain⟨W0,hW0⟩:=exE (X1.alloc (.cells #[.slice none 0 0,.slice none 0 0,.slice none 0 0] 59))
 have s1:X1.heap.size=b4+1:=by rw[hX1,World.size_alloc,hb4]
 have k1:Below X1.heap.size X1 W0:=hW0▸bA (bR X1);have k0:Below w.heap.size w W0:=bT (hX1▸bA (bR w)) k1;have H4:=Jh (show W0.heap[b4]?=some (.cells #[.slice A1 4 c1,.slice A2 4 c2,.slice A3 4 c3] 59) from blk_below k1 (by rw[hX1,hb4];exact heap_alloc_new w _))
 have H8:=Jh (show W0.heap[b8]?=some (.cells #[.slice none 0 0,.slice none 0 0,.slice none 0 0] 59) from by rw[hW0,hb8,<-s1];exact heap_alloc_new X1 _);have HB0:=Jh k0;have HL8:=Jh (show w.heap.size<=b8 by omega);have HOf:=Jh (own83_any _ _ _ M W0 (hm.sees (Below.sees k0)))
 have hWW:W0=(w.alloc (.cells #[.slice A1 4 c1,.slice A2 4 c2,.slice A3 4 c3] 59)).alloc (.cells #[.slice none 0 0,.slice none 0 0,.slice none 0 0] 59):=by rw[hW0,hX1]
 have HZ:=Jh hz;clear hm s1 k1 k0 hX1 hW0 hz;obtain⟨r0,r1,r2,_⟩:=cells3 H4.o;go_enter Tryz.func81,Tryz.ntmps81;go_wp2_with fail;rw[<-hb4,<-hb8,<-hWW];clear hb4 hb8 hWW;refine HOf.o.mono ?_;rintro e w2 ⟨⟨x1,x2,x3,pv,rfl,hown⟩,hb2⟩;obtain⟨Y1,e1,hY1,he1,oW⟩:=hown.ws;obtain⟨Y2,e2,hY2,_⟩:=hown.ps;obtain⟨Y3,e3,hY3,he3,oR⟩:=hown.rs;subst hY1;subst hY2;subst hY3
 obtain⟨gW,cW,eg,hgB,hgW,hcs,_⟩:=own_open oW (by omega);subst eg;obtain⟨bo,hbo⟩:=exE (w2.heap.size);obtain⟨W3,hW3⟩:=exE (w2.alloc (.cells #[.slice (some ⟨gW,0,none⟩) 4 e1,.slice Y2 4 e2,.slice Y3 4 e3] 59));have k3:Below w2.heap.size w2 W3:=hW3▸bA (bR w2)
 have HBo:=Jh (show W3.heap[bo]?=some (.cells #[.slice (some ⟨gW,0,none⟩) 4 e1,.slice Y2 4 e2,.slice Y3 4 e3] 59) by rw[hW3,hbo];exact heap_alloc_new w2 _);have H83:=Jh (blk_below k3 (blk_below hb2 H8.o));have HB3:=Jh (bT (bT HB0.o hb2) k3);have hne:(Value.slice Y3 4 e3).ownBlock≠some gW:=fun e=>hown.ne e.symm;have HGo:=Jh (hown.goes (z:=z) k3 ha HZ.o hne);have hg3:=blk_below k3 hgW
 have HG3:=Jh hg3;have hc3:∃u,W3.cell? ⟨gW,a,none⟩=some u:=by rw[cell_of_row W3 gW a _ _ _ hg3];exact⟨_,Array.getElem?_eq_getElem (by omega)⟩
 obtain⟨u3,hc3⟩:=hc3;have hf3:=not_frozen (i:=a) hg3;obtain⟨p0,p1,p2,_⟩:=cells3 HBo.o;have ha4:(a:Int)<4:=by omega
 have HGB:=Jh (show w.heap.size<=gW from by have:=HB0.o.size;omega);clear r0 r1 r2 hown oW oR hgB hgW hcs k3 hne hg3 hb2;go_upto_region 2 with fail
 rw[<-hW3,<-hbo];clear hW3 hbo;obtain⟨W4,hW4⟩:=exE (W3.setCell ⟨gW,a,none⟩ (.int .i64 z));go_upto_region 3 with fail
 rw[<-hW4];rw[<-hW4] at HGo;have hgo:bo≠gW:=fun e=>by
  have h1:=HBo.o;rw[e,HG3.o] at h1;injection h1 with h1
  injection h1 with _ h2
  cases h2
 have hg8:b8≠gW:=fun e=>by
  have h1:=H83.o;rw[e,HG3.o] at h1;injection h1 with h1
  injection h1 with _ h2
  cases h2
 have HBo4:=Jh (show W4.heap[bo]?=some (.cells #[.slice (some ⟨gW,0,none⟩) 4 e1,.slice Y2 4 e2,.slice Y3 4 e3] 59) from hW4▸(set_other _ hgo).trans HBo.o);have H84:=Jh (show W4.heap[b8]?=some (.cells #[.slice none 0 0,.slice none 0 0,.slice none 0 0] 59) from hW4▸(set_other _ hg8).trans H83.o);have HB4:=Jh (show Below w.heap.size w W4 from hW4▸bS HB3.o HGB.o);clear hW4 hc3 hf3 p0 p1 p2 hgo hg8
 obtain⟨p0,p1,p2,_⟩:=cells3 HBo4.o;obtain⟨A3',c3',e3',_,oR⟩:=HGo.o.rs;injection e3' with e4 _ e5
 subst e4;subst e5;have HRR:=Jh (Row.of_own oR);clear oR;go_upto_region 4 with fail
 go_loopw [10] (fun v wr=>∃k:Nat,k<=4/\v=.int .i64 k/\wr=W4) (fun v _=>4-(intOf v).toNat);case atStart=>exact⟨0,by omega,rfl,rfl⟩
 case round=>
  obtain⟨k,hk,rfl,rfl⟩:=hrel;by_cases hlt:k<4
  ·have hltb:decide ((k:Int)<4)=true:=by simp;omega
   obtain⟨g3,o3,u,rfl,hu,hcu⟩:=HRR.o.rd.at1 hlt;obtain rfl:u=.int .i64 (-1):=by have h1:=List.mem_of_getElem? hu;simpa using h1
   have hk0:decide ((k:Int)<0)=false:=by simp
   have hk4:(k:Int)<4:=by omega
   have hna:((-1:Int)==(a:Int))=false:=by simp
   by_cases hkh:k=h
   ·have hkb:((k:Int)==(h:Int))=true:=by simp;omega
    go_wp2_with fail;go_roundw;case rel=>exact⟨k+1,by omega,by go_num,trivial⟩
    case measure=>simp[intOf];omega
   have hkb:((k:Int)==(h:Int))=false:=by simp;omega
   go_wp2_with fail;go_roundw;case rel=>exact⟨k+1,by omega,by go_num,trivial⟩
   case measure=>simp[intOf];omega
  have hltb:decide ((k:Int)<4)=false:=by simp;omega
  obtain⟨s0,s1,s2,s3,s4,s5⟩:=cells3 H84.o;go_wp2_with fail;exact bodyPost_ret (ret59a rfl rfl (set3 H84.o)) rfl ⟨⟨_,_,_,pv,rfl,(HGo.o.tk59 (Tk.set3 H84.o)).low (by have:=HB0.o.size;omega)⟩,bS (bS (bS HB4.o HL8.o) HL8.o) HL8.o⟩
end Go.Proofs.YtnigadeohmlpiaaGreatDoor
