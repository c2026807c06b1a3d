/- Contracts and words: whether a store to a word is ahead; a drain that may be, or not; Words for a slice of entries told from its end; what a hart loads; a range over a function, where the iterator tells what holds of each thing that it hands out in the world at hand. No condition of ours. -/
import Derived.Test.YtnigadeohmlpiaaGreatDoorC07
import Derived.RangeFuncNested
import Derived.RangeFuncBound
import Derived.RangeFuncCalls
import Derived.RangeFuncLeaves
import Derived.RangeFuncWrites
import Derived.Shelf.Abstract
import Derived.Shelf.RegionOpen
import Derived.OwnWalkIn
import Derived.TacticsInMore
import Derived.LoopNIn
import Derived.LoopIn
set_option maxHeartbeats 32000000
set_option maxRecDepth 100000
namespace Go.Proofs.YtnigadeohmlpiaaGreatDoor
open Go.RowKit
theorem sameAt_any(b:Nat)(a y n:Int)(w:World)(hb:w.heap[b]?=some (.cells #[.int .i64 a] 3)):
  Calls Tryz.prog 109 #[.agg #[.int .i64 y,.int .i64 n],.pointer (some ⟨b,0,none⟩)] w fun e w'=>e=.returned (.bool (y==a))/\Below w.heap.size w w':=by
 have hn:=heap_alloc_new w (.cells #[.int .i64 y,.int .i64 n] 128);obtain⟨r0,_⟩:=cell1 (blk_below (bA (o:=.cells #[.int .i64 y,.int .i64 n] 128) (bR w)) hb);obtain⟨s0,s1,_⟩:=cells2 hn;clear hn hb;go_enter Tryz.func109,Tryz.ntmps109;go_wp2_with fail;go_ret;exact⟨rfl,bA (bR w)⟩
def anyAt(p:List (Int×Int))(a:Int):Bool:=p.any fun x=>x.1==a
def IdxIs(p:List (Int×Int))(a:Int)(e:Ending):Prop:=∃r:Int,e=.returned (.int .i64 r)/\decide (0<=r)=anyAt p a
theorem Rd.ent{w:World}{A:Option Addr}{n k:Nat}{p:List (Int×Int)}(h:Rd w 2 A n (entCells p))(hn:n=p.length)(hk:k<n):
  ∃b off x,A=some ⟨b,off,none⟩/\p[k]?=some x/\w.cell? ⟨b,off+k*2,none⟩=some (.int .i64 x.1)/\w.cell? ⟨b,off+k*2+1,none⟩=some (.int .i64 x.2):=by
 obtain⟨b,off,e,_,hc⟩:=h.2 (by omega);have hx:p[k]?=some p[k]:=List.getElem?_eq_getElem (by omega);obtain⟨h1,h2⟩:=ent_at p k _ hx;exact⟨b,off,_,e,hx,hc _ _ h1,hc _ _ h2⟩
theorem indexAt_any(A:Option Addr)(n c b:Nat)(p:List (Int×Int))(a:Int)(w:World)(hr:Rd w 2 A n (entCells p))(hn:n=p.length)(hm:n<=1000000)(hb:w.heap[b]?=some (.cells #[.int .i64 a] 3)):
  Calls Tryz.prog 130 #[.slice A n c,.func (.func 109) #[] #[.pointer (some ⟨b,0,none⟩)]] w fun e w'=>IdxIs p a e/\Below w.heap.size w w':=by
 have HR:=Jh hr;have HN:=Jh hn;have HB:=Jh hb;clear hr hn hb;go_enter Tryz.func130,Tryz.ntmps130;go_wp2_with fail;go_loopw [8] (fun v wr=>∃k:Nat,k<=n/\v=.int .i64 k/\anyAt (p.take k) a=false/\Below w.heap.size w wr) (fun v _=>n-(intOf v).toNat);case atStart=>exact⟨0,by omega,rfl,rfl,bR w⟩
 case round=>
  obtain⟨k,hk,rfl,hall,hbw⟩:=hrel;have HA:=Jh hall;have HBW:=Jh hbw;clear hall hbw;by_cases hlt:k<n
  ·obtain⟨g,off,x,hA,hx,hc0,hc1⟩:=(HR.o.below HBW.o).ent HN.o hlt;have HS:=Jh (fun wx hb=>sameAt_any b a x.1 x.2 wx hb);have HX:=Jh hx;obtain⟨x1,hx1⟩:=exE (x.1);obtain⟨x2,hx2⟩:=exE (x.2);rw[<-hx1] at hc0 HS;rw[<-hx2] at hc1 HS;have HX1:=Jh hx1;have HBB:=Jh (blk_below HBW.o HB.o);have hlb:decide ((k:Int)<(n:Int))=true:=by simp;omega
   clear hx hx1 hx2;subst hA;go_wp2_with fail;refine(HS.o _ HBB.o).mono ?_;rintro e w2 ⟨rfl,hb2⟩;have HB2:=Jh (bT HBW.o hb2);clear hb2 hc0 hc1;by_cases hxa:x1=a
   ·have hxb:(x1==a)=true:=by simpa using hxa
    have HFin:=Jh (show decide ((0:Int)<=(k:Int))=anyAt p a from by rw[decide_eq_true (by omega)];exact(List.any_eq_true.2 ⟨x,List.mem_of_getElem? HX.o,by rw[<-HX1.o];exact hxb⟩).symm);clear hxa;go_wp2_with fail;go_ret;exact⟨⟨_,rfl,HFin.o⟩,HB2.o⟩
   have hxb:(x1==a)=false:=by simpa using hxa
   have HFin:=Jh (show anyAt (p.take (k+1)) a=false from by have h1:=HA.o;unfold anyAt at*;rw[List.take_add_one,HX.o,List.any_append,h1];rw[HX1.o] at hxb;simpa using hxb);clear hxa;go_wp2_with fail;go_roundw;case rel=>exact⟨k+1,by omega,by go_num,HFin.o,HB2.o⟩
   case measure=>simp[intOf];omega
  have hlb:decide ((k:Int)<(n:Int))=false:=by simp;omega
  have HFin:=Jh (show decide ((0:Int)<=-1)=anyAt p a from by have h1:=HA.o;rw[List.take_of_length_le (by have:=HN.o;omega)] at h1;rw[h1];rfl);go_wp2_with fail;go_ret;exact⟨⟨_,rfl,HFin.o⟩,HBW.o⟩
theorem containsAt_any(A:Option Addr)(n c b:Nat)(p:List (Int×Int))(a:Int)(w:World)(hr:Rd w 2 A n (entCells p))(hn:n=p.length)(hm:n<=1000000)(hb:w.heap[b]?=some (.cells #[.int .i64 a] 3)):
  Calls Tryz.prog 108 #[.slice A n c,.func (.func 109) #[] #[.pointer (some ⟨b,0,none⟩)]] w fun e w'=>e=.returned (.bool (anyAt p a))/\Below w.heap.size w w':=by
 have HI:=Jh (indexAt_any A n c b p a w hr hn hm hb);clear hr hn hb;go_enter Tryz.func108,Tryz.ntmps108;go_wp2_with fail;refine HI.o.mono ?_;rintro e w1 ⟨⟨r,rfl,hr⟩,hb1⟩;have HH:=Jh hr;have HB:=Jh hb1;clear hr hb1;go_wp2_with fail;go_ret;exact⟨ret_bool HH.o,HB.o⟩
end Go.Proofs.YtnigadeohmlpiaaGreatDoor
namespace Go.Proofs.YtnigadeohmlpiaaGreatDoor
open Go.RowKit
theorem Rd.take_ent{w:World}{A:Option Addr}{n k:Nat}{p:List (Int×Int)}(h:Rd w 2 A n (entCells p))(hk:k<=n):Rd w 2 A k (entCells (p.take k)):=by
 have hl:=h.1;rw[ent_len] at hl;refine⟨by rw[ent_len,List.length_take];omega,fun hk0=>?_⟩;obtain⟨b,off,e,hb,hc⟩:=h.2 (by omega);refine⟨b,off,e,hb,fun j u hu=>hc j u ?_⟩;rw[<-ent_take,List.getElem?_take] at hu;split at hu
 ·exact hu
 cases hu
def Mm.drainZ(M:Mm)(h k:Int):Option Mm:=if 0<=h/\h<4/\0<=k then M.drain h.toNat k.toNat else none
def DrainIs(o:Option Mm)(e:Ending)(w:World):Prop:=
 match o with
 |some M'=>∃u1 u2 u3,e=.returned (.tuple #[.agg #[u1,u2,u3],.int .i64 0])/\IsMem w u1 u2 u3 M'
 |none=>∃er:Int,er≠0/\e=.returned (.tuple #[.agg #[.slice none 0 0,.slice none 0 0,.slice none 0 0],.int .i64 er])
theorem drainTop_any(v1 v2 v3:Value)(M:Mm)(h k:Int)(w:World)(hm:IsMem w v1 v2 v3 M)(hh1:-9223372036854775808<=h)(hh2:h<=9223372036854775807)(hk1:-9223372036854775808<=k)(hk2:k<=9223372036854775807):
  Calls Tryz.prog 86 #[.agg #[v1,v2,v3],.int .i64 h,.int .i64 k] w fun e w'=>DrainIs (M.drainZ h k) e w'/\Below w.heap.size w w':=by
 obtain⟨A1,c1,rfl,hr1⟩:=hm.ws;obtain⟨A2,c2,p0,rfl,hr2,hp⟩:=hm.ps;obtain⟨A3,c3,rfl,hr3⟩:=hm.rs;have HM:=Jh hm;have HR2:=Jh hr2;have HPP:=Jh hp;have hbx:=heap_alloc_new w (.cells #[.slice A1 4 c1,.slice A2 4 c2,.slice A3 4 c3] 59);obtain⟨b3,hb3⟩:=exE (w.heap.size);obtain⟨b6,hb6⟩:=exE (b3+1)
 obtain⟨W0,hW0⟩:=exE ((w.alloc (.cells #[.slice A1 4 c1,.slice A2 4 c2,.slice A3 4 c3] 59)).alloc (.cells #[.slice none 0 0,.slice none 0 0,.slice none 0 0] 59));have hb0:Below w.heap.size w W0:=hW0▸bA (bA (bR w));have h3:W0.heap[b3]?=some (.cells #[.slice A1 4 c1,.slice A2 4 c2,.slice A3 4 c3] 59):=by rw[hW0,hb3];exact blk_below (bA (bR _)) hbx
 have h6:W0.heap[b6]?=some (.cells #[.slice none 0 0,.slice none 0 0,.slice none 0 0] 59):=by have:=heap_alloc_new (w.alloc (.cells #[.slice A1 4 c1,.slice A2 4 c2,.slice A3 4 c3] 59)) (.cells #[.slice none 0 0,.slice none 0 0,.slice none 0 0] 59);rw[World.size_alloc] at this;rw[hW0,hb6,hb3];exact this
 have HB0:=Jh hb0;have H3:=Jh h3;have H6:=Jh h6;have HL6:=Jh (show w.heap.size<=b6 by omega);have hhas:=hasHart_any A1 A2 A3 4 c1 c2 c3 h;obtain⟨q,hq⟩:=exE ((decide (0<=h)&&decide (h<4)));rw[<-hq] at hhas;have HH:=Jh hhas;have HQ:=Jh hq;clear hm hr1 hr2 hr3 hp hbx hb0 h3 h6 hhas hq;obtain⟨r0,r1,r2,_⟩:=cells3 H3.o;go_enter Tryz.func86,Tryz.ntmps86;go_wp2_with fail;rw[<-hb3,<-hb6,<-hW0]
 clear hb3 hb6 hW0;refine(HH.o _).mono ?_;rintro e w1 ⟨rfl,hb1⟩;have HB1:=Jh (bT HB0.o hb1);have H31:=Jh (blk_below hb1 H3.o);have H61:=Jh (blk_below hb1 H6.o);clear hb1 r0 r1 r2;obtain⟨r0,r1,r2,_⟩:=cells3 H31.o;obtain⟨s0,s1,s2,s3,s4,s5⟩:=cells3 H61.o;cases q
 ·have HN:=Jh (show M.drainZ h k=none from if_neg (fun hc=>by have:=HQ.o;simp[hc.1,hc.2.1] at this));go_wp2_with fail;exact bodyPost_ret (ret59 rfl rfl (set3 H61.o)) rfl ⟨by rw[HN.o];exact⟨1,by decide,rfl⟩,bS (bS (bS HB1.o HL6.o) HL6.o) HL6.o⟩
 have hh:0<=h/\h<4:=by have:=HQ.o;simpa using this.symm
 by_cases hk0:k<0
 ·have HN:=Jh (show M.drainZ h k=none from if_neg (fun hc=>by omega));have hkb:decide (k<0)=true:=by simpa using hk0
  go_wp2_with fail;exact bodyPost_ret (ret59 rfl rfl (set3 H61.o)) rfl ⟨by rw[HN.o];exact⟨1,by decide,rfl⟩,bS (bS (bS HB1.o HL6.o) HL6.o) HL6.o⟩
 have hkb:decide (k<0)=false:=by simpa using hk0
 obtain⟨ht,rfl⟩:∃ht:Nat,h=(ht:Int):=⟨h.toNat,by omega⟩;obtain⟨kn,rfl⟩:∃kn:Nat,k=(kn:Int):=⟨k.toNat,by omega⟩;have hht:ht<4:=by omega
 obtain⟨p,hpk⟩:∃p,M.pend[ht]?=some p:=⟨_,List.getElem?_eq_getElem (by rw[HM.o.ok.lp];exact hht)⟩;obtain⟨A4,c4,he4,hc4,hr4⟩:=HPP.o ht p hpk;obtain⟨n4,hn4⟩:=exE (p.length);have hn8:n4<=8:=hn4▸HM.o.ok.few p (List.mem_of_getElem? hpk);rw[<-hn4] at he4 hc4 hr4;obtain⟨ba,off,u,hA2,hu,hcell⟩:=(HR2.o.below HB1.o).rd.at1 hht;rw[he4] at hu;injection hu with hu
 subst hu;subst hA2;have hd:M.drainZ ht kn=M.drain ht kn:=by unfold Mm.drainZ;rw[if_pos ⟨by omega,by omega,by omega⟩];simp
 have hgd:M.pend.getD ht []=p:=by rw[List.getD_eq_getElem?_getD,hpk];rfl
 have HD:=Jh hd;have HGD:=Jh hgd;have HN4:=Jh hn4;have HR4:=Jh hr4;have HPk:=Jh hpk;have HE4:=Jh he4;clear hd hgd hn4 hr4 hpk he4 hk0 hh hh1 hh2 hk1 hk2;have hi4:(ht:Int)<4:=by omega
 by_cases hlt:kn<n4
 ·have hlb:decide ((n4:Int)<=(kn:Int))=false:=by simp;omega
  obtain⟨g,offe,x,hA4,hx,hc0,hc1⟩:=(HR4.o.below HB1.o).rd.ent HN4.o hlt;subst hA4;obtain⟨hx0,hx4,hxn⟩:=HM.o.ok.ent p (List.mem_of_getElem? HPk.o) x (List.mem_of_getElem? hx);obtain⟨a,haz⟩:∃a:Nat,x.1=(a:Int):=⟨x.1.toNat,by omega⟩;have ha4:a<4:=by omega
  rw[haz] at hc0;have hhs:=has_any A1 (some ⟨ba,off,none⟩) A3 c1 c2 c3 ht a;have htt:((decide (0<=(ht:Int))&&decide ((ht:Int)<4))&&(decide (0<=(a:Int))&&decide ((a:Int)<4)))=true:=by simp;omega
  rw[htt] at hhs;have HHs:=Jh hhs;have HX:=Jh hx;have HA:=Jh haz;clear hx haz hx0 hx4 hxn hhs htt;obtain⟨b9,hb9⟩:=exE (w1.heap.size);obtain⟨W2,hW2⟩:=exE (w1.alloc (.cells #[.int .i64 (a:Int)] 3));have hw2:Below w1.heap.size w1 W2:=hW2▸bA (bR w1);have h9:W2.heap[b9]?=some (.cells #[.int .i64 (a:Int)] 3):=by rw[hW2,hb9];exact heap_alloc_new w1 _
  have HB2:=Jh (bT HB1.o hw2);have H32:=Jh (blk_below hw2 H31.o);have H62:=Jh (blk_below hw2 H61.o);have H9:=Jh h9;have hnw:=cell1 (heap_alloc_new w1 (.cells #[.int .i64 (a:Int)] 3));have hol:=cells3 (blk_below (bA (o:=.cells #[.int .i64 (a:Int)] 3) (bR w1)) H31.o);obtain⟨n0,n1⟩:=hnw;obtain⟨o0,o1,o2,_⟩:=hol;clear hw2 h9;go_wp2_with fail;clear r0 r1 r2 s0 s1 s2 s3 s4 s5 n0 n1 o0 o1 o2;rw[<-hb9,<-hW2]
  clear hb9 hW2;refine(HHs.o _).mono ?_;rintro e w3 ⟨rfl,hb3⟩;have HB3:=Jh (bT HB2.o hb3);have H33:=Jh (blk_below hb3 H32.o);have H63:=Jh (blk_below hb3 H62.o);have H93:=Jh (blk_below hb3 H9.o);have HRE:=Jh ((HR4.o.below HB3.o).rd);clear hb3;obtain⟨r0,r1,r2,_⟩:=cells3 H33.o;obtain⟨s0,s1,s2,s3,s4,s5⟩:=cells3 H63.o;have hkc:(kn:Int)<=(c4:Int):=by omega
  have HC:=Jh (containsAt_any (some ⟨g,offe,none⟩) kn c4 b9 (p.take kn) a w3 (HRE.o.take_ent (Nat.le_of_lt hlt)) (by rw[List.length_take];have:=HN4.o;omega) (by omega) H93.o);obtain⟨an,han⟩:=exE (anyAt (p.take kn) a);rw[<-han] at HC;have HAN:=Jh han;clear han;go_wp2_with fail;refine HC.o.mono ?_;rintro e w4 ⟨rfl,hb4⟩;have HB4:=Jh (bT HB3.o hb4);have H34:=Jh (blk_below hb4 H33.o)
  have H64:=Jh (blk_below hb4 H63.o);clear hb4 r0 r1 r2 s0 s1 s2 s3 s4 s5;obtain⟨r0,r1,r2,_⟩:=cells3 H34.o;obtain⟨s0,s1,s2,s3,s4,s5⟩:=cells3 H64.o;have hdr:M.drain ht kn=if an=true then none else some ⟨M.words.set x.1.toNat x.2,M.pend.set ht (p.eraseIdx kn)⟩:=by unfold Mm.drain;rw[HGD.o,HX.o,HAN.o,<-HA.o];rfl
  have HDR:=Jh hdr;clear hdr;cases an
  ·have HDY:=Jh (show M.drainZ ht kn=some ⟨M.words.set x.1.toNat x.2,M.pend.set ht (p.eraseIdx kn)⟩ by rw[HD.o,HDR.o];rfl);have HM4:=Jh (HM.o.sees (Below.sees HB4.o));go_wp2_with fail;refine(of_any _ _ _ M _ HM4.o).mono ?_;rintro e w5 ⟨⟨bx,x1,x2,x3,pv,rfl,hbx,hblk,hown⟩,hb5⟩;have HB5:=Jh (bT HB4.o hb5);have H65:=Jh (blk_below hb5 H64.o)
   have HDA:=Jh (drain_any w4.heap.size bx x1 x2 x3 pv M ht kn p x w5 hblk hown hht HPk.o HX.o hb5.size);have hb6lt:b6<w4.heap.size:=blk_lt H64.o;have HBx:=Jh hbx;clear hblk hown hb5 r0 r1 r2 s0 s1 s2 s3 s4 s5 hbx;go_wp2_with fail;refine HDA.o.mono ?_;rintro e w6 ⟨⟨v,rfl⟩,hblk,him,hb6⟩;have HB6:=Jh (HB5.o.trans (hb6.mono HB4.o.size));have H66:=Jh ((hb6.block b6 hb6lt).trans H65.o);have HI:=Jh him
   have HBK:=Jh hblk;clear hb6 him hblk;obtain⟨X1,d1,e1,_⟩:=HI.o.ws;obtain⟨X2,d2,_,e2,_⟩:=HI.o.ps;obtain⟨X3,d3,e3,_⟩:=HI.o.rs;subst e1;subst e2;subst e3;obtain⟨r0,r1,r2,r3,r4,r5⟩:=cells3 HBK.o;obtain⟨s0,s1,s2,s3,s4,s5⟩:=cells3 H66.o;go_wp2_with fail
   exact bodyPost_ret (ret59 rfl rfl (set3 H66.o)) rfl ⟨by rw[HDY.o];exact⟨_,_,_,rfl,HI.o.tk (Tk.set3 H66.o) (by decide) (by decide) (by decide)⟩,bS (bS (bS HB6.o HL6.o) HL6.o) HL6.o⟩
  have HDN:=Jh (show M.drainZ ht kn=none by rw[HD.o,HDR.o];rfl);go_wp2_with fail;exact bodyPost_ret (ret59 rfl rfl (set3 H64.o)) rfl ⟨by rw[HDN.o];exact⟨91,by decide,rfl⟩,bS (bS (bS HB4.o HL6.o) HL6.o) HL6.o⟩
 have hlb:decide ((n4:Int)<=(kn:Int))=true:=by simp;omega
 have HN:=Jh (show M.drainZ ht kn=none from by rw[HD.o];unfold Mm.drain;rw[HGD.o,List.getElem?_eq_none (by have:=HN4.o;omega)]);go_wp2_with fail;exact bodyPost_ret (ret59 rfl rfl (set3 H61.o)) rfl ⟨by rw[HN.o];exact⟨1,by decide,rfl⟩,bS (bS (bS HB1.o HL6.o) HL6.o) HL6.o⟩
end Go.Proofs.YtnigadeohmlpiaaGreatDoor
namespace Go.Proofs.YtnigadeohmlpiaaGreatDoor
open Go.RowKit
attribute [local go_sem] Oper.semAt_some
theorem back_any(A:Option Addr)(n c:Nat)(w:World):
  Calls Tryz.prog 88 #[.slice A n c] w fun e w'=>e=.returned (.func (.func 111) #[] #[.pointer (some ⟨w.heap.size,0,none⟩)])/\w.alloc (.cells #[.slice A n c] 87)=w':=by
 have hmf:∀(fn:Fn) (first cap:Array Value) (w:World),(Instr.makeFunc fn first cap).run Tryz.prog w=.ok (.func fn first cap) w:=fun _ _ _ _=>rfl
 go_enter Tryz.func88,Tryz.ntmps88;go_wp2_with fail;go_ret;exact⟨rfl,rfl⟩
abbrev Told:=Nat×Int×Int
def toldV(x:Told):Array Value:=#[.int .i64 (x.1:Int),.agg #[.int .i64 x.2.1,.int .i64 x.2.2]]
theorem rev_take{p:List (Int×Int)}{n j:Nat}{x:Int×Int}(hn:n=p.length)(hj:j+1<=n)(hx:p[j]?=some x):p.reverse.take (n-(j+1))++[x]=p.reverse.take (n-j):=by
 have h1:n-j=n-(j+1)+1:=by omega
 rw[h1,List.take_add_one,List.getElem?_reverse (by omega)];rw[show p.length-1-(n-(j+1))=j by omega,hx];rfl
theorem back1_in(l Bs n c:Nat)(A:Option Addr)(p:List (Int×Int))(w0:World)(hn:n=p.length)(hm:n<=1000000)(_hBs:Bs<w0.heap.size)(hr:Rd w0 2 A n (entCells p))(h1:w0.heap[Bs]?=some (.cells #[.slice A n c] 87 (0,0)))
  (J Jx:List Told->World->Prop) (N:Nat) (hN:n<=N)
  (hY:∀pre x W,J pre W->pre.length<N->YieldAt Fence.wide (2-1) Tryz.prog l (toldV x) W fun e W'=>
   (e=.returned (.bool true)/\J (pre++[x]) W'/\Below w0.heap.size W W')\/(e=.returned (.bool false)/\Jx (pre++[x]) W'))
  (W:World) (hb:Below w0.heap.size w0 W) (h0:J [] W):
  CallsIn Fence.wide 2 Tryz.prog 111 #[.func (.yield l) #[] #[],.pointer (some ⟨Bs,0,none⟩)] W fun e W'=>(∃v,e=.returned v)/\
   ((∃ys:List Told,ys.map (·.2)=p.reverse/\J ys W')\/(∃pre:List Told,pre.map (·.2)<+:p.reverse/\Jx pre W')):=by
 have HR:=Jh hr;have H1:=Jh h1;have HN:=Jh hn;have HB:=Jh hb;clear hr h1 hn hb;have c0:W.cell? ⟨Bs,0,none⟩=some (.slice A n c):=(cell1 (blk_below HB.o H1.o)).1;refine callsIn_of_wp Tryz.func111 rfl trivial ?_ rfl
 simp only[Tryz.ntmps111,List.size_toArray,List.length_cons,List.length_nil,Nat.reduceAdd,Nat.reduceSub,Array.replicate_succ,Array.replicate_zero,List.push_toArray,List.append_toArray,List.nil_append,List.cons_append]
 gi_wp2
 clear c0
 gi_loopw [3] (fun i wr=>∃(k:Nat) (xs:List Told),k<=n/\i=.int .i64 ((k:Int)-1)/\xs.length=n-k/\xs.map (·.2)=p.reverse.take (n-k)/\J xs wr/\Below w0.heap.size w0 wr)
  (fun i _=>(intOf i+1).toNat)
 case atStart=>exact⟨n,[],Nat.le_refl _,rfl,by simp,by simp,h0,HB.o⟩
 case round=>
  obtain⟨k,xs,hk,rfl,hl,hx,hJs,hbw⟩:=hrel;have HX:=Jh (And.intro hl hx);have HBW:=Jh hbw;clear hl hx hbw;by_cases hk0:k=0
  ·subst hk0;have HF:=Jh (show xs.map (·.2)=p.reverse by rw[HX.o.2,List.take_of_length_le (by simp;have:=HN.o;omega)])
   gi_wp2
   go_end0;exact⟨⟨_,rfl⟩,.inl ⟨xs,HF.o,hJs⟩⟩
  obtain⟨j,rfl⟩:∃j,k=j+1:=⟨k-1,by omega⟩;obtain⟨b,off,x,hA,hxp,hc0,hc1⟩:=(HR.o.below HBW.o).ent HN.o (show j<n by omega);subst hA;have c0:wr.cell? ⟨Bs,0,none⟩=some (.slice (some ⟨b,off,none⟩) n c):=(cell1 (blk_below HBW.o H1.o)).1;have hjj:((j+1:Nat):Int)-1=(j:Int):=by omega
  rw[hjj];have hjn:(j:Int)<(n:Int):=by omega
  obtain⟨fn,tmps,assign,body,hy,hR⟩:=hY xs (j,x) wr hJs (by have:=HX.o.1;omega);unfold toldV at hy;dsimp only at hy;have HXP:=Jh hxp;clear hxp hk0 hjj;have HT:=Jh (show(xs++[((j,x):Told)]).map (·.2)=p.reverse.take (n-j) by rw[List.map_append,HX.o.2,List.map_cons,List.map_nil];exact rev_take HN.o hk HXP.o);have HL:=Jh (show(xs++[((j,x):Told)]).length=n-j by have:=HX.o.1;simp;omega)
  gi_wp2
  refine hR.mono ?_;rintro e W3 (⟨rfl,hJ3,hk3⟩|⟨rfl,hJx3⟩)
  ·have HK3:=Jh (HBW.o.trans hk3);clear hk3
   gi_wp2
   go_roundw;case rel=>exact⟨j,_,by omega,by go_num,HL.o,HT.o,hJ3,HK3.o⟩
   case measure=>simp[intOf]
  gi_wp2
  refine bodyPost_ret (results_none rfl _ _ _) rfl ?_;exact⟨⟨_,rfl⟩,.inr ⟨_,by rw[HT.o];exact List.take_prefix _ _,hJx3⟩⟩
theorem back_stops(Bs n c N:Nat)(A:Option Addr)(p:List (Int×Int))(w:World)(hn:n=p.length)(hm:n<=1000000)(hr:Rd w 2 A n (entCells p))(hN:n<=N)(h1:w.heap[Bs]?=some (.cells #[.slice A n c] 87 (0,0))):
  SeqStopsK Fence.wide 2 Tryz.prog 111 #[.pointer (some ⟨Bs,0,none⟩)] toldV (Below w.heap.size) (fun ys=>ys.map (·.2)=p.reverse) (fun pre=>pre.map (·.2)<+:p.reverse) N w:=by
 intro l J Jx W hb _ _ hY h0;exact back1_in l Bs n c A p w hn hm (blk_lt h1) hr h1 J Jx N hN hY W hb h0
end Go.Proofs.YtnigadeohmlpiaaGreatDoor
namespace Go.Proofs.YtnigadeohmlpiaaGreatDoor
open Go.RowKit
attribute [local go_sem] Oper.semAt_some
theorem results_cell_cell{fn:Func}{p q:Tmp}{t u:TypeId}(h:fn.results=#[.cell p t,.cell q u])(tmps:Array Value)(P:Program)(w:World):
  (results fn tmps).run P w=
   ((asAddr (tmps.getD p undef)).run P w).andThen fun a w₁=>((loadVar t a).run P w₁).andThen fun v w₂=>((asAddr (tmps.getD q undef)).run P w₂).andThen fun b w₃=>((loadVar u b).run P w₃).andThen fun v' w₄=>.ok (.tuple #[v,v']) w₄:=by
 simp only[results,h];simp[Sem.run_bind,Result.andThen]
theorem ret_load{fn:Func}{tmps:Array Value}{w:World}{b c:Nat}{x y:Int}(hfn:fn.results=#[.cell 6 3,.cell 7 92])(hp:tmps.getD 6 undef=.pointer (some ⟨b,0,none⟩))(hq:tmps.getD 7 undef=.pointer (some ⟨c,0,none⟩))
  (h:w.heap[b]?=some (.cells #[.int .i64 x] 3)) (k:w.heap[c]?=some (.cells #[.int .i64 y] 92)):(results fn tmps).run Tryz.prog w=.ok (.tuple #[.int .i64 x,.int .i64 y]) w:=by
 rw[results_cell_cell hfn,hp,hq];obtain⟨h0,_⟩:=cell1 h;obtain⟨k0,_⟩:=cell1 k;simp[go_sem,h0,k0]
theorem cells_grown{w w':World}{row:Option Nat}{k:Nat}{c:Array Value}{t:TypeId}{fz:Nat×Nat}(hk:w.heap[k]?=some (.cells c t fz))(hg:w.grownBy w' row)(hr:∀r,row=some r->∃o:Obj,w.heap[r]?=some o/\o.isCells=false):w'.heap[k]?=some (.cells c t fz):=
 (hg.block k (Array.getElem?_eq_some_iff.1 hk).1 (fun e=>by obtain⟨o,ho,hc⟩:=hr k e.symm;rw[hk] at ho;cases ho;simp[Obj.isCells] at hc)).trans hk
theorem load_hit{M:Mm}{ht a:Nat}{p:List (Int×Int)}{pre:List Told}{x:Told}(hp:M.pend[ht]?=some p)(hpre:(pre++[x]).map (·.2)<+:p.reverse)(hn:∀y∈pre,y.2.1≠(a:Int))(hx:x.2.1=(a:Int)):M.load ht a=x.2.2:=by
 obtain⟨t,ht'⟩:=hpre;unfold Mm.load;rw[List.getD_eq_getElem?_getD,hp,Option.getD_some,<-ht',List.map_append,List.append_assoc,List.find?_append];have h1:(pre.map (·.2)).find? (fun y=>y.1==(a:Int))=none:=by rw[List.find?_eq_none];intro y hy;obtain⟨z,hz,rfl⟩:=List.mem_map.1 hy;have:=hn z hz;simpa using this
 rw[h1];have h2:(x.2.1==(a:Int))=true:=by simpa using hx
 simp only[List.map_cons,List.map_nil,List.cons_append,List.nil_append,List.find?_cons,h2,Option.none_or]
theorem load_miss{M:Mm}{ht a:Nat}{p:List (Int×Int)}{ys:List Told}(hp:M.pend[ht]?=some p)(hys:ys.map (·.2)=p.reverse)(hn:∀y∈ys,y.2.1≠(a:Int)):M.load ht a=M.words.getD a 0:=by
 unfold Mm.load;rw[List.getD_eq_getElem?_getD,hp,Option.getD_some,<-hys];have h1:(ys.map (·.2)).find? (fun y=>y.1==(a:Int))=none:=by rw[List.find?_eq_none];intro y hy;obtain⟨z,hz,rfl⟩:=List.mem_map.1 hy;have:=hn z hz;simpa using this
 rw[h1]
theorem load_any(v1 v2 v3:Value)(M:Mm)(ht a:Nat)(w:World)(hm:IsMem w v1 v2 v3 M)(hh:ht<4)(ha:a<4):
  Calls Tryz.prog 58 #[.agg #[v1,v2,v3],.int .i64 ht,.int .i64 a] w fun e w'=>e=.returned (.tuple #[.int .i64 (M.load ht a),.int .i64 0])/\Below w.heap.size w w':=by
 obtain⟨A1,c1,rfl,hr1⟩:=hm.ws;obtain⟨A2,c2,p0,rfl,hr2,hp⟩:=hm.ps;obtain⟨A3,c3,rfl,hr3⟩:=hm.rs;have HM:=Jh hm;obtain⟨p,hpk⟩:∃p,M.pend[ht]?=some p:=⟨_,List.getElem?_eq_getElem (by rw[hm.ok.lp];exact hh)⟩;obtain⟨A4,c4,he4,hc4,hr4⟩:=hp ht p hpk;obtain⟨n4,hn4⟩:=exE (p.length);have hn8:n4<=8:=hn4▸hm.ok.few p (List.mem_of_getElem? hpk);rw[<-hn4] at hr4 he4 hc4;have HPk:=Jh hpk;have HN4:=Jh hn4
 have HR4:=Jh hr4;have HR1:=Jh hr1;obtain⟨b3,hb3⟩:=exE (w.heap.size);obtain⟨b5,hb5⟩:=exE (b3+1);obtain⟨b6,hb6⟩:=exE (b5+1);obtain⟨b7,hb7⟩:=exE (b6+1);obtain⟨X1,hX1⟩:=exE (w.alloc (.cells #[.slice A1 4 c1,.slice A2 4 c2,.slice A3 4 c3] 59));obtain⟨X2,hX2⟩:=exE (X1.alloc (.cells #[.int .i64 (a:Int)] 3));obtain⟨X3,hX3⟩:=exE (X2.alloc (.cells #[.int .i64 0] 3))
 obtain⟨W0,hW0⟩:=exE (X3.alloc (.cells #[.int .i64 0] 92));have s1:X1.heap.size=b3+1:=by rw[hX1,World.size_alloc,hb3]
 have s2:X2.heap.size=b3+1+1:=by rw[hX2,World.size_alloc,s1]
 have s3:X3.heap.size=b3+1+1+1:=by rw[hX3,World.size_alloc,s2]
 have g3:X3.heap.size<=W0.heap.size:=by rw[hW0,World.size_alloc];omega
 have k3:Below X3.heap.size X3 W0:=hW0▸bA (bR X3);have k2:Below X2.heap.size X2 W0:=bT (hX3▸bA (bR X2)) k3;have k1:Below X1.heap.size X1 W0:=bT (hX2▸bA (bR X1)) k2;have hb0:Below w.heap.size w W0:=bT (hX1▸bA (bR w)) k1;have h3:W0.heap[b3]?=some (.cells #[.slice A1 4 c1,.slice A2 4 c2,.slice A3 4 c3] 59):=blk_below k1 (by rw[hX1,hb3];exact heap_alloc_new w _)
 have h5:W0.heap[b5]?=some (.cells #[.int .i64 (a:Int)] 3):=blk_below k2 (by rw[hX2,hb5,<-s1];exact heap_alloc_new X1 _);have h6:W0.heap[b6]?=some (.cells #[.int .i64 0] 3):=blk_below k3 (by rw[hX3,hb6,hb5,<-s2];exact heap_alloc_new X2 _);have h7:W0.heap[b7]?=some (.cells #[.int .i64 0] 92):=by rw[hW0,hb7,hb6,hb5,<-s3];exact heap_alloc_new X3 _
 have hWW:W0=((((w.alloc (.cells #[.slice A1 4 c1,.slice A2 4 c2,.slice A3 4 c3] 59)).alloc (.cells #[.int .i64 (a:Int)] 3)).alloc (.cells #[.int .i64 0] 3)).alloc (.cells #[.int .i64 0] 92)):=by rw[hW0,hX3,hX2,hX1]
 have HB0:=Jh hb0;have H3:=Jh h3;have H5:=Jh h5;have H6:=Jh h6;have H7:=Jh h7;have HL:=Jh (show w.heap.size<=b6/\w.heap.size<=b7/\b6≠b7/\b5≠b6/\b5≠b7 by omega);have HR2:=Jh hr2;have HE4:=Jh he4;have hhas:=has_any A1 A2 A3 c1 c2 c3 ht a;have htt:((decide (0<=(ht:Int))&&decide ((ht:Int)<4))&&(decide (0<=(a:Int))&&decide ((a:Int)<4)))=true:=by simp;omega
 rw[htt] at hhas;have HH:=Jh hhas;have hi4:(ht:Int)<4:=by omega
 have ha4:(a:Int)<4:=by omega
 clear hm hr1 hr2 hr3 hp hpk he4 hr4 hn4 hhas htt hX1 hX2 hX3 hW0 s1 s2 s3 g3 k1 k2 k3 hb0 h3 h5 h6 h7;refine(callsIn_wide (n:=3)).1 ?_;refine callsIn_of_wp_marks Tryz.func58 rfl trivial ?_ rfl
 simp only[Tryz.ntmps58,List.size_toArray,List.length_cons,List.length_nil,Nat.reduceAdd,Nat.reduceSub,Array.replicate_succ,Array.replicate_zero,List.push_toArray,List.append_toArray,List.nil_append,List.cons_append];refine wpIn_wide.2 ?_;go_wp2_with fail;rw[<-hb3,<-hb5,<-hb6,<-hb7,<-hWW];clear hb3 hb5 hb6 hb7 hWW;refine(HH.o _).mono ?_;rintro e w1 ⟨rfl,hb1⟩;have HB1:=Jh (bT HB0.o hb1)
 have H31:=Jh (blk_below hb1 H3.o);have H51:=Jh (blk_below hb1 H5.o);have H61:=Jh (blk_below hb1 H6.o);have H71:=Jh (blk_below hb1 H7.o);clear hb1;obtain⟨r0,r1,r2,_⟩:=cells3 H31.o;obtain⟨ba,off,u,hA2,hu,hcell⟩:=(HR2.o.below HB1.o).rd.at1 hh;rw[HE4.o] at hu;injection hu with hu
 subst hu;subst hA2;go_wp2_with fail;refine(back_any A4 n4 c4 _).mono ?_;rintro e w2 ⟨rfl,rfl⟩;clear r0 r1 r2 hcell;go_wp2_with fail;have hbx:=heap_alloc_new w1 (.cells #[.slice A4 n4 c4] 87);obtain⟨bb,hbb⟩:=exE (w1.heap.size);obtain⟨X,hX⟩:=exE (w1.alloc (.cells #[.slice A4 n4 c4] 87));have hbX:Below w1.heap.size w1 X:=hX▸bA (bR w1);rw[<-hX,<-hbb] at hbx;rw[<-hbb,<-hX];have HBX:=Jh (bT HB1.o hbX)
 have H3X:=Jh (blk_below hbX H31.o);have H5X:=Jh (blk_below hbX H51.o);have H6X:=Jh (blk_below hbX H61.o);have H7X:=Jh (blk_below hbX H71.o);have HBox:=Jh hbx;clear hX hbb hbX hbx;have HE:=Jh (HR4.o.below HBX.o).rd;refine(wpIn_wide (n:=3)).1 ?_;refine wpIn_rangeFunc_ownH (w0:=X) rfl (by omega) (gf:=111) (lb:=#[.pointer (some ⟨bb,0,none⟩)]) rfl trivial (enters_of Tryz.func111 (by kernel_rfl) rfl)
  (back_stops bb n4 c4 n4 A4 p X HN4.o (by omega) HE.o (Nat.le_refl _) HBox.o) belowK_t (belowK_b (Nat.le_refl _)) (Below.refl _ _) (fun _=>rfl)
  (fun pre W=>Below X.heap.size X W/\∀y∈pre,y.2.1≠(a:Int))
  (fun c pre W=>c=.ret/\(∃pre0 x,pre=pre0++[x]/\(∀y∈pre0,y.2.1≠(a:Int))/\x.2.1=(a:Int)/\W.heap[b6]?=some (.cells #[.int .i64 x.2.2] 3 (0,0))/\W.heap[b7]?=some (.cells #[.int .i64 0] 92 (0,0)))/\Below w.heap.size w W)
  ?own1 ?own2 ⟨Below.refl _ _,fun y hy=>absurd hy List.not_mem_nil⟩
  (fun x a' W=>∃Bx,W.heap[Bx]?=some (.cells #[.int .i64 x.2.1,.int .i64 x.2.2] 128 (0,0))/\a'={tmps:=#[.agg #[.slice A1 4 c1,.slice (some ⟨ba,off,none⟩) 4 c2,.slice A3 4 c3],.int .i64 ht,.int .i64 a,.pointer (some ⟨b3,0,none⟩),undef,.pointer (some ⟨b5,0,none⟩),.pointer (some ⟨b6,0,none⟩),.pointer (some ⟨b7,0,none⟩),undef,.pointer (some ⟨Bx,0,none⟩),.agg #[.slice A1 4 c1,.slice (some ⟨ba,off,none⟩) 4 c2,.slice A3 4 c3],.int .i64 ht,.int .i64 a,.bool true,.bool false,.pointer (some ⟨b3,1,none⟩),.slice (some ⟨ba,off,none⟩) 4 c2,.int .i64 ht,.pointer (some ⟨ba,off+ht,none⟩),.slice A4 n4 c4,.func (.func 111) #[] #[.pointer (some ⟨bb,0,none⟩)],.int .i64 (x.1:Int),.agg #[.int .i64 x.2.1,.int .i64 x.2.2],undef,undef,undef,undef,undef,undef,undef,undef,undef,undef,undef],defers:=[]})
  ?own3 ?assign ?body ?done ?stop
 case own1=>exact OwnFrom.and (ownFrom_below (Nat.le_refl _) (Nat.le_refl _)) (ownFrom_pure _ _)
 case own2=>rintro c pre Y Z row ⟨rfl,⟨pre0,x,e1,e2,e3,e4,e5⟩,e6⟩ hg hr;have hr':∀r,row=some r->∃o:Obj,Y.heap[r]?=some o/\o.isCells=false:=fun r e=>(hr r e).2;exact⟨rfl,⟨pre0,x,e1,e2,e3,cells_grown e4 hg hr',cells_grown e5 hg hr'⟩,e6.grown hg e6.size (fun r e=>Nat.le_trans HBX.o.size (hr r e).1)⟩
 case own3=>rintro x a' _ Y Z row ⟨Bx,h1,h2⟩ hg hr;exact⟨Bx,cells_grown h1 hg (fun r e=>(hr r e).2),h2⟩
 case assign=>
  rintro l pre x W K ⟨hb,hp⟩ hK;simp only[toldV,List.zip_toArray,List.zip_cons_cons,List.zip_nil_right,List.foldl_toArray,List.foldl_cons,List.foldl_nil,List.setIfInBounds_toArray,List.set_cons_succ,List.set_cons_zero];have hfx:=heap_alloc_new W (.cells #[.int .i64 0,.int .i64 0] 128);obtain⟨f0,f1,f2,f3⟩:=cells2 hfx
  gi_wp2
  exact hK _ _ ((KeepsOthers.alloc _ _).from _) ((Below.refl _ W).alloc hb.size _) ⟨hb.alloc hb.size _,hp⟩ ⟨W.heap.size,heap_alloc_new W _,rfl⟩
 case body=>
  rintro l pre x a' W hl _ ⟨hb,hp⟩ ⟨Bx,hBx,rfl⟩ hlt;obtain⟨s0,s1,_⟩:=cells2 hBx;obtain⟨q0,_⟩:=cell1 (blk_below hb H5X.o);obtain⟨t0,t1⟩:=cell1 (blk_below hb H6X.o);obtain⟨u0,u1⟩:=cell1 (blk_below hb H7X.o);by_cases hxa:x.2.1=(a:Int)
  ·have hw7:(W.setCell ⟨b6,0,none⟩ (.int .i64 x.2.2)).heap[b7]?=some (.cells #[.int .i64 0] 92):=(set_other _ HL.o.2.2.1.symm).trans (blk_below hb H7X.o);obtain⟨u3,u2⟩:=cell1 hw7
   gi_wp2
   refine⟨((KeepsOthers.setCell _ _ _).trans (KeepsOthers.setCell _ _ _)).from _,rfl,⟨pre,x,rfl,hp,hxa,?_,set_same hw7 _⟩,bS (bS (HBX.o.trans (hb.mono HBX.o.size)) HL.o.1) HL.o.2.1⟩;exact(set_other _ HL.o.2.2.1).trans (set_same (blk_below hb H6X.o) _)
  gi_wp2
  exact⟨(KeepsOthers.refl W).from _,Below.refl _ _,hb,fun y hy=>(List.mem_append.1 hy).elim (hp y) (fun h=>by rw[List.mem_singleton.1 h];exact hxa)⟩
 case stop=>
  rintro D c pre W hD hSp ⟨rfl,⟨pre0,x,rfl,e2,e3,e4,e5⟩,e6⟩ hK;have HLd:=Jh (load_hit HPk.o hSp e2 e3);have hk6:(W.putObj D (.deferred none)).heap[b6]?=_:=(World.putObj_heap_other (by have:=blk_lt H6X.o;omega)).trans e4;have hk7:(W.putObj D (.deferred none)).heap[b7]?=_:=(World.putObj_heap_other (by have:=blk_lt H7X.o;omega)).trans e5
  gi_wp2
  refine⟨by simp,.inl ⟨_,_,rfl,run_takeDeferred hK,?_⟩⟩;exact⟨_,ret_load rfl rfl rfl hk6 hk7,by rw[HLd.o],e6.trans (belowK_b (w:=w) (Nat.le_refl _) W D _ _ (by have:=HBX.o.size;omega) hK rfl rfl)⟩
 case done=>
  rintro D ys W hD hS ⟨hb,hp⟩ hK;have HLd:=Jh (load_miss HPk.o hS hp);have H6:=Jh (blk_below hb H6X.o);have H7:=Jh (blk_below hb H7X.o);have HBW:=Jh (HBX.o.trans (hb.mono HBX.o.size));obtain⟨bw,offw,z,hA1,hz,hcz⟩:=(HR1.o.below HBW.o).rd.at1 ha;obtain⟨z',hz1,rfl⟩:∃z',M.words[a]?=some z'/\Value.int .i64 z'=z:=by simpa[ints,List.getElem?_map] using hz
  obtain⟨r0,r1,r2,_⟩:=cells3 (blk_below hb H3X.o);obtain⟨q0,_⟩:=cell1 (blk_below hb H5X.o);obtain⟨t0,t1⟩:=cell1 H6.o;obtain⟨u0,u1⟩:=cell1 H7.o;subst hA1;have hw7:(W.setCell ⟨b6,0,none⟩ (.int .i64 z')).heap[b7]?=some (.cells #[.int .i64 0] 92):=(set_other _ HL.o.2.2.1.symm).trans H7.o;obtain⟨u3,u2⟩:=cell1 hw7;go_wp2
  have hg6:((W.setCell ⟨b6,0,none⟩ (.int .i64 z')).setCell ⟨b7,0,none⟩ (.int .i64 0)).heap[b6]?=some (.cells #[.int .i64 z'] 3):=(set_other _ HL.o.2.2.1).trans (set_same H6.o _);have hg7:((W.setCell ⟨b6,0,none⟩ (.int .i64 z')).setCell ⟨b7,0,none⟩ (.int .i64 0)).heap[b7]?=some (.cells #[.int .i64 0] 92):=set_same hw7 _
  have hgD:((W.setCell ⟨b6,0,none⟩ (.int .i64 z')).setCell ⟨b7,0,none⟩ (.int .i64 0)).heap[D]?=some (.deferred (some [])):=(set_other _ (by have:=blk_lt H7X.o;omega)).trans ((set_other _ (by have:=blk_lt H6X.o;omega)).trans hK);refine⟨by simp,.inl ⟨_,_,rfl,run_takeDeferred hgD,?_⟩⟩
  refine⟨_,ret_load rfl rfl rfl ((World.putObj_heap_other (by have:=blk_lt H6X.o;omega)).trans hg6) ((World.putObj_heap_other (by have:=blk_lt H7X.o;omega)).trans hg7),?_,?_⟩
  ·rw[HLd.o,List.getD_eq_getElem?_getD,hz1];rfl
  exact(bS (bS HBW.o HL.o.1) HL.o.2.1).trans (belowK_b (w:=w) (Nat.le_refl _) _ D _ _ (by have:=HBX.o.size;omega) hgD rfl rfl)
end Go.Proofs.YtnigadeohmlpiaaGreatDoor
namespace Go.Proofs.YtnigadeohmlpiaaGreatDoor
open Go.RowKit
section
variable {α : Type} {F : Fence} {n : Nat} {P : Program} {w : World}
def SeqV(F:Fence)(n:Nat)(P:Program)(g:Nat)(lb:Array Value)(encs:α->Array Value)(V:List α->α->World->Prop)(Kp:World->World->Prop)(S Sp:List α->Prop)(w:World):Prop:=
 ∀(l:Nat) (J Jx:List α->World->Prop) (W:World),Below w.heap.size w W->(∀s A B,J s A->A.grownBy B none->J s B)->
  (∀pre x W1,J pre W1->V pre x W1->YieldAt F (n-1) P l (encs x) W1 fun e W'=>
   (e=.returned (.bool true)/\J (pre++[x]) W'/\Kp W1 W')\/(e=.returned (.bool false)/\Jx (pre++[x]) W'))->
  J [] W->
  CallsIn F n P g (#[.func (.yield l) #[] #[]]++lb) W fun e W'=>(∃v,e=.returned v)/\((∃xs,S xs/\J xs W')\/(∃pre,Sp pre/\Jx pre W'))
theorem wpIn_range_told{g:Operand}{ps:Array Tmp}{assign body:Code}{Q:Exit->Act->World->Prop}{a:Act}
  (hro:F.round=none) (h1:1<=n) {gf:Nat} {lb:Array Value} (hg:a.eval g=.func (.func gf) #[] lb) (hFg:F.fn gf) (eg:∀args w,(callFunc gf args).run P w=.ok (.enter gf args) w)
  {encs:α->Array Value} {V:List α->α->World->Prop} {Kp:World->World->Prop} {S Sp:List α->Prop} {w0:World} (hseq:SeqV F (n-1) P gf lb encs V Kp S Sp w0)
  (hKt:∀{A B C:World},Kp A B->Kp B C->Kp A C) (hKb:∀(W:World) (l:Nat) (o o':Obj),w.heap.size<=l->W.heap[l]?=some o->o.isCells=false->o.isWalk=false->Kp W (W.putObj l o')) (hb0:Below w0.heap.size w0 w) (hps:∀x,(encs x).size=ps.size)
  (I:List α->World->Prop) (Ix:Code->List α->World->Prop) (hI:OwnFrom w.heap.size I) (hIx:∀c,OwnFrom w.heap.size (Ix c)) (hV:OwnFrom w.heap.size (fun(p:List α×α) Y=>V p.1 p.2 Y)) (h0:I [] w) (Ax:α->Act->World->Prop) (hAx:∀x a',OwnFrom w.heap.size (fun(_:Unit) W=>Ax x a' W))
  (hassign:∀(l:Nat) (pre:List α) (x:α) (W:World) (K:Act->World->Prop),I pre W->V pre x W->(∀a' W',KeepsFrom w.heap.size W W'->Kp W W'->I pre W'->V pre x W'->Ax x a' W'->K a' W')->
   assign.wpIn (F.inRound l) (n-1-1) P (Exit.then K (fun _ _ _=>False)) {tmps:=(ps.zip (encs x)).foldl (fun t (p,v)=>t.setIfInBounds p v) a.tmps,defers:=[]} W)
  (hbody:∀(l:Nat) (pre:List α) (x:α) (a':Act) (W:World),w.heap.size<=l->(∃r,W.heap[l]?=some (.loop r))->I pre W->V pre x W->Ax x a' W->body.wpIn (F.inRound l) (n-1-1) P (ownPostG w.heap.size Kp I Ix (pre++[x]) W) a' W)
  (hdone:∀(D:Nat) (xs:List α) (W:World),w.heap.size<=D->S xs->I xs W->W.heap[D]?=some (.deferred (some []))->Q .normal {a with defers:={target:=.collected D,args:=#[]}::a.defers} W)
  (hstop:∀(D:Nat) (c:Code) (pre:List α) (W:World),w.heap.size<=D->Sp pre->Ix c pre W->W.heap[D]?=some (.deferred (some []))->c.wpIn F n P Q {a with defers:={target:=.collected D,args:=#[]}::a.defers} W):
  (Code.rangeFunc g ps assign body).wpIn F n P Q a w:=by
 refine wpIn_rangeFunc ?_;intro fn hfn;rw[hro];obtain⟨rec,hrec⟩:∃rec:LoopState->Option Code->Loop,rec=fun st pe=>{state:=st,pending:=pe,fn,tmps:=a.tmps,params:=ps,assign,body,defers:=w.heap.size}:=⟨_,rfl⟩;obtain⟨W1,hW1⟩:∃W1,(w.alloc (.deferred (some []))).alloc (.loop (rec .ready none))=W1:=⟨_,rfl⟩
 have hL1:W1.heap[w.heap.size+1]?=some (.loop (rec .ready none)):=by rw[<-hW1];have:=World.alloc_heap_new (w.alloc (.deferred (some []))) (.loop (rec .ready none));rwa[World.size_alloc] at this
 have hK1:W1.heap[w.heap.size]?=some (.deferred (some [])):=by rw[<-hW1];exact(Below.heap_alloc _ _ _ (by simp)).trans (World.alloc_heap_new w _)
 have hI1:I [] W1:=by rw[<-hW1];exact hI.alloc _ (hI.alloc _ h0)
 have hb1:Below w0.heap.size w0 W1:=by rw[<-hW1];exact hb0.trans ((((Below.refl _ w).alloc (Nat.le_refl _) _).alloc (by simp) _).mono hb0.size)
 refine⟨w.heap.size+1,[{target:=.collected w.heap.size,args:=#[]}],W1,{target:=.fn (.func gf) lb,args:=#[.func (.yield (w.heap.size+1)) #[] #[]]},W1,gf,
  #[.func (.yield (w.heap.size+1)) #[] #[]]++lb,W1,?_,?_,?_,?_,fun _=>h1,?_⟩
 ·rw[<-hW1,hrec];exact run_enterLoop_outer _ _ _ _ _
 ·simp only[resolve,hg];simp[go_sem]
 ·intro f' hf';simp[Target.leads] at hf';subst hf';exact hFg
 ·simp[invoke,go_sem,eg]
 refine(hseq (w.heap.size+1)
  (fun pre W=>I pre W/\W.heap[w.heap.size+1]?=some (.loop (rec .ready none))/\W.heap[w.heap.size]?=some (.deferred (some [])))
  (fun pre W=>∃c,Ix c pre W/\W.heap[w.heap.size+1]?=some (.loop (rec .done (some c)))/\W.heap[w.heap.size]?=some (.deferred (some [])))
  W1 hb1
  (fun s A B hs hg'=>⟨hI s A B none hs.1 hg' (fun r e=>by cases e),(hg'.block _ (Array.getElem?_eq_some_iff.1 hs.2.1).1 (by simp)).trans hs.2.1,(hg'.block _ (Array.getElem?_eq_some_iff.1 hs.2.2).1 (by simp)).trans hs.2.2⟩)
  ?_ ⟨hI1,hL1,hK1⟩).mono ?_
 ·rintro pre x W ⟨hi,hl,hk⟩ hv;have hlt:w.heap.size+1<W.heap.size:=(Array.getElem?_eq_some_iff.1 hl).1;have hy:=run_yield (P:=P) (args:=encs x) hl (by rw[hrec];exact hps x);rw[hrec] at hy;refine⟨fn,_,assign,body,hy,roundIn_of_wpIn hfn (hassign _ pre x W _ hi hv ?_)⟩;clear hy;intro a' Wa hkfa hkpa hia hva hax;replace hl:=hkfa.same _ _ (by omega) hl rfl;replace hk:=hkfa.same _ _ (Nat.le_refl _) hk rfl
  replace hlt:w.heap.size+1<Wa.heap.size:=(Array.getElem?_eq_some_iff.1 hl).1;replace hi:=hia;replace hv:=hva;clear hia hva;revert hkpa hkfa;generalize W=Wb;intro hkfa hkpa;obtain⟨W,rfl⟩:=exE (Wa);refine⟨_,run_beginRound hl (by rw[hrec]),?_⟩
  have hl2:(W.putObj (w.heap.size+1) (.loop {rec .ready none with state:=.busy})).heap[w.heap.size+1]?=some (.loop {rec .ready none with state:=.busy}):=World.putObj_heap_same hlt
  have hk2:(W.putObj (w.heap.size+1) (.loop {rec .ready none with state:=.busy})).heap[w.heap.size]?=some (.deferred (some [])):=(World.putObj_heap_other (by omega)).trans hk
  have hw2:Kp W (W.putObj (w.heap.size+1) (.loop {rec .ready none with state:=.busy})):=hKb _ _ _ _ (by omega) hl rfl rfl
  refine wpIn_mono (hbody _ pre x a' _ (by omega) ⟨_,hl2⟩ (hI.putObj _ hi (by omega) hl rfl) (hV.putObj (s:=(pre,x)) _ hv (by omega) hl rfl) ((hAx x a').putObj (s:=()) _ hax (by omega) hl rfl)) ?_;have fin:∀(jump:Option Code) (W3:World),KeepsFrom w.heap.size (W.putObj (w.heap.size+1) (.loop {rec .ready none with state:=.busy})) W3->
    (Instr.endRound (w.heap.size+1) jump).run P W3=.ok (.bool jump.isNone) (W3.putObj (w.heap.size+1) (.loop (rec (if jump.isNone then .ready else .done) jump)))/\
    W3.heap[w.heap.size+1]?=some (.loop {rec .ready none with state:=.busy})/\
    (W3.putObj (w.heap.size+1) (.loop (rec (if jump.isNone then .ready else .done) jump))).heap[w.heap.size+1]?=some (.loop (rec (if jump.isNone then .ready else .done) jump))/\
    (W3.putObj (w.heap.size+1) (.loop (rec (if jump.isNone then .ready else .done) jump))).heap[w.heap.size]?=some (.deferred (some [])):=fun jump W3 hk3=>by
   have hl3:=hk3.same _ _ (by omega) hl2 rfl;have:=run_endRound (P:=P) jump hl3;rw[hrec] at this⊢;exact⟨this,by rw[hrec] at hl3;exact hl3,World.putObj_heap_same (Array.getElem?_eq_some_iff.1 hl3).1,(World.putObj_heap_other (by omega)).trans (hk3.same _ _ (Nat.le_refl _) hk2 rfl)⟩
  rintro e a3 W3 hp;cases e with
  |normal=>obtain⟨hk3,hkp3,hi3⟩:=hp;obtain⟨hr,hl3,hl4,hk4⟩:=fin none W3 hk3;exact⟨_,_,hr,.inl ⟨rfl,⟨hI.putObj _ hi3 (by omega) hl3 rfl,hl4,hk4⟩,hKt hkpa (hKt (hKt hw2 hkp3) (hKb _ _ _ _ (by omega) hl3 rfl rfl))⟩⟩
  |ret=>obtain⟨hk3,hi3⟩:=hp;obtain⟨hr,hl3,hl4,hk4⟩:=fin (some .ret) W3 hk3;exact⟨_,_,hr,.inr ⟨rfl,.ret,(hIx _).putObj _ hi3 (by omega) hl3 rfl,hl4,hk4⟩⟩
  |exit id=>obtain⟨hk3,hi3⟩:=hp;obtain⟨hr,hl3,hl4,hk4⟩:=fin (some (.exit id)) W3 hk3;exact⟨_,_,hr,.inr ⟨rfl,.exit id,(hIx _).putObj _ hi3 (by omega) hl3 rfl,hl4,hk4⟩⟩
  |goto t=>obtain⟨hk3,hi3⟩:=hp;obtain⟨hr,hl3,hl4,hk4⟩:=fin (some (.goto t)) W3 hk3;exact⟨_,_,hr,.inr ⟨rfl,.goto t,(hIx _).putObj _ hi3 (by omega) hl3 rfl,hl4,hk4⟩⟩
  |panic ch=>exact hp.elim
  |outgrown=>exact hp.elim
 rintro e W2 ⟨⟨v,rfl⟩,(⟨xs,hS,hi,hl,hk⟩|⟨pre,hSp,c,hi,hl,hk⟩)⟩
 ·exact⟨none,_,by have:=run_endLoop (P:=P) hl (by rw[hrec];simp);rw[hrec] at this;exact this,hdone _ xs _ (Nat.le_refl _) hS (hI.putObj _ hi (by omega) hl rfl) ((World.putObj_heap_other (by omega)).trans hk)⟩
 exact⟨some c,_,by have:=run_endLoop (P:=P) hl (by rw[hrec];simp);rw[hrec] at this;exact this,hstop _ c pre _ (Nat.le_refl _) hSp ((hIx c).putObj _ hi (by omega) hl rfl) ((World.putObj_heap_other (by omega)).trans hk)⟩
end
end Go.Proofs.YtnigadeohmlpiaaGreatDoor
