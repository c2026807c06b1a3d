/- Contracts and words: whether the one access must be ahead of the other; whether an order is one that the axioms let be; whether an order can go on to one that the axioms let be. No condition of ours. -/
import Derived.Test.YtnigadeohmlpiaaGreatDoorC33
import Derived.Test.YtnigadeohmlpiaaGreatDoorC25
set_option maxHeartbeats 32000000
set_option maxRecDepth 100000
namespace Go.Proofs.YtnigadeohmlpiaaGreatDoor
open Go.RowKit
attribute [local go_sem] Oper.semAt_some
def keepsB(l:List Ev)(i k:Nat)(x y:Ev):Bool:=(x.acc&&y.acc)&&keepsE l i k x y
theorem noFence{l:List Ev}{i k:Nat}{x:Ev}(hi:l[i]?=some x)(ha:x.acc=true)(hn:∀(j:Nat) (e:Ev),i<j->j<k->l[j]?=some e->¬(e.k=3/\e.h=x.h)):(segOf l i k).any (Ev.fenceOf x.h)=false:=by
 cases h:(segOf l i k).any (Ev.fenceOf x.h) with
 |false=>rfl
 |true=>
  obtain⟨f,e,h1,h2,h3,h4,h5⟩:=fence_mem.1 h;by_cases hf:f=i
  ·subst hf;have h6:e=x:=Option.some.inj (h3.symm.trans hi);subst h6;have h7:e.acc=false:=by simp[Ev.acc,h4]
   rw[ha] at h7;cases h7
  exact absurd ⟨h4,h5⟩ (hn f e (by omega) h2 h3)
theorem keeps79_any(A:Option Addr)(n c i k:Nat)(l:List Ev)(x y:Ev)(w:World)(he:IsEvs w A n c l)(hn:n<=8)(hok:∀e∈l,e.Ok)(hx:l[i]?=some x)(hy:l[k]?=some y):
  Calls Tryz.prog 79 #[.slice A n c,.int .i64 i,.int .i64 k] w fun o w'=>o=.returned (.bool (keepsB l i k x y))/\Below w.heap.size w w':=by
 have HE:=Jh he;have HEL:=Jh he.len;have hin:i<n:=by have:=(List.getElem?_eq_some_iff.1 hx).1;have:=he.len;omega
 have hkn:k<n:=by have:=(List.getElem?_eq_some_iff.1 hy).1;have:=he.len;omega
 have HX:=Jh hx;have HY:=Jh hy;have HOk:=Jh hok;have HR:=Jh (right39_yes A n c l w he hn hok);clear he hok hx hy;go_enter Tryz.func79,Tryz.ntmps79;go_wp2_with fail;refine HR.o.mono ?_;rintro o w1 ⟨rfl,hb1⟩;have HB1:=Jh hb1;have HA1:=Jh (access77_any A n c i l x w1 (HE.o.sees (Below.sees hb1)) HX.o);clear hb1;go_wp2_with fail;refine HA1.o.mono ?_;rintro o w2 ⟨rfl,hb2⟩;have HB2:=Jh (bT HB1.o hb2)
 have HA2:=Jh (access77_any A n c k l y w2 (HE.o.sees (Below.sees HB2.o)) HY.o);clear hb2;go_wp2_with fail;refine HA2.o.mono ?_;rintro o w3 ⟨rfl,hb3⟩;have HB3:=Jh (bT HB2.o hb3);clear hb3;by_cases hxa:x.acc=false
 ·have HF:=Jh (show keepsB l i k x y=false from by unfold keepsB;rw[hxa];rfl);rw[hxa];clear hxa;go_wp2_with fail;go_ret;exact⟨ret_bool HF.o.symm,HB3.o⟩
 have hxa:x.acc=true:=by simpa using hxa
 by_cases hya:y.acc=false
 ·have HF:=Jh (show keepsB l i k x y=false from by unfold keepsB;rw[hya];simp);rw[hxa,hya];clear hxa hya;go_wp2_with fail;go_ret;exact⟨ret_bool HF.o.symm,HB3.o⟩
 have hya:y.acc=true:=by simpa using hya
 have HXA:=Jh hxa;have HF:=Jh (show keepsB l i k x y=keepsE l i k x y from by unfold keepsB;rw[hxa,hya];rfl);have HPg:=Jh (program104_any A n c i k l x y w3 (HE.o.sees (Below.sees HB3.o)) HX.o HY.o);rw[hxa,hya];clear hxa hya;go_wp2_with fail;refine HPg.o.mono ?_;rintro o w4 ⟨rfl,hb4⟩;have HB4:=Jh (bT HB3.o hb4);clear hb4;by_cases hpg:(decide (i<k)&&(x.h==y.h))=false
 ·have HF2:=Jh (show keepsB l i k x y=false from by rw[HF.o];unfold keepsE;rw[hpg];rfl);rw[hpg];clear hpg;go_wp2_with fail;go_ret;exact⟨ret_bool HF2.o.symm,HB4.o⟩
 have hpg:(decide (i<k)&&(x.h==y.h))=true:=by simpa using hpg
 have hik:i<k:=by simp only[Bool.and_eq_true,decide_eq_true_eq] at hpg;exact hpg.1
 have HF2:=Jh (show keepsB l i k x y=((x.k==1||(y.k==2&&x.a==y.a))||(segOf l i k).any (Ev.fenceOf x.h)) from by rw[HF.o];unfold keepsE;rw[hpg];rfl);rw[hpg];clear hpg;have HE4:=Jh (HE.o.sees (Below.sees HB4.o));obtain⟨ge,oe,x',rfl,hx',hc0,hc1,hc2,_⟩:=HE4.o.at_ hin;obtain rfl:x'=x:=Option.some.inj (hx'.symm.trans HX.o);obtain⟨ge',oe',y',hA',hy',hd0,hd1,hd2,_⟩:=HE4.o.at_ hkn
 obtain rfl:y'=y:=Option.some.inj (hy'.symm.trans HY.o);simp only[Option.some.injEq,Addr.mk.injEq,and_true] at hA';obtain⟨rfl,rfl⟩:=hA';have hi1:decide ((i:Int)<0)=false:=by simp
 have hk1:decide ((k:Int)<0)=false:=by simp
 have hiN:(i:Int)<(n:Int):=by omega
 have hkN:(k:Int)<(n:Int):=by omega
 clear hx' hy';have hq:=Nat.le_refl 0;go_upto_region 6 with fail
 by_cases hxk:x'.k=1
 ·have hb1:(x'.k==1)=true:=by simpa using hxk
  have HT:=Jh (show keepsB l i k x' y'=true from by rw[HF2.o,hb1,Bool.true_or,Bool.true_or]);clear hxk;go_quiet (fail)
  go_wp2_with fail;go_ret;exact⟨ret_bool HT.o.symm,bN HB4.o⟩
 have hb1:(x'.k==1)=false:=by simpa using hxk
 clear hxk;have go_on:True:=trivial;by_cases hyk:(y'.k==2&&x'.a==y'.a)=true
 ·have HT:=Jh (show keepsB l i k x' y'=true from by rw[HF2.o,hyk,Bool.or_true,Bool.true_or]);simp only[Bool.and_eq_true] at hyk;obtain⟨hb2,hb3⟩:=hyk;go_quiet (fail)
  go_wp2_with fail;go_ret;exact⟨ret_bool HT.o.symm,bN HB4.o⟩
 have hyk:(y'.k==2&&x'.a==y'.a)=false:=by simpa using hyk
 have HF3:=Jh (show keepsB l i k x' y'=(segOf l i k).any (Ev.fenceOf x'.h) from by rw[HF2.o,hb1,hyk];rfl);obtain⟨WA,hWA⟩:∃X:Nat->World,∀q,X q=w4.drewN q:=⟨_,fun _=>rfl⟩;have hsp:(y'.k==2)=false\/((y'.k==2)=true/\(x'.a==y'.a)=false):=by
  cases h1:(y'.k==2)
  ·exact .inl rfl
  rw[h1] at hyk;exact .inr ⟨rfl,by simpa using hyk⟩
 clear hyk hWA WA hq go_on;have HH:=Jh hc0;rcases hsp with hb2|⟨hb2,hb3⟩
 all_goals
  go_quiet (fail)
  obtain⟨W5,hW5⟩:=exE (w4.drewN nq);rw[<-hW5];have k5:Below w4.heap.size w4 W5:=hW5▸bN (bR w4);have HB5:=Jh (bT HB4.o k5);have HE5:=Jh (HE4.o.sees (Below.sees k5));clear k5 hW5 hc0 hc1 hc2 hd0 hd1 hd2 HH;go_wp2_with fail;go_loopw [10] (fun vj wr=>∃j:Nat,i<j/\j<=k/\vj=.int .i64 j/\(∀(f:Nat) (e:Ev),i<f->f<j->l[f]?=some e->¬(e.k=3/\e.h=x'.h))/\Below w.heap.size w wr) (fun vj _=>k-(intOf vj).toNat)
  case atStart=>exact⟨i+1,by omega,by omega,by go_num,fun f e h1 h2=>absurd h1 (by omega),HB5.o⟩
  case round=>
   obtain⟨j,hij,hj,rfl,hno,hbw⟩:=hrel;obtain⟨wo,rfl⟩:=exE wr;have HNo:=Jh hno;have HBW:=Jh hbw;clear hno hbw;by_cases hlt:j<k
   ·have hlb:decide ((j:Int)<(k:Int))=true:=by simp;omega
    have hlb2:decide (j<k)=true:=by simpa using hlt
    have HEo:=Jh (HE.o.sees (Below.sees HBW.o));obtain⟨g1,o1,e,hA1,hej,he0,he1,he2,_⟩:=HEo.o.at_ (show j<n by omega);simp only[Option.some.injEq,Addr.mk.injEq,and_true] at hA1;obtain⟨rfl,rfl⟩:=hA1;obtain⟨g2,o2,x2,hA2,hx2,hc0,_⟩:=HEo.o.at_ hin;obtain rfl:x2=x':=Option.some.inj (hx2.symm.trans HX.o);simp only[Option.some.injEq,Addr.mk.injEq,and_true] at hA2;obtain⟨rfl,rfl⟩:=hA2
    have hj1:decide ((j:Int)<0)=false:=by simp
    have hjN:(j:Int)<(n:Int):=by omega
    have HEJ:=Jh hej;clear hej hx2;by_cases hfe:e.k=3/\e.h=x2.h
    ·have hf1:(e.k==3)=true:=by simpa using hfe.1
     have hf2:(e.h==x2.h)=true:=by simpa using hfe.2
     have HT:=Jh (show keepsB l i k x2 y'=true from by rw[HF3.o];exact fence_mem.2 ⟨j,e,by omega,hlt,HEJ.o,hfe.1,hfe.2⟩);clear hfe;go_upto_region 11 with fail
     go_quiet (fail)
     go_wp2_with fail;go_ret;exact⟨ret_bool HT.o.symm,bN HBW.o⟩
    have HN:=Jh (show∀(f:Nat) (e:Ev),i<f->f<j+1->l[f]?=some e->¬(e.k=3/\e.h=x2.h) from fun f e' h1 h2 h3=>by
     by_cases hf:f=j
     ·subst hf;rw[HEJ.o] at h3;cases h3;exact hfe
     exact HNo.o f e' h1 (by omega) h3)
    have hsp2:(e.k==3)=false\/((e.k==3)=true/\(e.h==x2.h)=false):=by
     by_cases h1:e.k=3
     ·exact .inr ⟨by simpa using h1,by simpa using fun h2=>hfe ⟨h1,h2⟩⟩
     exact .inl (by simpa using h1)
    clear hfe;go_upto_region 11 with fail
    rcases hsp2 with hf1|⟨hf1,hf2⟩
    all_goals
     go_quiet (fail)
     obtain⟨W6,hW6⟩:=exE (wo.drewN nq);rw[<-hW6];have HB6:=Jh (bT HBW.o (show Below wo.heap.size wo W6 from hW6▸bN (bR wo)));clear hW6 he0 he1 he2 hc0;go_wp2_with fail;go_roundw;case rel=>exact⟨j+1,by omega,by omega,by go_num,HN.o,HB6.o⟩
     case measure=>simp[intOf];omega
   have hlb:decide ((j:Int)<(k:Int))=false:=by simp;omega
   have hlb2:decide (j<k)=false:=by simpa using hlt
   have HT:=Jh (show keepsB l i k x' y'=false from by rw[HF3.o];exact noFence HX.o HXA.o fun f e h1 h2 h3=>HNo.o f e h1 (by omega) h3);go_wp2_with fail;go_ret;exact⟨ret_bool HT.o.symm,HBW.o⟩
end Go.Proofs.YtnigadeohmlpiaaGreatDoor
namespace Go.Proofs.YtnigadeohmlpiaaGreatDoor
open Go.RowKit
attribute [local go_sem] Oper.semAt_some
def InTurn(l:List Ev)(xs:List Nat)(a b:Nat):Prop:=∀(i j:Nat) (x y:Ev),xs[a]?=some i->l[i]?=some x->xs[b]?=some j->l[j]?=some y->keepsB l i j x y=false
def HoldsAt(l:List Ev)(xs:List Nat)(a:Nat):Prop:=(∀b,b<a->InTurn l xs a b)/\∀(i:Nat) (x:Ev),xs[a]?=some i->l[i]?=some x->x.k=1->(valueP l i x xs).2=x.n
def HoldsP(l:List Ev)(xs:List Nat):Prop:=OrderedP l xs/\∀a,a<xs.length->HoldsAt l xs a
theorem holds76_any(A B:Option Addr)(n c m d:Nat)(l:List Ev)(xs:List Nat)(w:World)(he:IsEvs w A n c l)(hx:Rd w 1 B m (ints (natI xs)))(hn:n<=8)(hm:m<=1000)(hok:∀e∈l,e.Ok)(hxs:∀j∈xs,j<n):
  Calls Tryz.prog 76 #[.slice A n c,.slice B m d] w fun o w'=>(∃b,o=.returned (.bool b)/\(b=true↔HoldsP l xs))/\Below w.heap.size w w':=by
 have HX:=Jh hx;have HE:=Jh he;have hxl:xs.length=m:=by have:=hx.1;simp[ints,natI] at this;omega
 have HXL:=Jh hxl;have HEL:=Jh he.len;have HXS:=Jh hxs;have HOk:=Jh hok;have HR:=Jh (right39_yes A n c l w he hn hok);have HO:=Jh (fun(wx:World) (hb:Below w.heap.size w wx)=>ordered75_any A B n c m d l xs wx (HE.o.sees (Below.sees hb)) (HX.o.below hb) (by omega) hm);have HNM:=Jh (And.intro hn hm);clear hx hxl he hxs hok hn hm;go_enter Tryz.func76,Tryz.ntmps76;go_wp2_with fail;refine HR.o.mono ?_
 rintro o w1 ⟨rfl,hb1⟩;have HB1:=Jh hb1;have HO1:=Jh (HO.o w1 hb1);clear hb1;go_wp2_with fail;refine HO1.o.mono ?_;rintro o w2 ⟨⟨b0,rfl,hb0⟩,hb2⟩;have HB2:=Jh (bT HB1.o hb2);have HB0:=Jh hb0;clear hb2 hb0;cases b0 with
 |false=>go_wp2_with fail;go_ret;exact⟨⟨false,rfl,by simp,fun h=>by have:=HB0.o.2 h.1;cases this⟩,HB2.o⟩
 |true=>
  have HOr:=Jh (HB0.o.1 rfl);clear HB0;go_wp2_with fail;go_loopw [7] (fun va wr=>∃a:Nat,a<=m/\va=.int .i64 a/\(∀q,q<a->HoldsAt l xs q)/\Below w.heap.size w wr) (fun va _=>m-(intOf va).toNat);case atStart=>exact⟨0,Nat.zero_le _,rfl,fun q hq=>absurd hq (by omega),HB2.o⟩
  case round=>
   obtain⟨a,ha,rfl,hall,hbw⟩:=hrel;obtain⟨wo,rfl⟩:=exE wr;have HAll:=Jh hall;have HBW:=Jh hbw;clear hall hbw;have hn:=HNM.o.1;have hm:=HNM.o.2;by_cases hlt:a<m
   ·have hlb:decide ((a:Int)<(m:Int))=true:=by simp;omega
    obtain⟨b1,o1,z,rfl,hxa,hc1⟩:=(HX.o.below HBW.o).int hlt;obtain⟨i,rfl,hxi⟩:=natI_at hxa;have hin:i<n:=HXS.o i (List.mem_of_getElem? hxi);obtain⟨x,hx⟩:∃x,l[i]?=some x:=⟨_,List.getElem?_eq_getElem (by have:=HEL.o;omega)⟩;have HXI:=Jh hxi;have HXx:=Jh hx;clear hxa hxi hx;have ham:(a:Int)<(m:Int):=by omega
    have ha0:decide ((a:Int)<0)=false:=by simp
    go_wp2_with fail;clear hc1;go_loopw [9] (fun vb wr=>∃b:Nat,b<=a/\vb=.int .i64 b/\(∀q,q<b->InTurn l xs a q)/\Below w.heap.size w wr) (fun vb _=>a-(intOf vb).toNat);case atStart=>exact⟨0,Nat.zero_le _,rfl,fun q hq=>absurd hq (by omega),HBW.o⟩
    case round=>
     obtain⟨b,hb,rfl,hturn,hbq⟩:=hrel;obtain⟨wi,rfl⟩:=exE wr;have HTurn:=Jh hturn;have HBQ:=Jh hbq;clear hturn hbq;by_cases hbl:b<a
     ·have hlb1:decide ((b:Int)<(a:Int))=true:=by simp;omega
      have hlb2:decide (b<a)=true:=by simpa using hbl
      obtain⟨b2,o2,z,hBB,hxb,hc2⟩:=(HX.o.below HBQ.o).int (show b<m by omega);simp only[Option.some.injEq,Addr.mk.injEq,and_true] at hBB;obtain⟨rfl,rfl⟩:=hBB;obtain⟨j,rfl,hxj⟩:=natI_at hxb;have hjn:j<n:=HXS.o j (List.mem_of_getElem? hxj);obtain⟨y,hy⟩:∃y,l[j]?=some y:=⟨_,List.getElem?_eq_getElem (by have:=HEL.o;omega)⟩;have hbm:(b:Int)<(m:Int):=by omega
      have hb0:decide ((b:Int)<0)=false:=by simp
      have HK:=Jh (keeps79_any A n c i j l x y wi (HE.o.sees (Below.sees HBQ.o)) hn HOk.o HXx.o hy);have HIT:=Jh (show keepsB l i j x y=false->InTurn l xs a b from fun h i' j' x' y' h1 h2 h3 h4=>by rw[HXI.o] at h1;cases h1;rw[HXx.o] at h2;cases h2;rw[hxj] at h3;cases h3;rw[hy] at h4;cases h4;exact h)
      have HIF:=Jh (show keepsB l i j x y=true->¬HoldsP l xs from fun h h9=>by have h1:=(h9.2 a (by have:=HXL.o;omega)).1 b hbl i j x y HXI.o HXx.o hxj hy;rw[h] at h1;cases h1);obtain⟨kb,hkb⟩:=exE (keepsB l i j x y);rw[<-hkb] at HK HIT HIF;clear hxb hxj hy hkb;go_wp2_with fail;refine HK.o.mono ?_;rintro o w3 ⟨rfl,hb3⟩;have HB3:=Jh (bT HBQ.o hb3);clear hb3 hc2;cases kb with
      |true=>have HN:=Jh (HIF.o rfl);go_wp2_with fail;go_ret;exact⟨⟨false,rfl,by simp,fun h=>absurd h HN.o⟩,HB3.o⟩
      |false=>
       have HN:=Jh (show∀q,q<b+1->InTurn l xs a q from fun q hq=>by
        by_cases hqb:q=b
        ·exact hqb▸HIT.o rfl
        exact HTurn.o q (by omega))
       go_wp2_with fail;go_roundw;case rel=>exact⟨b+1,by omega,by go_num,HN.o,HB3.o⟩
       case measure=>simp[intOf];omega
     have hlb1:decide ((b:Int)<(a:Int))=false:=by simp;omega
     have hlb2:decide (b<a)=false:=by simpa using hbl
     have HT:=Jh (show∀q,q<a->InTurn l xs a q from fun q hq=>HTurn.o q (by omega));have HEi:=Jh (HE.o.sees (Below.sees HBQ.o));obtain⟨ge,oe,x',rfl,hx',hd0,hd1,hd2,hd3⟩:=HEi.o.at_ hin;obtain rfl:x'=x:=Option.some.inj (hx'.symm.trans HXx.o);have hi1:decide ((i:Int)<0)=false:=by simp
     have hiN:(i:Int)<(n:Int):=by omega
     have HXb:=Jh (HX.o.below HBQ.o);clear hx' hd0 hd2;by_cases hk1:x'.k=1
     ·have HVl:=Jh (fun(wx:World) (hb:Below wi.heap.size wi wx)=>value103_any (some ⟨ge,oe,none⟩) (some ⟨b1,o1,none⟩) n c m d i l xs x' wx (HEi.o.sees (Below.sees hb)) (HXb.o.below hb) (by omega) (by omega) HXx.o hk1 HXS.o);rw[hk1] at hd1;obtain⟨vv,hvv⟩:=exE ((valueP l i x' xs).2);obtain⟨xn,hxn⟩:=exE (x'.n);rw[<-hvv] at HVl;rw[<-hxn] at hd3
      have HCx:=Jh (fun(wx:World) (hb:Below wi.heap.size wi wx)=>And.intro ((hb.cell (cell_lt hd1)).trans hd1) ((hb.cell (cell_lt hd3)).trans hd3));have HEQ:=Jh (And.intro hvv hxn);have HK1:=Jh hk1;clear hvv hxn hk1 hd1 hd3;go_upto_region 15 with fail
      by_cases hve:vv=xn
      ·have hne:(vv !=xn)=false:=by simp[hve]
       have HN:=Jh (show∀q,q<a+1->HoldsAt l xs q from fun q hq=>by
        by_cases hqa:q=a
        ·subst hqa;refine⟨HT.o,fun i' x'' h1 h2 _=>?_⟩;rw[HXI.o] at h1;cases h1;rw[HXx.o] at h2;cases h2;rw[<-HEQ.o.1,<-HEQ.o.2];exact hve
        exact HAll.o q (by omega))
       clear hve;have rr:∀(wx:World),Below wx.heap.size wx wx:=fun wx=>bR wx
       refine wp_region_det (by kernel_rfl) (fun f=>(⟨#[Value.slice (some ⟨ge,oe,none⟩) n c,Value.slice (some ⟨b1,o1,none⟩) m d,undef,undef,u4,Value.bool true,Value.bool true,.int .i64 (a:Int),.int .i64 (i:Int),.int .i64 (b:Int),u10,Value.slice (some ⟨ge,oe,none⟩) n c,Value.bool true,Value.slice (some ⟨ge,oe,none⟩) n c,Value.slice (some ⟨b1,o1,none⟩) m d,Value.bool true,Value.bool true,Value.bool false,Value.bool false,Value.bool true,Value.bool false,Value.bool false,.int .i64 (a:Int),Value.slice (some ⟨b1,o1,none⟩) m d,.int .i64 (m:Int),Value.bool true,u26,u27,Value.slice (some ⟨b1,o1,none⟩) m d,.int .i64 (a:Int),Value.pointer (some ⟨b1,o1+a,none⟩),.int .i64 (i:Int),.int .i64 (b:Int),.int .i64 (a:Int),Value.bool false,u35,u36,u37,u38,u39,u40,u41,u42,u43,u44,f 0,f 1,f 2,f 3,f 4,f 5,f 6,f 7,f 8,f 9,f 10,f 11,f 12,f 13,f 14,f 15,f 16,f 17],[]⟩:Act)) (fun(iv:Nat) (lv:Nat->Bool) (fv:Nat->Value) (wx:World)=>match iv with|0=>fv 0=.slice (some ⟨ge,oe,none⟩) n c|1=>fv 1=.int .i64 i|2=>fv 2=.pointer (some ⟨ge,oe+i*4,none⟩)|3=>fv 3=.pointer (some ⟨ge,oe+i*4+1,none⟩)|4=>fv 4=.int .i64 1|5=>fv 5=.bool true|6=>fv 6=.bool true|7=>fv 7=.slice (some ⟨ge,oe,none⟩) n c|8=>fv 8=.slice (some ⟨b1,o1,none⟩) m d|9=>fv 9=.int .i64 i|10=>fv 10=.int .i64 vv|11=>fv 11=.slice (some ⟨ge,oe,none⟩) n c|12=>fv 12=.int .i64 i|13=>fv 13=.pointer (some ⟨ge,oe+i*4,none⟩)|14=>fv 14=.pointer (some ⟨ge,oe+i*4+3,none⟩)|15=>fv 15=.int .i64 xn|16=>fv 16=.bool false|17=>fv 17=.bool false|_=>True) (fun _ wx=>Below wi.heap.size wi wx) (fun _ w1 w2=>Below w1.heap.size w1 w2) (by kernel_rfl) (fun k=>match k with|0=>u45|1=>u46|2=>u47|3=>u48|4=>u49|5=>u50|6=>u51|7=>u52|8=>u53|9=>u54|10=>u55|11=>u56|12=>u57|13=>u58|14=>u59|15=>u60|16=>u61|17=>u62|_=>undef) rfl ?keep (bD (bR wi)) ?steps ?fin
       case keep=>
        intro iv j hij hd l f f' w1 w2 hf hR
        match j with
        |0|1|2|3|4|5|6|7|8|9|10|11|12|13|14|15|16|17=>exact fun h=>(hf _ (Ne.symm hij)).trans h
        |_+18=>exact id
       case steps=>
        refine fun iv hiv=>stepsOf_at (k:=0) (n:=18) ?_ iv (Nat.zero_le _) (by rw[Nat.zero_add];exact hiv);refine sD 0 17 aT0 [] (fun f wq l hl hun hdn hS hd K' HK=>?_) ?_
        ·clear hd;have HSS:=Jh hS;clear hS;go_simp;exact HK.o _ _ _ rfl rfl HSS.o (rr _)
        refine sD 1 16 aT1 [] (fun f wq l hl hun hdn hS hd K' HK=>?_) ?_
        ·clear hd;have HSS:=Jh hS;clear hS;go_simp;exact HK.o _ _ _ rfl rfl HSS.o (rr _)
        refine sD 2 15 aT2 [0,1] (fun f wq l hl hun hdn hS hd K' HK=>?_) ?_
        ·obtain⟨e0,e1,-⟩:=hd;have e0:f 0=_:=e0;have e1:f 1=_:=e1;have HSS:=Jh hS;clear hS;simp only[e0,e1];go_simp;exact HK.o _ _ _ (by simp only[e0,e1];rfl) rfl HSS.o (rr _)
        refine sD 3 14 aT3 [2] (fun f wq l hl hun hdn hS hd K' HK=>?_) ?_
        ·obtain⟨e2,-⟩:=hd;have e2:f 2=_:=e2;have HSS:=Jh hS;clear hS;simp only[e2];go_simp;exact HK.o _ _ _ (by simp only[e2];rfl) rfl HSS.o (rr _)
        refine sD 4 13 aT4 [3] (fun f wq l hl hun hdn hS hd K' HK=>?_) ?_
        ·obtain⟨e3,-⟩:=hd;have e3:f 3=_:=e3;have q0:=(HCx.o wq hS).1;have HSS:=Jh hS;clear hS;simp only[e3];go_simp;exact HK.o _ _ _ (by simp only[e3];rfl) rfl HSS.o (rr _)
        refine sD 5 12 aT5 [4] (fun f wq l hl hun hdn hS hd K' HK=>?_) ?_
        ·obtain⟨e4,-⟩:=hd;have e4:f 4=_:=e4;have HSS:=Jh hS;clear hS;simp only[e4];go_simp;exact HK.o _ _ _ (by simp only[e4];rfl) rfl HSS.o (rr _)
        refine sD 6 11 aT6 [5] (fun f wq l hl hun hdn hS hd K' HK=>?_) ?_
        ·obtain⟨e5,-⟩:=hd;have e5:f 5=_:=e5;have HSS:=Jh hS;clear hS;simp only[e5];go_simp;exact HK.o _ _ _ (by simp only[e5];rfl) rfl HSS.o (rr _)
        refine sD 7 10 aT7 [6] (fun f wq l hl hun hdn hS hd K' HK=>?_) ?_
        ·obtain⟨e6,-⟩:=hd;have e6:f 6=_:=e6;have HSS:=Jh hS;clear hS;simp only[e6];go_simp;exact HK.o _ _ _ (by simp only[e6];rfl) rfl HSS.o (rr _)
        refine sD 8 9 aT8 [6] (fun f wq l hl hun hdn hS hd K' HK=>?_) ?_
        ·obtain⟨e6,-⟩:=hd;have e6:f 6=_:=e6;have HSS:=Jh hS;clear hS;simp only[e6];go_simp;exact HK.o _ _ _ (by simp only[e6];rfl) rfl HSS.o (rr _)
        refine sD 9 8 aT9 [6] (fun f wq l hl hun hdn hS hd K' HK=>?_) ?_
        ·obtain⟨e6,-⟩:=hd;have e6:f 6=_:=e6;have HSS:=Jh hS;clear hS;simp only[e6];go_simp;exact HK.o _ _ _ (by simp only[e6];rfl) rfl HSS.o (rr _)
        refine sD 10 7 aT10 [6,7,8,9] (fun f wq l hl hun hdn hS hd K' HK=>?_) ?_
        ·obtain⟨e6,e7,e8,e9,-⟩:=hd;have e6:f 6=_:=e6;have e7:f 7=_:=e7;have e8:f 8=_:=e8;have e9:f 9=_:=e9;have HCz:=Jh (HVl.o wq hS);have HSS:=Jh hS;clear hS;simp only[e6,e7,e8,e9];go_simp;go_wp2_with fail;refine HCz.o.mono ?_;rintro o w9 ⟨rfl,hb9⟩;exact HK.o _ _ _ (by simp only[e6,e7,e8,e9];rfl) rfl (bT HSS.o hb9) hb9
        refine sD 11 6 aT11 [6] (fun f wq l hl hun hdn hS hd K' HK=>?_) ?_
        ·obtain⟨e6,-⟩:=hd;have e6:f 6=_:=e6;have HSS:=Jh hS;clear hS;simp only[e6];go_simp;exact HK.o _ _ _ (by simp only[e6];rfl) rfl HSS.o (rr _)
        refine sD 12 5 aT12 [6] (fun f wq l hl hun hdn hS hd K' HK=>?_) ?_
        ·obtain⟨e6,-⟩:=hd;have e6:f 6=_:=e6;have HSS:=Jh hS;clear hS;simp only[e6];go_simp;exact HK.o _ _ _ (by simp only[e6];rfl) rfl HSS.o (rr _)
        refine sD 13 4 aT13 [6,11,12] (fun f wq l hl hun hdn hS hd K' HK=>?_) ?_
        ·obtain⟨e6,e11,e12,-⟩:=hd;have e6:f 6=_:=e6;have e11:f 11=_:=e11;have e12:f 12=_:=e12;have HSS:=Jh hS;clear hS;simp only[e6,e11,e12];go_simp;exact HK.o _ _ _ (by simp only[e6,e11,e12];rfl) rfl HSS.o (rr _)
        refine sD 14 3 aT14 [6,13] (fun f wq l hl hun hdn hS hd K' HK=>?_) ?_
        ·obtain⟨e6,e13,-⟩:=hd;have e6:f 6=_:=e6;have e13:f 13=_:=e13;have HSS:=Jh hS;clear hS;simp only[e6,e13];go_simp;exact HK.o _ _ _ (by simp only[e6,e13];rfl) rfl HSS.o (rr _)
        refine sD 15 2 aT15 [6,14] (fun f wq l hl hun hdn hS hd K' HK=>?_) ?_
        ·obtain⟨e6,e14,-⟩:=hd;have e6:f 6=_:=e6;have e14:f 14=_:=e14;have q0:=(HCx.o wq hS).2;have HSS:=Jh hS;clear hS;simp only[e6,e14];go_simp;exact HK.o _ _ _ (by simp only[e6,e14];rfl) rfl HSS.o (rr _)
        refine sD 16 1 aT16 [6,10,15] (fun f wq l hl hun hdn hS hd K' HK=>?_) ?_
        ·obtain⟨e6,e10,e15,-⟩:=hd;have e6:f 6=_:=e6;have e10:f 10=_:=e10;have e15:f 15=_:=e15;have HSS:=Jh hS;clear hS;simp only[e6,e10,e15];go_simp;exact HK.o _ _ _ (by simp only[e6,e10,e15];rfl) rfl HSS.o (rr _)
        refine sD 17 0 aT17 [6,16] (fun f wq l hl hun hdn hS hd K' HK=>?_) ?_
        ·obtain⟨e6,e16,-⟩:=hd;have e6:f 6=_:=e6;have e16:f 16=_:=e16;have HSS:=Jh hS;clear hS;simp only[e6,e16];go_simp;exact HK.o _ _ _ (by simp only[e6,e16];rfl) rfl HSS.o (rr _)
        exact trivial
       case fin=>
        intro fo wz lo hl hall hS;have a17:fo 17=_:=hall 17 (by decide);clear hall;simp only[a17];clear a17 rr hl;obtain⟨WE,rfl⟩:=exE wz;have HBE:=Jh (bT HBQ.o hS);clear hS;go_wp2_with fail;go_roundw;case rel=>exact⟨a+1,by omega,by go_num,HN.o,HBE.o⟩
        case measure=>simp[intOf];omega
      have hne:(vv !=xn)=true:=by simpa using hve
      have HN:=Jh (show¬HoldsP l xs from fun h=>by have h1:=(h.2 a (by have:=HXL.o;omega)).2 i x' HXI.o HXx.o HK1.o;rw[<-HEQ.o.1,<-HEQ.o.2] at h1;exact hve h1);clear hve;have rr:∀(wx:World),Below wx.heap.size wx wx:=fun wx=>bR wx
      refine wp_region_det (by kernel_rfl) (fun f=>(⟨#[Value.slice (some ⟨ge,oe,none⟩) n c,Value.slice (some ⟨b1,o1,none⟩) m d,undef,undef,u4,Value.bool true,Value.bool true,.int .i64 (a:Int),.int .i64 (i:Int),.int .i64 (b:Int),u10,Value.slice (some ⟨ge,oe,none⟩) n c,Value.bool true,Value.slice (some ⟨ge,oe,none⟩) n c,Value.slice (some ⟨b1,o1,none⟩) m d,Value.bool true,Value.bool true,Value.bool false,Value.bool false,Value.bool true,Value.bool false,Value.bool false,.int .i64 (a:Int),Value.slice (some ⟨b1,o1,none⟩) m d,.int .i64 (m:Int),Value.bool true,u26,u27,Value.slice (some ⟨b1,o1,none⟩) m d,.int .i64 (a:Int),Value.pointer (some ⟨b1,o1+a,none⟩),.int .i64 (i:Int),.int .i64 (b:Int),.int .i64 (a:Int),Value.bool false,u35,u36,u37,u38,u39,u40,u41,u42,u43,u44,f 0,f 1,f 2,f 3,f 4,f 5,f 6,f 7,f 8,f 9,f 10,f 11,f 12,f 13,f 14,f 15,f 16,f 17],[]⟩:Act)) (fun(iv:Nat) (lv:Nat->Bool) (fv:Nat->Value) (wx:World)=>match iv with|0=>fv 0=.slice (some ⟨ge,oe,none⟩) n c|1=>fv 1=.int .i64 i|2=>fv 2=.pointer (some ⟨ge,oe+i*4,none⟩)|3=>fv 3=.pointer (some ⟨ge,oe+i*4+1,none⟩)|4=>fv 4=.int .i64 1|5=>fv 5=.bool true|6=>fv 6=.bool true|7=>fv 7=.slice (some ⟨ge,oe,none⟩) n c|8=>fv 8=.slice (some ⟨b1,o1,none⟩) m d|9=>fv 9=.int .i64 i|10=>fv 10=.int .i64 vv|11=>fv 11=.slice (some ⟨ge,oe,none⟩) n c|12=>fv 12=.int .i64 i|13=>fv 13=.pointer (some ⟨ge,oe+i*4,none⟩)|14=>fv 14=.pointer (some ⟨ge,oe+i*4+3,none⟩)|15=>fv 15=.int .i64 xn|16=>fv 16=.bool true|17=>fv 17=.bool true|_=>True) (fun _ wx=>Below wi.heap.size wi wx) (fun _ w1 w2=>Below w1.heap.size w1 w2) (by kernel_rfl) (fun k=>match k with|0=>u45|1=>u46|2=>u47|3=>u48|4=>u49|5=>u50|6=>u51|7=>u52|8=>u53|9=>u54|10=>u55|11=>u56|12=>u57|13=>u58|14=>u59|15=>u60|16=>u61|17=>u62|_=>undef) rfl ?keep (bD (bR wi)) ?steps ?fin
      case keep=>
       intro iv j hij hd l f f' w1 w2 hf hR
       match j with
       |0|1|2|3|4|5|6|7|8|9|10|11|12|13|14|15|16|17=>exact fun h=>(hf _ (Ne.symm hij)).trans h
       |_+18=>exact id
      case steps=>
       refine fun iv hiv=>stepsOf_at (k:=0) (n:=18) ?_ iv (Nat.zero_le _) (by rw[Nat.zero_add];exact hiv);refine sD 0 17 aT0 [] (fun f wq l hl hun hdn hS hd K' HK=>?_) ?_
       ·clear hd;have HSS:=Jh hS;clear hS;go_simp;exact HK.o _ _ _ rfl rfl HSS.o (rr _)
       refine sD 1 16 aT1 [] (fun f wq l hl hun hdn hS hd K' HK=>?_) ?_
       ·clear hd;have HSS:=Jh hS;clear hS;go_simp;exact HK.o _ _ _ rfl rfl HSS.o (rr _)
       refine sD 2 15 aT2 [0,1] (fun f wq l hl hun hdn hS hd K' HK=>?_) ?_
       ·obtain⟨e0,e1,-⟩:=hd;have e0:f 0=_:=e0;have e1:f 1=_:=e1;have HSS:=Jh hS;clear hS;simp only[e0,e1];go_simp;exact HK.o _ _ _ (by simp only[e0,e1];rfl) rfl HSS.o (rr _)
       refine sD 3 14 aT3 [2] (fun f wq l hl hun hdn hS hd K' HK=>?_) ?_
       ·obtain⟨e2,-⟩:=hd;have e2:f 2=_:=e2;have HSS:=Jh hS;clear hS;simp only[e2];go_simp;exact HK.o _ _ _ (by simp only[e2];rfl) rfl HSS.o (rr _)
       refine sD 4 13 aT4 [3] (fun f wq l hl hun hdn hS hd K' HK=>?_) ?_
       ·obtain⟨e3,-⟩:=hd;have e3:f 3=_:=e3;have q0:=(HCx.o wq hS).1;have HSS:=Jh hS;clear hS;simp only[e3];go_simp;exact HK.o _ _ _ (by simp only[e3];rfl) rfl HSS.o (rr _)
       refine sD 5 12 aT5 [4] (fun f wq l hl hun hdn hS hd K' HK=>?_) ?_
       ·obtain⟨e4,-⟩:=hd;have e4:f 4=_:=e4;have HSS:=Jh hS;clear hS;simp only[e4];go_simp;exact HK.o _ _ _ (by simp only[e4];rfl) rfl HSS.o (rr _)
       refine sD 6 11 aT6 [5] (fun f wq l hl hun hdn hS hd K' HK=>?_) ?_
       ·obtain⟨e5,-⟩:=hd;have e5:f 5=_:=e5;have HSS:=Jh hS;clear hS;simp only[e5];go_simp;exact HK.o _ _ _ (by simp only[e5];rfl) rfl HSS.o (rr _)
       refine sD 7 10 aT7 [6] (fun f wq l hl hun hdn hS hd K' HK=>?_) ?_
       ·obtain⟨e6,-⟩:=hd;have e6:f 6=_:=e6;have HSS:=Jh hS;clear hS;simp only[e6];go_simp;exact HK.o _ _ _ (by simp only[e6];rfl) rfl HSS.o (rr _)
       refine sD 8 9 aT8 [6] (fun f wq l hl hun hdn hS hd K' HK=>?_) ?_
       ·obtain⟨e6,-⟩:=hd;have e6:f 6=_:=e6;have HSS:=Jh hS;clear hS;simp only[e6];go_simp;exact HK.o _ _ _ (by simp only[e6];rfl) rfl HSS.o (rr _)
       refine sD 9 8 aT9 [6] (fun f wq l hl hun hdn hS hd K' HK=>?_) ?_
       ·obtain⟨e6,-⟩:=hd;have e6:f 6=_:=e6;have HSS:=Jh hS;clear hS;simp only[e6];go_simp;exact HK.o _ _ _ (by simp only[e6];rfl) rfl HSS.o (rr _)
       refine sD 10 7 aT10 [6,7,8,9] (fun f wq l hl hun hdn hS hd K' HK=>?_) ?_
       ·obtain⟨e6,e7,e8,e9,-⟩:=hd;have e6:f 6=_:=e6;have e7:f 7=_:=e7;have e8:f 8=_:=e8;have e9:f 9=_:=e9;have HCz:=Jh (HVl.o wq hS);have HSS:=Jh hS;clear hS;simp only[e6,e7,e8,e9];go_simp;go_wp2_with fail;refine HCz.o.mono ?_;rintro o w9 ⟨rfl,hb9⟩;exact HK.o _ _ _ (by simp only[e6,e7,e8,e9];rfl) rfl (bT HSS.o hb9) hb9
       refine sD 11 6 aT11 [6] (fun f wq l hl hun hdn hS hd K' HK=>?_) ?_
       ·obtain⟨e6,-⟩:=hd;have e6:f 6=_:=e6;have HSS:=Jh hS;clear hS;simp only[e6];go_simp;exact HK.o _ _ _ (by simp only[e6];rfl) rfl HSS.o (rr _)
       refine sD 12 5 aT12 [6] (fun f wq l hl hun hdn hS hd K' HK=>?_) ?_
       ·obtain⟨e6,-⟩:=hd;have e6:f 6=_:=e6;have HSS:=Jh hS;clear hS;simp only[e6];go_simp;exact HK.o _ _ _ (by simp only[e6];rfl) rfl HSS.o (rr _)
       refine sD 13 4 aT13 [6,11,12] (fun f wq l hl hun hdn hS hd K' HK=>?_) ?_
       ·obtain⟨e6,e11,e12,-⟩:=hd;have e6:f 6=_:=e6;have e11:f 11=_:=e11;have e12:f 12=_:=e12;have HSS:=Jh hS;clear hS;simp only[e6,e11,e12];go_simp;exact HK.o _ _ _ (by simp only[e6,e11,e12];rfl) rfl HSS.o (rr _)
       refine sD 14 3 aT14 [6,13] (fun f wq l hl hun hdn hS hd K' HK=>?_) ?_
       ·obtain⟨e6,e13,-⟩:=hd;have e6:f 6=_:=e6;have e13:f 13=_:=e13;have HSS:=Jh hS;clear hS;simp only[e6,e13];go_simp;exact HK.o _ _ _ (by simp only[e6,e13];rfl) rfl HSS.o (rr _)
       refine sD 15 2 aT15 [6,14] (fun f wq l hl hun hdn hS hd K' HK=>?_) ?_
       ·obtain⟨e6,e14,-⟩:=hd;have e6:f 6=_:=e6;have e14:f 14=_:=e14;have q0:=(HCx.o wq hS).2;have HSS:=Jh hS;clear hS;simp only[e6,e14];go_simp;exact HK.o _ _ _ (by simp only[e6,e14];rfl) rfl HSS.o (rr _)
       refine sD 16 1 aT16 [6,10,15] (fun f wq l hl hun hdn hS hd K' HK=>?_) ?_
       ·obtain⟨e6,e10,e15,-⟩:=hd;have e6:f 6=_:=e6;have e10:f 10=_:=e10;have e15:f 15=_:=e15;have HSS:=Jh hS;clear hS;simp only[e6,e10,e15];go_simp;exact HK.o _ _ _ (by simp only[e6,e10,e15];rfl) rfl HSS.o (rr _)
       refine sD 17 0 aT17 [6,16] (fun f wq l hl hun hdn hS hd K' HK=>?_) ?_
       ·obtain⟨e6,e16,-⟩:=hd;have e6:f 6=_:=e6;have e16:f 16=_:=e16;have HSS:=Jh hS;clear hS;simp only[e6,e16];go_simp;exact HK.o _ _ _ (by simp only[e6,e16];rfl) rfl HSS.o (rr _)
       exact trivial
      case fin=>intro fo wz lo hl hall hS;have a17:fo 17=_:=hall 17 (by decide);clear hall;simp only[a17];clear a17 rr hl;obtain⟨WE,rfl⟩:=exE wz;have HBE:=Jh (bT HBQ.o hS);clear hS;go_wp2_with fail;go_ret;exact⟨⟨false,rfl,by simp,fun h=>absurd h HN.o⟩,HBE.o⟩
     have hb1:(x'.k==1)=false:=by simpa using hk1
     have HN:=Jh (show∀q,q<a+1->HoldsAt l xs q from fun q hq=>by
      by_cases hqa:q=a
      ·subst hqa;refine⟨HT.o,fun i' x'' h1 h2 h3=>?_⟩;rw[HXI.o] at h1;cases h1;rw[HXx.o] at h2;cases h2;exact absurd h3 hk1
      exact HAll.o q (by omega))
     clear hk1;go_upto_region 15 with fail
     go_quiet (fail)
     obtain⟨W6,hW6⟩:=exE (wi.drewN nq);rw[<-hW6];have HB6:=Jh (bT HBQ.o (show Below wi.heap.size wi W6 from hW6▸bN (bR wi)));clear hW6 hd1 hd3;go_wp2_with fail;go_roundw;case rel=>exact⟨a+1,by omega,by go_num,HN.o,HB6.o⟩
     case measure=>simp[intOf];omega
   have hlb:decide ((a:Int)<(m:Int))=false:=by simp;omega
   have HN:=Jh (show HoldsP l xs from⟨HOr.o,fun q hq=>HAll.o q (by have:=HXL.o;omega)⟩);go_wp2_with fail;go_ret;exact⟨⟨true,rfl,fun _=>HN.o,fun _=>rfl⟩,HBW.o⟩
end Go.Proofs.YtnigadeohmlpiaaGreatDoor
namespace Go.Proofs.YtnigadeohmlpiaaGreatDoor
open Go.RowKit
attribute [local go_sem] Oper.semAt_some
def FreeAt(l:List Ev)(xs:List Nat)(i:Nat):Prop:=∃x,l[i]?=some x/\x.acc=true/\i∉xs/\∀(k:Nat) (y:Ev),k<i->l[k]?=some y->keepsB l k i y x=true->k∈xs
inductive CanHold(l:List Ev):List Nat->Prop
 |done (xs:List Nat):OrderedP l xs->HoldsP l xs->CanHold l xs
 |step (xs:List Nat) (i:Nat):¬OrderedP l xs->FreeAt l xs i->CanHold l (xs++[i])->CanHold l xs
theorem canHold_ordered{l:List Ev}{xs:List Nat}(h:OrderedP l xs):CanHold l xs↔HoldsP l xs:=by
 constructor
 ·intro hc;cases hc with
  |done _ _ h2=>exact h2
  |step _ i h1 _ _=>exact absurd h h1
 exact .done xs h
theorem canHold_not{l:List Ev}{xs:List Nat}(h:¬OrderedP l xs):CanHold l xs↔∃i,FreeAt l xs i/\CanHold l (xs++[i]):=by
 constructor
 ·intro hc;cases hc with
  |done _ h1 _=>exact absurd h1 h
  |step _ i _ h2 h3=>exact⟨i,h2,h3⟩
 rintro⟨i,h2,h3⟩;exact .step xs i h h2 h3
theorem order_len{xs:List Nat}{n:Nat}(hn:xs.Nodup)(hxs:∀j∈xs,j<n):xs.length<=n:=by have:=nodup_len hn (K:=List.range n) fun z hz=>List.mem_range.2 (hxs z hz);rwa[List.length_range] at this
theorem order_snoc{xs:List Nat}{i n:Nat}(hn:xs.Nodup)(hxs:∀j∈xs,j<n)(hi:i<n)(h:i∉xs):(xs++[i]).Nodup/\∀j∈xs++[i],j<n:=by
 refine⟨?_,fun j hj=>?_⟩
 ·rw[List.nodup_append];refine⟨hn,by simp,fun a ha b hb=>?_⟩;simp only[List.mem_singleton] at hb;subst hb;rintro rfl;exact h ha
 rcases List.mem_append.1 hj with h1|h1
 ·exact hxs j h1
 simp only[List.mem_singleton] at h1;omega
theorem search47_any(A:Option Addr)(n c:Nat)(l:List Ev)(hn:n<=8)(hok:∀e∈l,e.Ok):∀(f:Nat) (B:Option Addr) (m d:Nat) (xs:List Nat) (w:World),n<=xs.length+f->xs.Nodup->(∀j∈xs,j<n)->IsEvs w A n c l->Rd w 1 B m (ints (natI xs))->
  Calls Tryz.prog 47 #[.slice A n c,.slice B m d] w fun o w'=>(∃b,o=.returned (.bool b)/\(b=true↔CanHold l xs))/\Below w.heap.size w w':=by
 obtain⟨i0,hinf,hz0,hz1,hz2⟩:=info_parts int_info;intro f;induction f using Nat.strongRecOn with
 |_ f ih=>
 intro B m d xs w hf hnd hxs he hx;have HIH:=Jh ih;have HX:=Jh hx;have HE:=Jh he;have hxl:xs.length=m:=by have:=hx.1;simp[ints,natI] at this;omega
 have HXL:=Jh hxl;have HEL:=Jh he.len;have HND:=Jh hnd;have HXS:=Jh hxs;have HOk:=Jh hok;have HF:=Jh hf;have hm8:m<=8:=by have:=order_len hnd hxs;omega
 have HM:=Jh hm8;have HO:=Jh (ordered75_any A B n c m d l xs w he hx (by omega) (by omega));clear ih hf hnd hxs he hx hxl hm8;go_enter Tryz.func47,Tryz.ntmps47;go_wp2_with fail;refine HO.o.mono ?_;rintro o w1 ⟨⟨b0,rfl,hb0⟩,hb1⟩;have HB1:=Jh hb1;have HH:=Jh (holds76_any A B n c m d l xs w1 (HE.o.sees (Below.sees hb1)) (HX.o.below hb1) hn (by have:=HM.o;omega) hok HXS.o);clear hb1;cases b0 with
 |true=>have HT:=Jh (canHold_ordered (hb0.1 rfl));clear hb0;go_wp2_with fail;refine HH.o.mono ?_;rintro o w2 ⟨⟨b1,rfl,hb1⟩,hb2⟩;have HB2:=Jh (bT HB1.o hb2);have HB1':=Jh hb1;clear hb1 hb2;go_wp2_with fail;go_ret;exact⟨⟨b1,rfl,HB1'.out.trans HT.o.symm⟩,HB2.o⟩
 |false=>
  have HNO:=Jh (show¬OrderedP l xs from fun h=>by have:=hb0.2 h;cases this);have HT:=Jh (canHold_not HNO.o);clear hb0;go_wp2_with fail;go_loopw [6] (fun vi wr=>∃i:Nat,i<=n/\vi=.int .i64 i/\(∀q,q<i->FreeAt l xs q->¬CanHold l (xs++[q]))/\Below w.heap.size w wr) (fun vi _=>n-(intOf vi).toNat);case atStart=>exact⟨0,Nat.zero_le _,rfl,fun q hq=>absurd hq (by omega),HB1.o⟩
  case round=>
   obtain⟨i,hi,rfl,hno,hbw⟩:=hrel;obtain⟨wo,rfl⟩:=exE wr;have HNo:=Jh hno;have HBW:=Jh hbw;clear hno hbw;have hm:=HM.o;by_cases hlt:i<n
   ·have hlb:decide ((i:Int)<(n:Int))=true:=by simp;omega
    obtain⟨x,hx⟩:∃x,l[i]?=some x:=⟨_,List.getElem?_eq_getElem (by have:=HEL.o;omega)⟩;have HXx:=Jh hx;have HAc:=Jh (access77_any A n c i l x wo (HE.o.sees (Below.sees HBW.o)) hx);have HSt:=Jh (show(FreeAt l xs i->¬CanHold l (xs++[i]))->∀q,q<i+1->FreeAt l xs q->¬CanHold l (xs++[q]) from fun h q hq=>by
     by_cases hqi:q=i
     ·exact hqi▸h
     exact HNo.o q (by omega))
    clear hx;go_wp2_with fail;refine HAc.o.mono ?_;rintro o w2 ⟨rfl,hb2⟩;have HB2:=Jh (bT HBW.o hb2);clear hb2;by_cases hac:x.acc=false
    ·have HN:=Jh (HSt.o fun⟨x',h1,h2,_⟩=>by rw[HXx.o] at h1;cases h1;rw[hac] at h2;cases h2);rw[hac];clear hac;go_wp2_with fail;go_roundw;case rel=>exact⟨i+1,by omega,by go_num,HN.o,HB2.o⟩
     case measure=>simp[intOf];omega
    have hac:x.acc=true:=by simpa using hac
    have HAcc:=Jh hac;have HPl:=Jh (place78_any B m d (natI xs) i w2 (HX.o.below HB2.o) (by omega));have hpz:=placeZ_nn (natI xs) i;obtain⟨z,hz⟩:=exE (placeZ (natI xs) i);rw[<-hz] at hpz HPl;rw[hac];clear hac hz;have HPZ:=Jh hpz;clear hpz;go_wp2_with fail;refine HPl.o.mono ?_;rintro o w3 ⟨rfl,hb3⟩;have HB3:=Jh (bT HB2.o hb3);clear hb3;by_cases hin:i∈xs
    ·have hpb:decide (z>=0)=true:=by rw[HPZ.o];simpa using natI_mem.2 hin
     have HN:=Jh (HSt.o fun⟨x',_,_,h3,_⟩=>absurd hin h3);clear hin;go_wp2_with fail;go_roundw;case rel=>exact⟨i+1,by omega,by go_num,HN.o,HB3.o⟩
     case measure=>simp[intOf];omega
    have hpb:decide (z>=0)=false:=by rw[HPZ.o];simpa using fun h=>hin (natI_mem.1 h)
    have HNin:=Jh hin;clear hin;go_wp2_with fail;go_loopw [8,9] (fun vf vk wr=>∃(k:Nat) (fb:Bool),k<=i/\vk=.int .i64 k/\vf=.bool fb/\(fb=true↔∀(q:Nat) (y:Ev),q<k->l[q]?=some y->keepsB l q i y x=true->q∈xs)/\Below w.heap.size w wr) (fun _ vk _=>i-(intOf vk).toNat);case atStart=>exact⟨0,true,Nat.zero_le _,rfl,rfl,⟨fun _ q y hq=>absurd hq (by omega),fun _=>rfl⟩,HB3.o⟩
    case round=>
     obtain⟨k,fb,hk,rfl,rfl,hfb,hbq⟩:=hrel;obtain⟨wi,rfl⟩:=exE wr;have HFB:=Jh hfb;have HBQ:=Jh hbq;clear hfb hbq;by_cases hki:k<i
     ·have hkb:decide ((k:Int)<(i:Int))=true:=by simp;omega
      have hkb2:decide (k<i)=true:=by simpa using hki
      obtain⟨y,hy⟩:∃y,l[k]?=some y:=⟨_,List.getElem?_eq_getElem (by have:=HEL.o;omega)⟩;have HK:=Jh (keeps79_any A n c k i l y x wi (HE.o.sees (Below.sees HBQ.o)) hn hok hy HXx.o);have HS2:=Jh (show(∀(q:Nat) (y:Ev),q<k+1->l[q]?=some y->keepsB l q i y x=true->q∈xs)↔fb=true/\(keepsB l k i y x=true->k∈xs) from by
       rw[HFB.o];constructor
       ·exact fun h=>⟨fun q y' hq=>h q y' (by omega),fun h1=>h k y (by omega) hy h1⟩
       rintro⟨h1,h2⟩ q y' hq h3 h4;by_cases hqk:q=k
       ·subst hqk;rw[hy] at h3;cases h3;exact h2 h4
       exact h1 q y' (by omega) h3 h4)
      obtain⟨kb,hkb3⟩:=exE (keepsB l k i y x);rw[<-hkb3] at HK HS2;clear hy hkb3;go_wp2_with fail;refine HK.o.mono ?_;rintro o w4 ⟨rfl,hb4⟩;have HB4:=Jh (bT HBQ.o hb4);clear hb4;cases fb with
      |false=>
       have HN:=Jh (show(false=true↔∀(q:Nat) (y:Ev),q<k+1->l[q]?=some y->keepsB l q i y x=true->q∈xs) from by rw[HS2.o];simp);go_wp2_with fail;go_roundw;case rel=>exact⟨k+1,false,by omega,by go_num,rfl,HN.o,HB4.o⟩
       case measure=>simp[intOf];omega
      |true=>
       cases kb with
       |false=>
        have HN:=Jh (show∀(q:Nat) (y:Ev),q<k+1->l[q]?=some y->keepsB l q i y x=true->q∈xs from HS2.o.2 ⟨rfl,fun h=>absurd h (by simp)⟩);go_wp2_with fail;go_roundw;case rel=>exact⟨k+1,true,by omega,by go_num,rfl,⟨fun _=>HN.o,fun _=>rfl⟩,HB4.o⟩
        case measure=>simp[intOf];omega
       |true=>
        have HPk:=Jh (place78_any B m d (natI xs) k w4 (HX.o.below HB4.o) (by omega));have HZk:=Jh (show decide (placeZ (natI xs) k>=0)=decide (k∈xs) from(placeZ_nn (natI xs) k).trans (by simp only[natI_mem]));obtain⟨z2,hz2⟩:=exE (placeZ (natI xs) k);rw[<-hz2] at HPk HZk;clear hz2;go_wp2_with fail;refine HPk.o.mono ?_;rintro o w5 ⟨rfl,hb5⟩;have HB5:=Jh (bT HB4.o hb5);clear hb5
        have HN:=Jh (show(decide (k∈xs)=true↔∀(q:Nat) (y:Ev),q<k+1->l[q]?=some y->keepsB l q i y x=true->q∈xs) from by rw[HS2.o];simp);obtain⟨kx,hkx⟩:=exE (decide (k∈xs));rw[<-hkx] at HZk HN;have hzk:=HZk.o;clear hkx;go_wp2_with fail;go_roundw;case rel=>exact⟨k+1,kx,by omega,by go_num,rfl,HN.o,HB5.o⟩
        case measure=>simp[intOf];omega
     have hkb:decide ((k:Int)<(i:Int))=false:=by simp;omega
     have hkb2:decide (k<i)=false:=by simpa using hki
     have hke:k=i:=by omega
     cases fb with
     |false=>
      have HN:=Jh (HSt.o fun⟨x',h1,_,_,h4⟩=>by rw[HXx.o] at h1;cases h1;have:=HFB.o.2 fun q y hq=>h4 q y (by omega);cases this);clear hke;go_wp2_with fail;go_roundw;case rel=>exact⟨i+1,by omega,by go_num,HN.o,HBQ.o⟩
      case measure=>simp[intOf];omega
     |true=>
      have HFr:=Jh (show FreeAt l xs i from⟨x,HXx.o,HAcc.o,HNin.o,fun q y hq=>HFB.o.1 rfl q y (by omega)⟩);have HSn:=Jh (order_snoc HND.o HXS.o hlt HNin.o);have HXi:=Jh (HX.o.below HBQ.o);clear hke HFB;have hf1:1<=f:=by have h1:=order_len HSn.o.1 HSn.o.2;have h2:=HF.o;rw[List.length_append] at h1;simp only[List.length_cons,List.length_nil] at h1;omega
      have HF1:=Jh hf1;clear hf1;go_upto_region 16 with fail
      go_wp2_with (first
       |(
         at_builtin
         refine wpList_append_rd _ rfl (.const (.slice none 0 0)) (.tmp 58) 32 rfl wi.heap.size 3 i0 _ 1 8 Tryz.underlying32 hinf hz0 hz1 hz2 rfl (by decide) (.slice none 0 0) 0 [] rfl (World.ownsRow_nil _ _ _ _) B m d (ints (natI xs)) rfl HXi.o (ints_one _) (by unfold maxLen;omega) (by omega) (Nat.le_refl _) ?_;intro v3 w3 hown3 hg3
         have HB3':=Jh (show Below wi.heap.size wi w3 from(bR wi).grown hg3 (Nat.le_refl _) (fun r e=>by cases e));have HO3:=Jh (show(w3.alloc (.cells #[.int .i64 i] 3)).ownsRow wi.heap.size 3 1 v3 m (ints (natI xs)) from by have h1:=hown3.alloc (.cells #[.int .i64 i] 3);rwa[Nat.zero_add,List.nil_append] at h1);have HNw:=Jh (heap_alloc_new w3 (.cells #[.int .i64 i] 3));clear hown3 hg3)
       |(
         at_builtin
         refine wpList_append_rd _ rfl (.tmp 59) (.tmp 61) 32 rfl wi.heap.size 3 i0 _ 1 8 Tryz.underlying32 hinf hz0 hz1 hz2 rfl (by decide) v3 m (ints (natI xs)) rfl HO3.o (some ⟨w3.heap.size,0,none⟩) 1 1 [.int .i64 i] rfl ⟨rfl,fun _=>⟨w3.heap.size,0,rfl,blk_lt HNw.o,fun j u hu=>one_cell HNw.o hu⟩⟩ (by simp[Value.oneCell']) (by unfold maxLen;omega) (by omega) (by have:=HB3'.out.size;simp;omega) ?_
         intro v5 w5 hown5 hg5;have HB5:=Jh (show Below wi.heap.size wi w5 from(bA HB3'.out).grown hg5 (bA HB3'.out).size (fun r e=>(HO3.o.lt r e).1));obtain⟨A5,c5,rfl,_,_⟩:=own_slice hown5;have HO5:=Jh (show Rd w5 1 A5 (m+1) (ints (natI (xs++[i]))) from by have h1:=(Row.of_own hown5).rd;simpa[ints,natI] using h1);clear hown5 hg5))
      refine(HIH.o (f-1) (by have:=HF1.o;omega) A5 (m+1) c5 (xs++[i]) w5 (by have:=HF.o;have:=HF1.o;rw[List.length_append];simp only[List.length_cons,List.length_nil];omega) HSn.o.1 HSn.o.2 (HE.o.sees (Below.sees (bT HBQ.o HB5.o))) HO5.o).mono ?_;rintro o w6 ⟨⟨b6,rfl,hb6⟩,hbb⟩;have HB6:=Jh (bT HBQ.o (bT HB5.o hbb));clear hbb;cases b6 with
      |true=>have HC:=Jh (HT.o.2 ⟨i,HFr.o,hb6.1 rfl⟩);clear hb6;go_wp2_with fail;go_ret;exact⟨⟨true,rfl,fun _=>HC.o,fun _=>rfl⟩,HB6.o⟩
      |false=>
       have HN:=Jh (HSt.o fun _ h=>by have:=hb6.2 h;cases this);clear hb6;go_wp2_with fail;go_roundw;case rel=>exact⟨i+1,by omega,by go_num,HN.o,HB6.o⟩
       case measure=>simp[intOf];omega
   have hlb:decide ((i:Int)<(n:Int))=false:=by simp;omega
   have HN:=Jh (show¬CanHold l xs from fun h=>by obtain⟨q,h1,h2⟩:=HT.o.1 h;obtain⟨x,h3,_⟩:=h1;exact HNo.o q (by have:=(List.getElem?_eq_some_iff.1 h3).1;have:=HEL.o;omega) ⟨x,h3,by assumption⟩ h2);go_wp2_with fail;go_ret;exact⟨⟨false,rfl,by simp,fun h=>absurd h HN.o⟩,HBW.o⟩
theorem allowed25_any(A:Option Addr)(n c:Nat)(l:List Ev)(w:World)(he:IsEvs w A n c l)(hn:n<=8)(hok:∀e∈l,e.Ok):
  Calls Tryz.prog 25 #[.slice A n c] w fun o w'=>(∃b,o=.returned (.bool b)/\(b=true↔CanHold l []))/\Below w.heap.size w w':=by
 have HE:=Jh he;have HR:=Jh (right39_yes A n c l w he hn hok);have HS:=Jh (fun(wx:World) (hb:Below w.heap.size w wx)=>search47_any A n c l hn hok n none 0 0 [] wx (by simp) List.nodup_nil (fun j hj=>by cases hj) (HE.o.sees (Below.sees hb)) ⟨rfl,fun h=>absurd h (by omega)⟩);clear he hn hok;go_enter Tryz.func25,Tryz.ntmps25;go_wp2_with fail;refine HR.o.mono ?_;rintro o w1 ⟨rfl,hb1⟩;have HB1:=Jh hb1
 have HS1:=Jh (HS.o w1 hb1);clear hb1;go_wp2_with fail;refine HS1.o.mono ?_;rintro o w2 ⟨⟨b,rfl,hb⟩,hb2⟩;have HB2:=Jh (bT HB1.o hb2);have HB:=Jh hb;clear hb hb2;go_wp2_with fail;go_ret;exact⟨⟨b,rfl,HB.o⟩,HB2.o⟩
end Go.Proofs.YtnigadeohmlpiaaGreatDoor
