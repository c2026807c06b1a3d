/- A contract of the document's answer for layer 12: what a load tells by an order. Its condition: that the numbers stand there. -/
import Derived.Test.YtnigadeohmlpiaaGreatDoorC32
set_option maxHeartbeats 32000000
set_option maxRecDepth 100000
namespace Go.Proofs.YtnigadeohmlpiaaGreatDoor
open Go.RowKit
attribute [local go_sem] Oper.semAt_some
def valHit(a:Bool)(i:Nat)(x:Ev)(j:Nat)(y:Ev):Bool:=(y.k==2&&y.a==x.a)&&(a||(decide (j<i)&&(y.h==x.h)))
def valStep(l:List Ev)(i:Nat)(x:Ev)(s:Bool×Int)(j:Nat):Bool×Int:=
 (s.1&&!decide (j=i),match l[j]?with
  |some y=>if valHit (s.1&&!decide (j=i)) i x j y then y.n else s.2
  |none=>s.2)
def valueP(l:List Ev)(i:Nat)(x:Ev)(xs:List Nat):Bool×Int:=xs.foldl (valStep l i x) (true,0)
theorem valueP_succ{l:List Ev}{i:Nat}{x:Ev}{xs:List Nat}{k j:Nat}{y:Ev}(hj:xs[k]?=some j)(hy:l[j]?=some y):valueP l i x (xs.take (k+1))=((valueP l i x (xs.take k)).1&&!decide (j=i),if valHit ((valueP l i x (xs.take k)).1&&!decide (j=i)) i x j y then y.n else(valueP l i x (xs.take k)).2):=by unfold valueP;rw[List.take_add_one,hj,List.foldl_append];show valStep l i x _ j=_;unfold valStep;rw[hy]
theorem value103_any(A B:Option Addr)(n c m d i:Nat)(l:List Ev)(xs:List Nat)(x:Ev)(w:World)(he:IsEvs w A n c l)(hx:Rd w 1 B m (ints (natI xs)))(_hn:n<=1000)(hm:m<=1000)(hi:l[i]?=some x)(hx1:x.k=1)(hxs:∀j∈xs,j<n):
  Calls Tryz.prog 103 #[.slice A n c,.slice B m d,.int .i64 i] w fun o w'=>o=.returned (.int .i64 (valueP l i x xs).2)/\Below w.heap.size w w':=by
 have HX:=Jh hx;have HE:=Jh he;have hxl:xs.length=m:=by have:=hx.1;simp[ints,natI] at this;omega
 have HXL:=Jh hxl;have HEL:=Jh he.len;have HI:=Jh hi;have HX1:=Jh hx1;have HXS:=Jh hxs;have hin:i<n:=by have:=(List.getElem?_eq_some_iff.1 hi).1;have:=he.len;omega
 have hi0:decide ((i:Int)<0)=false:=by simp
 have hiN:(i:Int)<(n:Int):=by omega
 clear hx hxl he hi hx1 hxs;go_enter Tryz.func103,Tryz.ntmps103;go_wp2_with fail;go_loopw [7,8,9] (fun vn va vk wr=>∃k:Nat,k<=m/\vk=.int .i64 k/\vn=.int .i64 (valueP l i x (xs.take k)).2/\va=.bool (valueP l i x (xs.take k)).1/\Below w.heap.size w wr) (fun _ _ vk _=>m-(intOf vk).toNat);case atStart=>exact⟨0,Nat.zero_le _,rfl,rfl,rfl,bR w⟩
 case round=>
  obtain⟨k,hk,rfl,rfl,rfl,hbw⟩:=hrel;obtain⟨wo,rfl⟩:=exE wr;have HBW:=Jh hbw;clear hbw;by_cases hlt:k<m
  ·have hlb:decide ((k:Int)<(m:Int))=true:=by simp;omega
   obtain⟨b1,o1,z,rfl,hxk,hc1⟩:=(HX.o.below HBW.o).int hlt;obtain⟨j,rfl,hxj⟩:=natI_at hxk;have hjn:j<n:=HXS.o j (List.mem_of_getElem? hxj);have HEo:=Jh (HE.o.sees (Below.sees HBW.o));obtain⟨ge,oe,y,rfl,hy,hd0,hd1,hd2,hd3⟩:=HEo.o.at_ hjn;obtain⟨ge',oe',x',hA',hx',he0,he1,he2,he3⟩:=HEo.o.at_ hin;obtain rfl:x'=x:=Option.some.inj (hx'.symm.trans HI.o)
   simp only[Option.some.injEq,Addr.mk.injEq,and_true] at hA';obtain⟨rfl,rfl⟩:=hA';have HV:=Jh (valueP_succ (i:=i) (x:=x') hxj hy);obtain⟨N,a⟩:∃(N:Int),True:=⟨0,trivial⟩;clear a N;obtain⟨a,ha⟩:=exE ((valueP l i x' (xs.take k)).1);obtain⟨N,hN⟩:=exE ((valueP l i x' (xs.take k)).2);rw[<-ha,<-hN] at HV;rw[<-ha,<-hN];have hkm:(k:Int)<(m:Int):=by omega
   have hk0:decide ((k:Int)<0)=false:=by simp
   have hj0:decide ((j:Int)<0)=false:=by simp
   have hjN:(j:Int)<(n:Int):=by omega
   have HP:=Jh (fun(wx:World) (hb:Below wo.heap.size wo wx)=>program104_any (some ⟨ge,oe,none⟩) n c j i l y x' wx (HEo.o.sees (Below.sees hb)) hy HI.o);have HC:=Jh (fun(wx:World) (hb:Below wo.heap.size wo wx)=>And.intro (And.intro ((hb.cell (cell_lt hd1)).trans hd1) ((hb.cell (cell_lt hd2)).trans hd2)) (And.intro ((hb.cell (cell_lt he2)).trans he2) ((hb.cell (cell_lt hd3)).trans hd3)))
   have HYX:=Jh (show j=i->y.k≠2 from fun e=>by subst e;have h1:y=x':=Option.some.inj (hy.symm.trans hx');rw[h1,HX1.o];omega);obtain⟨ek,hek⟩:=exE (y.k);obtain⟨ea,hea⟩:=exE (y.a);obtain⟨xa,hxa⟩:=exE (x'.a);obtain⟨en,hen⟩:=exE (y.n);obtain⟨pg,hpg⟩:=exE ((decide (j<i)&&(y.h==x'.h)))
   have HV2:=Jh (show valueP l i x' (xs.take (k+1))=(a&&!decide (j=i),if((ek==2&&ea==xa)&&((a&&!decide (j=i))||pg)) then en else N) from by rw[HV.o,hek,hea,hxa,hen,hpg];rfl)
   rw[<-hek,<-hea,<-hxa,<-hen] at HC;rw[<-hpg] at HP;rw[<-hek] at HYX;clear HV hd0 hd1 hd2 hd3 he0 he1 he2 he3 hxk hy hx' hjn hek hea hxa hen hpg ha hN;by_cases hji:j=i
   ·have hje:((j:Int)==(i:Int))=true:=by simp;omega
    have hje2:(j==i)=true:=by simp;omega
    have hk2:(ek==2)=false:=by simpa using HYX.o hji
    have HV3:=Jh (show valueP l i x' (xs.take (k+1))=(false,N) from by rw[HV2.o,hk2];simp[hji]);clear HV2 hji;go_upto_region 9 with fail
    clear hc1;obtain⟨⟨q1,q2⟩,q3,_⟩:=HC.o wo (bR wo);go_quiet (fail)
    obtain⟨W6,hW6⟩:=exE (wo.drewN nq);rw[<-hW6];have HB6:=Jh (show Below wo.heap.size wo W6 from hW6▸bN (bR wo));clear hW6 q1 q2 q3;go_wp2_with fail;go_roundw;case rel=>exact⟨k+1,by omega,by go_num,by rw[HV3.o],by rw[HV3.o],bT HBW.o HB6.o⟩
    case measure=>simp[intOf];omega
   have hje:((j:Int)==(i:Int))=false:=by simp;omega
   have hje2:(j==i)=false:=by simp;omega
   have HV3:=Jh (show valueP l i x' (xs.take (k+1))=(a,if((ek==2&&ea==xa)&&(a||pg)) then en else N) from by rw[HV2.o];simp[hji])
   clear HV2 hji;go_upto_region 9 with fail
   clear hc1;by_cases hk2:ek=2
   ·subst hk2;by_cases haa:ea=xa
    ·subst haa;have haa:(ea==ea)=true:=by simp
     cases a with
     |true=>
      have HV4:=Jh (show valueP l i x' (xs.take (k+1))=(true,en) from by rw[HV3.o];simp);clear HV3;obtain⟨⟨q1,q2⟩,q3,_⟩:=HC.o wo (bR wo);go_quiet (fail)
      obtain⟨W6,hW6⟩:=exE (wo.drewN nq);rw[<-hW6];have HB6:=Jh (show Below wo.heap.size wo W6 from hW6▸bN (bR wo));have q5:=(HC.o W6 HB6.o).2.2;clear hW6 q1 q2 q3;go_wp2_with fail;go_roundw;case rel=>exact⟨k+1,by omega,by go_num,by rw[HV4.o],by rw[HV4.o],bT HBW.o HB6.o⟩
      case measure=>simp[intOf];omega
     |false=>
      cases pg with
      |true=>
       have HV4:=Jh (show valueP l i x' (xs.take (k+1))=(false,en) from by rw[HV3.o];simp);clear HV3;have rr:∀(wx:World),Below wx.heap.size wx wx:=fun wx=>bR wx
       refine wp_region_det (by kernel_rfl) (fun f=>(⟨#[Value.slice (some ⟨ge,oe,none⟩) n c,Value.slice (some ⟨b1,o1,none⟩) m d,.int .i64 (i:Int),undef,undef,undef,.int .i64 0,.int .i64 N,Value.bool false,.int .i64 (k:Int),.int .i64 (j:Int),.int .i64 (k:Int),Value.slice (some ⟨b1,o1,none⟩) m d,.int .i64 (m:Int),Value.bool true,u15,u16,Value.slice (some ⟨b1,o1,none⟩) m d,.int .i64 (k:Int),Value.pointer (some ⟨b1,o1+k,none⟩),.int .i64 (j:Int),.int .i64 (j:Int),.int .i64 (i:Int),Value.bool false,f 0,f 1,f 2,f 3,f 4,f 5,f 6,f 7,f 8,f 9,f 10,f 11,f 12,f 13,f 14,f 15,f 16,f 17,f 18,f 19,f 20,f 21,f 22,f 23,f 24,f 25,f 26,f 27,u52,u53,u54,u55,u56,undef],[]⟩:Act)) (fun(iv:Nat) (lv:Nat->Bool) (fv:Nat->Value) (wx:World)=>match iv with|0=>fv 0=.slice (some ⟨ge,oe,none⟩) n c|1=>fv 1=.int .i64 j|2=>fv 2=.pointer (some ⟨ge,oe+j*4,none⟩)|3=>fv 3=.pointer (some ⟨ge,oe+j*4+1,none⟩)|4=>fv 4=.int .i64 2|5=>fv 5=.bool true|6=>fv 6=.bool true|7=>fv 7=.slice (some ⟨ge,oe,none⟩) n c|8=>fv 8=.int .i64 j|9=>fv 9=.pointer (some ⟨ge,oe+j*4,none⟩)|10=>fv 10=.pointer (some ⟨ge,oe+j*4+2,none⟩)|11=>fv 11=.int .i64 ea|12=>fv 12=.slice (some ⟨ge,oe,none⟩) n c|13=>fv 13=.int .i64 i|14=>fv 14=.pointer (some ⟨ge,oe+i*4,none⟩)|15=>fv 15=.pointer (some ⟨ge,oe+i*4+2,none⟩)|16=>fv 16=.int .i64 ea|17=>fv 17=.bool true|18=>fv 18=.bool true|19=>fv 19=.bool true|20=>fv 20=.bool false|21=>fv 21=.bool false|22=>fv 22=.slice (some ⟨ge,oe,none⟩) n c|23=>fv 23=.int .i64 j|24=>fv 24=.int .i64 i|25=>fv 25=.bool true|26=>fv 26=.bool true|27=>fv 27=.bool true|_=>True) (fun _ wx=>Below wo.heap.size wo wx) (fun _ w1 w2=>Below w1.heap.size w1 w2) (by kernel_rfl) (fun k=>match k with|0=>u24|1=>u25|2=>u26|3=>u27|4=>u28|5=>u29|6=>u30|7=>u31|8=>u32|9=>u33|10=>u34|11=>u35|12=>u36|13=>u37|14=>u38|15=>u39|16=>u40|17=>u41|18=>u42|19=>u43|20=>u44|21=>u45|22=>u46|23=>u47|24=>u48|25=>u49|26=>u50|27=>u51|_=>undef) rfl ?keep (bD (bR wo)) ?steps ?fin
       case keep=>
        intro iv j hij hd l f f' w1 w2 hf hR
        match j with
        |0|1|2|3|4|5|6|7|8|9|10|11|12|13|14|15|16|17|18|19|20|21|22|23|24|25|26|27=>exact fun h=>(hf _ (Ne.symm hij)).trans h
        |_+28=>exact id
       case steps=>
        refine fun iv hiv=>stepsOf_at (k:=0) (n:=28) ?_ iv (Nat.zero_le _) (by rw[Nat.zero_add];exact hiv);refine sD 0 27 aT0 [] (fun f wq l hl hun hdn hS hd K' HK=>?_) ?_
        ·clear hd;have HSS:=Jh hS;clear hS;go_simp;exact HK.o _ _ _ rfl rfl HSS.o (rr _)
        refine sD 1 26 aT1 [] (fun f wq l hl hun hdn hS hd K' HK=>?_) ?_
        ·clear hd;have HSS:=Jh hS;clear hS;go_simp;exact HK.o _ _ _ rfl rfl HSS.o (rr _)
        refine sD 2 25 aT2 [0,1] (fun f wq l hl hun hdn hS hd K' HK=>?_) ?_
        ·obtain⟨e0,e1,-⟩:=hd;have e0:f 0=_:=e0;have e1:f 1=_:=e1;have HSS:=Jh hS;clear hS;simp only[e0,e1];go_simp;exact HK.o _ _ _ (by simp only[e0,e1];rfl) rfl HSS.o (rr _)
        refine sD 3 24 aT3 [2] (fun f wq l hl hun hdn hS hd K' HK=>?_) ?_
        ·obtain⟨e2,-⟩:=hd;have e2:f 2=_:=e2;have HSS:=Jh hS;clear hS;simp only[e2];go_simp;exact HK.o _ _ _ (by simp only[e2];rfl) rfl HSS.o (rr _)
        refine sD 4 23 aT4 [3] (fun f wq l hl hun hdn hS hd K' HK=>?_) ?_
        ·obtain⟨e3,-⟩:=hd;have e3:f 3=_:=e3;have q0:=(HC.o wq hS).1.1;have HSS:=Jh hS;clear hS;simp only[e3];go_simp;exact HK.o _ _ _ (by simp only[e3];rfl) rfl HSS.o (rr _)
        refine sD 5 22 aT5 [4] (fun f wq l hl hun hdn hS hd K' HK=>?_) ?_
        ·obtain⟨e4,-⟩:=hd;have e4:f 4=_:=e4;have HSS:=Jh hS;clear hS;simp only[e4];go_simp;exact HK.o _ _ _ (by simp only[e4];rfl) rfl HSS.o (rr _)
        refine sD 6 21 aT6 [5] (fun f wq l hl hun hdn hS hd K' HK=>?_) ?_
        ·obtain⟨e5,-⟩:=hd;have e5:f 5=_:=e5;have HSS:=Jh hS;clear hS;simp only[e5];go_simp;exact HK.o _ _ _ (by simp only[e5];rfl) rfl HSS.o (rr _)
        refine sD 7 20 aT7 [6] (fun f wq l hl hun hdn hS hd K' HK=>?_) ?_
        ·obtain⟨e6,-⟩:=hd;have e6:f 6=_:=e6;have HSS:=Jh hS;clear hS;simp only[e6];go_simp;exact HK.o _ _ _ (by simp only[e6];rfl) rfl HSS.o (rr _)
        refine sD 8 19 aT8 [6] (fun f wq l hl hun hdn hS hd K' HK=>?_) ?_
        ·obtain⟨e6,-⟩:=hd;have e6:f 6=_:=e6;have HSS:=Jh hS;clear hS;simp only[e6];go_simp;exact HK.o _ _ _ (by simp only[e6];rfl) rfl HSS.o (rr _)
        refine sD 9 18 aT9 [6,7,8] (fun f wq l hl hun hdn hS hd K' HK=>?_) ?_
        ·obtain⟨e6,e7,e8,-⟩:=hd;have e6:f 6=_:=e6;have e7:f 7=_:=e7;have e8:f 8=_:=e8;have HSS:=Jh hS;clear hS;simp only[e6,e7,e8];go_simp;exact HK.o _ _ _ (by simp only[e6,e7,e8];rfl) rfl HSS.o (rr _)
        refine sD 10 17 aT10 [6,9] (fun f wq l hl hun hdn hS hd K' HK=>?_) ?_
        ·obtain⟨e6,e9,-⟩:=hd;have e6:f 6=_:=e6;have e9:f 9=_:=e9;have HSS:=Jh hS;clear hS;simp only[e6,e9];go_simp;exact HK.o _ _ _ (by simp only[e6,e9];rfl) rfl HSS.o (rr _)
        refine sD 11 16 aT11 [6,10] (fun f wq l hl hun hdn hS hd K' HK=>?_) ?_
        ·obtain⟨e6,e10,-⟩:=hd;have e6:f 6=_:=e6;have e10:f 10=_:=e10;have q0:=(HC.o wq hS).1.2;have HSS:=Jh hS;clear hS;simp only[e6,e10];go_simp;exact HK.o _ _ _ (by simp only[e6,e10];rfl) rfl HSS.o (rr _)
        refine sD 12 15 aT12 [6] (fun f wq l hl hun hdn hS hd K' HK=>?_) ?_
        ·obtain⟨e6,-⟩:=hd;have e6:f 6=_:=e6;have HSS:=Jh hS;clear hS;simp only[e6];go_simp;exact HK.o _ _ _ (by simp only[e6];rfl) rfl HSS.o (rr _)
        refine sD 13 14 aT13 [6] (fun f wq l hl hun hdn hS hd K' HK=>?_) ?_
        ·obtain⟨e6,-⟩:=hd;have e6:f 6=_:=e6;have HSS:=Jh hS;clear hS;simp only[e6];go_simp;exact HK.o _ _ _ (by simp only[e6];rfl) rfl HSS.o (rr _)
        refine sD 14 13 aT14 [6,12,13] (fun f wq l hl hun hdn hS hd K' HK=>?_) ?_
        ·obtain⟨e6,e12,e13,-⟩:=hd;have e6:f 6=_:=e6;have e12:f 12=_:=e12;have e13:f 13=_:=e13;have HSS:=Jh hS;clear hS;simp only[e6,e12,e13];go_simp;exact HK.o _ _ _ (by simp only[e6,e12,e13];rfl) rfl HSS.o (rr _)
        refine sD 15 12 aT15 [6,14] (fun f wq l hl hun hdn hS hd K' HK=>?_) ?_
        ·obtain⟨e6,e14,-⟩:=hd;have e6:f 6=_:=e6;have e14:f 14=_:=e14;have HSS:=Jh hS;clear hS;simp only[e6,e14];go_simp;exact HK.o _ _ _ (by simp only[e6,e14];rfl) rfl HSS.o (rr _)
        refine sD 16 11 aT16 [6,15] (fun f wq l hl hun hdn hS hd K' HK=>?_) ?_
        ·obtain⟨e6,e15,-⟩:=hd;have e6:f 6=_:=e6;have e15:f 15=_:=e15;have q0:=(HC.o wq hS).2.1;have HSS:=Jh hS;clear hS;simp only[e6,e15];go_simp;exact HK.o _ _ _ (by simp only[e6,e15];rfl) rfl HSS.o (rr _)
        refine sD 17 10 aT17 [6,11,16] (fun f wq l hl hun hdn hS hd K' HK=>?_) ?_
        ·obtain⟨e6,e11,e16,-⟩:=hd;have e6:f 6=_:=e6;have e11:f 11=_:=e11;have e16:f 16=_:=e16;have HSS:=Jh hS;clear hS;simp only[e6,e11,e16];go_simp;exact HK.o _ _ _ (by simp only[e6,e11,e16];rfl) rfl HSS.o (rr _)
        refine sD 18 9 aT18 [6,17] (fun f wq l hl hun hdn hS hd K' HK=>?_) ?_
        ·obtain⟨e6,e17,-⟩:=hd;have e6:f 6=_:=e6;have e17:f 17=_:=e17;have HSS:=Jh hS;clear hS;simp only[e6,e17];go_simp;exact HK.o _ _ _ (by simp only[e6,e17];rfl) rfl HSS.o (rr _)
        refine sD 19 8 aT19 [18] (fun f wq l hl hun hdn hS hd K' HK=>?_) ?_
        ·obtain⟨e18,-⟩:=hd;have e18:f 18=_:=e18;have HSS:=Jh hS;clear hS;simp only[e18];go_simp;exact HK.o _ _ _ (by simp only[e18];rfl) rfl HSS.o (rr _)
        refine sD 20 7 aT20 [19] (fun f wq l hl hun hdn hS hd K' HK=>?_) ?_
        ·obtain⟨e19,-⟩:=hd;have e19:f 19=_:=e19;have HSS:=Jh hS;clear hS;simp only[e19];go_simp;exact HK.o _ _ _ (by simp only[e19];rfl) rfl HSS.o (rr _)
        refine sD 21 6 aT21 [19,20] (fun f wq l hl hun hdn hS hd K' HK=>?_) ?_
        ·obtain⟨e19,e20,-⟩:=hd;have e19:f 19=_:=e19;have e20:f 20=_:=e20;have HSS:=Jh hS;clear hS;simp only[e19,e20];go_simp;exact HK.o _ _ _ (by simp only[e19,e20];rfl) rfl HSS.o (rr _)
        refine sD 22 5 aT22 [21] (fun f wq l hl hun hdn hS hd K' HK=>?_) ?_
        ·obtain⟨e21,-⟩:=hd;have e21:f 21=_:=e21;have HSS:=Jh hS;clear hS;simp only[e21];go_simp;exact HK.o _ _ _ (by simp only[e21];rfl) rfl HSS.o (rr _)
        refine sD 23 4 aT23 [21] (fun f wq l hl hun hdn hS hd K' HK=>?_) ?_
        ·obtain⟨e21,-⟩:=hd;have e21:f 21=_:=e21;have HSS:=Jh hS;clear hS;simp only[e21];go_simp;exact HK.o _ _ _ (by simp only[e21];rfl) rfl HSS.o (rr _)
        refine sD 24 3 aT24 [21] (fun f wq l hl hun hdn hS hd K' HK=>?_) ?_
        ·obtain⟨e21,-⟩:=hd;have e21:f 21=_:=e21;have HSS:=Jh hS;clear hS;simp only[e21];go_simp;exact HK.o _ _ _ (by simp only[e21];rfl) rfl HSS.o (rr _)
        refine sD 25 2 aT25 [21,22,23,24] (fun f wq l hl hun hdn hS hd K' HK=>?_) ?_
        ·obtain⟨e21,e22,e23,e24,-⟩:=hd;have e21:f 21=_:=e21;have e22:f 22=_:=e22;have e23:f 23=_:=e23;have e24:f 24=_:=e24;have HCz:=Jh (HP.o wq hS);have HSS:=Jh hS;clear hS;simp only[e21,e22,e23,e24];go_simp;go_wp2_with fail;refine HCz.o.mono ?_;rintro o w9 ⟨rfl,hb9⟩;exact HK.o _ _ _ (by simp only[e21,e22,e23,e24];rfl) rfl (bT HSS.o hb9) hb9
        refine sD 26 1 aT26 [19,21,25] (fun f wq l hl hun hdn hS hd K' HK=>?_) ?_
        ·obtain⟨e19,e21,e25,-⟩:=hd;have e19:f 19=_:=e19;have e21:f 21=_:=e21;have e25:f 25=_:=e25;have HSS:=Jh hS;clear hS;simp only[e19,e21,e25];go_simp;exact HK.o _ _ _ (by simp only[e19,e21,e25];rfl) rfl HSS.o (rr _)
        refine sD 27 0 aT27 [19,26] (fun f wq l hl hun hdn hS hd K' HK=>?_) ?_
        ·obtain⟨e19,e26,-⟩:=hd;have e19:f 19=_:=e19;have e26:f 26=_:=e26;have HSS:=Jh hS;clear hS;simp only[e19,e26];go_simp;exact HK.o _ _ _ (by simp only[e19,e26];rfl) rfl HSS.o (rr _)
        exact trivial
       case fin=>
        intro fo wz lo hl hall hS;have a27:fo 27=_:=hall 27 (by decide);clear hall;simp only[a27];clear a27 rr hl;obtain⟨WE,rfl⟩:=exE wz;have HBE:=Jh hS;have q1:=(HC.o WE hS).2.2;clear hS;go_wp2_with fail;go_roundw;case rel=>exact⟨k+1,by omega,by go_num,by rw[HV4.o],by rw[HV4.o],bT HBW.o HBE.o⟩
        case measure=>simp[intOf];omega
      |false=>
       have HV4:=Jh (show valueP l i x' (xs.take (k+1))=(false,N) from by rw[HV3.o];simp);clear HV3;have rr:∀(wx:World),Below wx.heap.size wx wx:=fun wx=>bR wx
       refine wp_region_det (by kernel_rfl) (fun f=>(⟨#[Value.slice (some ⟨ge,oe,none⟩) n c,Value.slice (some ⟨b1,o1,none⟩) m d,.int .i64 (i:Int),undef,undef,undef,.int .i64 0,.int .i64 N,Value.bool false,.int .i64 (k:Int),.int .i64 (j:Int),.int .i64 (k:Int),Value.slice (some ⟨b1,o1,none⟩) m d,.int .i64 (m:Int),Value.bool true,u15,u16,Value.slice (some ⟨b1,o1,none⟩) m d,.int .i64 (k:Int),Value.pointer (some ⟨b1,o1+k,none⟩),.int .i64 (j:Int),.int .i64 (j:Int),.int .i64 (i:Int),Value.bool false,f 0,f 1,f 2,f 3,f 4,f 5,f 6,f 7,f 8,f 9,f 10,f 11,f 12,f 13,f 14,f 15,f 16,f 17,f 18,f 19,f 20,f 21,f 22,f 23,f 24,f 25,f 26,f 27,u52,u53,u54,u55,u56,undef],[]⟩:Act)) (fun(iv:Nat) (lv:Nat->Bool) (fv:Nat->Value) (wx:World)=>match iv with|0=>fv 0=.slice (some ⟨ge,oe,none⟩) n c|1=>fv 1=.int .i64 j|2=>fv 2=.pointer (some ⟨ge,oe+j*4,none⟩)|3=>fv 3=.pointer (some ⟨ge,oe+j*4+1,none⟩)|4=>fv 4=.int .i64 2|5=>fv 5=.bool true|6=>fv 6=.bool true|7=>fv 7=.slice (some ⟨ge,oe,none⟩) n c|8=>fv 8=.int .i64 j|9=>fv 9=.pointer (some ⟨ge,oe+j*4,none⟩)|10=>fv 10=.pointer (some ⟨ge,oe+j*4+2,none⟩)|11=>fv 11=.int .i64 ea|12=>fv 12=.slice (some ⟨ge,oe,none⟩) n c|13=>fv 13=.int .i64 i|14=>fv 14=.pointer (some ⟨ge,oe+i*4,none⟩)|15=>fv 15=.pointer (some ⟨ge,oe+i*4+2,none⟩)|16=>fv 16=.int .i64 ea|17=>fv 17=.bool true|18=>fv 18=.bool true|19=>fv 19=.bool true|20=>fv 20=.bool false|21=>fv 21=.bool false|22=>fv 22=.slice (some ⟨ge,oe,none⟩) n c|23=>fv 23=.int .i64 j|24=>fv 24=.int .i64 i|25=>fv 25=.bool false|26=>fv 26=.bool false|27=>fv 27=.bool false|_=>True) (fun _ wx=>Below wo.heap.size wo wx) (fun _ w1 w2=>Below w1.heap.size w1 w2) (by kernel_rfl) (fun k=>match k with|0=>u24|1=>u25|2=>u26|3=>u27|4=>u28|5=>u29|6=>u30|7=>u31|8=>u32|9=>u33|10=>u34|11=>u35|12=>u36|13=>u37|14=>u38|15=>u39|16=>u40|17=>u41|18=>u42|19=>u43|20=>u44|21=>u45|22=>u46|23=>u47|24=>u48|25=>u49|26=>u50|27=>u51|_=>undef) rfl ?keep (bD (bR wo)) ?steps ?fin
       case keep=>
        intro iv j hij hd l f f' w1 w2 hf hR
        match j with
        |0|1|2|3|4|5|6|7|8|9|10|11|12|13|14|15|16|17|18|19|20|21|22|23|24|25|26|27=>exact fun h=>(hf _ (Ne.symm hij)).trans h
        |_+28=>exact id
       case steps=>
        refine fun iv hiv=>stepsOf_at (k:=0) (n:=28) ?_ iv (Nat.zero_le _) (by rw[Nat.zero_add];exact hiv);refine sD 0 27 aT0 [] (fun f wq l hl hun hdn hS hd K' HK=>?_) ?_
        ·clear hd;have HSS:=Jh hS;clear hS;go_simp;exact HK.o _ _ _ rfl rfl HSS.o (rr _)
        refine sD 1 26 aT1 [] (fun f wq l hl hun hdn hS hd K' HK=>?_) ?_
        ·clear hd;have HSS:=Jh hS;clear hS;go_simp;exact HK.o _ _ _ rfl rfl HSS.o (rr _)
        refine sD 2 25 aT2 [0,1] (fun f wq l hl hun hdn hS hd K' HK=>?_) ?_
        ·obtain⟨e0,e1,-⟩:=hd;have e0:f 0=_:=e0;have e1:f 1=_:=e1;have HSS:=Jh hS;clear hS;simp only[e0,e1];go_simp;exact HK.o _ _ _ (by simp only[e0,e1];rfl) rfl HSS.o (rr _)
        refine sD 3 24 aT3 [2] (fun f wq l hl hun hdn hS hd K' HK=>?_) ?_
        ·obtain⟨e2,-⟩:=hd;have e2:f 2=_:=e2;have HSS:=Jh hS;clear hS;simp only[e2];go_simp;exact HK.o _ _ _ (by simp only[e2];rfl) rfl HSS.o (rr _)
        refine sD 4 23 aT4 [3] (fun f wq l hl hun hdn hS hd K' HK=>?_) ?_
        ·obtain⟨e3,-⟩:=hd;have e3:f 3=_:=e3;have q0:=(HC.o wq hS).1.1;have HSS:=Jh hS;clear hS;simp only[e3];go_simp;exact HK.o _ _ _ (by simp only[e3];rfl) rfl HSS.o (rr _)
        refine sD 5 22 aT5 [4] (fun f wq l hl hun hdn hS hd K' HK=>?_) ?_
        ·obtain⟨e4,-⟩:=hd;have e4:f 4=_:=e4;have HSS:=Jh hS;clear hS;simp only[e4];go_simp;exact HK.o _ _ _ (by simp only[e4];rfl) rfl HSS.o (rr _)
        refine sD 6 21 aT6 [5] (fun f wq l hl hun hdn hS hd K' HK=>?_) ?_
        ·obtain⟨e5,-⟩:=hd;have e5:f 5=_:=e5;have HSS:=Jh hS;clear hS;simp only[e5];go_simp;exact HK.o _ _ _ (by simp only[e5];rfl) rfl HSS.o (rr _)
        refine sD 7 20 aT7 [6] (fun f wq l hl hun hdn hS hd K' HK=>?_) ?_
        ·obtain⟨e6,-⟩:=hd;have e6:f 6=_:=e6;have HSS:=Jh hS;clear hS;simp only[e6];go_simp;exact HK.o _ _ _ (by simp only[e6];rfl) rfl HSS.o (rr _)
        refine sD 8 19 aT8 [6] (fun f wq l hl hun hdn hS hd K' HK=>?_) ?_
        ·obtain⟨e6,-⟩:=hd;have e6:f 6=_:=e6;have HSS:=Jh hS;clear hS;simp only[e6];go_simp;exact HK.o _ _ _ (by simp only[e6];rfl) rfl HSS.o (rr _)
        refine sD 9 18 aT9 [6,7,8] (fun f wq l hl hun hdn hS hd K' HK=>?_) ?_
        ·obtain⟨e6,e7,e8,-⟩:=hd;have e6:f 6=_:=e6;have e7:f 7=_:=e7;have e8:f 8=_:=e8;have HSS:=Jh hS;clear hS;simp only[e6,e7,e8];go_simp;exact HK.o _ _ _ (by simp only[e6,e7,e8];rfl) rfl HSS.o (rr _)
        refine sD 10 17 aT10 [6,9] (fun f wq l hl hun hdn hS hd K' HK=>?_) ?_
        ·obtain⟨e6,e9,-⟩:=hd;have e6:f 6=_:=e6;have e9:f 9=_:=e9;have HSS:=Jh hS;clear hS;simp only[e6,e9];go_simp;exact HK.o _ _ _ (by simp only[e6,e9];rfl) rfl HSS.o (rr _)
        refine sD 11 16 aT11 [6,10] (fun f wq l hl hun hdn hS hd K' HK=>?_) ?_
        ·obtain⟨e6,e10,-⟩:=hd;have e6:f 6=_:=e6;have e10:f 10=_:=e10;have q0:=(HC.o wq hS).1.2;have HSS:=Jh hS;clear hS;simp only[e6,e10];go_simp;exact HK.o _ _ _ (by simp only[e6,e10];rfl) rfl HSS.o (rr _)
        refine sD 12 15 aT12 [6] (fun f wq l hl hun hdn hS hd K' HK=>?_) ?_
        ·obtain⟨e6,-⟩:=hd;have e6:f 6=_:=e6;have HSS:=Jh hS;clear hS;simp only[e6];go_simp;exact HK.o _ _ _ (by simp only[e6];rfl) rfl HSS.o (rr _)
        refine sD 13 14 aT13 [6] (fun f wq l hl hun hdn hS hd K' HK=>?_) ?_
        ·obtain⟨e6,-⟩:=hd;have e6:f 6=_:=e6;have HSS:=Jh hS;clear hS;simp only[e6];go_simp;exact HK.o _ _ _ (by simp only[e6];rfl) rfl HSS.o (rr _)
        refine sD 14 13 aT14 [6,12,13] (fun f wq l hl hun hdn hS hd K' HK=>?_) ?_
        ·obtain⟨e6,e12,e13,-⟩:=hd;have e6:f 6=_:=e6;have e12:f 12=_:=e12;have e13:f 13=_:=e13;have HSS:=Jh hS;clear hS;simp only[e6,e12,e13];go_simp;exact HK.o _ _ _ (by simp only[e6,e12,e13];rfl) rfl HSS.o (rr _)
        refine sD 15 12 aT15 [6,14] (fun f wq l hl hun hdn hS hd K' HK=>?_) ?_
        ·obtain⟨e6,e14,-⟩:=hd;have e6:f 6=_:=e6;have e14:f 14=_:=e14;have HSS:=Jh hS;clear hS;simp only[e6,e14];go_simp;exact HK.o _ _ _ (by simp only[e6,e14];rfl) rfl HSS.o (rr _)
        refine sD 16 11 aT16 [6,15] (fun f wq l hl hun hdn hS hd K' HK=>?_) ?_
        ·obtain⟨e6,e15,-⟩:=hd;have e6:f 6=_:=e6;have e15:f 15=_:=e15;have q0:=(HC.o wq hS).2.1;have HSS:=Jh hS;clear hS;simp only[e6,e15];go_simp;exact HK.o _ _ _ (by simp only[e6,e15];rfl) rfl HSS.o (rr _)
        refine sD 17 10 aT17 [6,11,16] (fun f wq l hl hun hdn hS hd K' HK=>?_) ?_
        ·obtain⟨e6,e11,e16,-⟩:=hd;have e6:f 6=_:=e6;have e11:f 11=_:=e11;have e16:f 16=_:=e16;have HSS:=Jh hS;clear hS;simp only[e6,e11,e16];go_simp;exact HK.o _ _ _ (by simp only[e6,e11,e16];rfl) rfl HSS.o (rr _)
        refine sD 18 9 aT18 [6,17] (fun f wq l hl hun hdn hS hd K' HK=>?_) ?_
        ·obtain⟨e6,e17,-⟩:=hd;have e6:f 6=_:=e6;have e17:f 17=_:=e17;have HSS:=Jh hS;clear hS;simp only[e6,e17];go_simp;exact HK.o _ _ _ (by simp only[e6,e17];rfl) rfl HSS.o (rr _)
        refine sD 19 8 aT19 [18] (fun f wq l hl hun hdn hS hd K' HK=>?_) ?_
        ·obtain⟨e18,-⟩:=hd;have e18:f 18=_:=e18;have HSS:=Jh hS;clear hS;simp only[e18];go_simp;exact HK.o _ _ _ (by simp only[e18];rfl) rfl HSS.o (rr _)
        refine sD 20 7 aT20 [19] (fun f wq l hl hun hdn hS hd K' HK=>?_) ?_
        ·obtain⟨e19,-⟩:=hd;have e19:f 19=_:=e19;have HSS:=Jh hS;clear hS;simp only[e19];go_simp;exact HK.o _ _ _ (by simp only[e19];rfl) rfl HSS.o (rr _)
        refine sD 21 6 aT21 [19,20] (fun f wq l hl hun hdn hS hd K' HK=>?_) ?_
        ·obtain⟨e19,e20,-⟩:=hd;have e19:f 19=_:=e19;have e20:f 20=_:=e20;have HSS:=Jh hS;clear hS;simp only[e19,e20];go_simp;exact HK.o _ _ _ (by simp only[e19,e20];rfl) rfl HSS.o (rr _)
        refine sD 22 5 aT22 [21] (fun f wq l hl hun hdn hS hd K' HK=>?_) ?_
        ·obtain⟨e21,-⟩:=hd;have e21:f 21=_:=e21;have HSS:=Jh hS;clear hS;simp only[e21];go_simp;exact HK.o _ _ _ (by simp only[e21];rfl) rfl HSS.o (rr _)
        refine sD 23 4 aT23 [21] (fun f wq l hl hun hdn hS hd K' HK=>?_) ?_
        ·obtain⟨e21,-⟩:=hd;have e21:f 21=_:=e21;have HSS:=Jh hS;clear hS;simp only[e21];go_simp;exact HK.o _ _ _ (by simp only[e21];rfl) rfl HSS.o (rr _)
        refine sD 24 3 aT24 [21] (fun f wq l hl hun hdn hS hd K' HK=>?_) ?_
        ·obtain⟨e21,-⟩:=hd;have e21:f 21=_:=e21;have HSS:=Jh hS;clear hS;simp only[e21];go_simp;exact HK.o _ _ _ (by simp only[e21];rfl) rfl HSS.o (rr _)
        refine sD 25 2 aT25 [21,22,23,24] (fun f wq l hl hun hdn hS hd K' HK=>?_) ?_
        ·obtain⟨e21,e22,e23,e24,-⟩:=hd;have e21:f 21=_:=e21;have e22:f 22=_:=e22;have e23:f 23=_:=e23;have e24:f 24=_:=e24;have HCz:=Jh (HP.o wq hS);have HSS:=Jh hS;clear hS;simp only[e21,e22,e23,e24];go_simp;go_wp2_with fail;refine HCz.o.mono ?_;rintro o w9 ⟨rfl,hb9⟩;exact HK.o _ _ _ (by simp only[e21,e22,e23,e24];rfl) rfl (bT HSS.o hb9) hb9
        refine sD 26 1 aT26 [19,21,25] (fun f wq l hl hun hdn hS hd K' HK=>?_) ?_
        ·obtain⟨e19,e21,e25,-⟩:=hd;have e19:f 19=_:=e19;have e21:f 21=_:=e21;have e25:f 25=_:=e25;have HSS:=Jh hS;clear hS;simp only[e19,e21,e25];go_simp;exact HK.o _ _ _ (by simp only[e19,e21,e25];rfl) rfl HSS.o (rr _)
        refine sD 27 0 aT27 [19,26] (fun f wq l hl hun hdn hS hd K' HK=>?_) ?_
        ·obtain⟨e19,e26,-⟩:=hd;have e19:f 19=_:=e19;have e26:f 26=_:=e26;have HSS:=Jh hS;clear hS;simp only[e19,e26];go_simp;exact HK.o _ _ _ (by simp only[e19,e26];rfl) rfl HSS.o (rr _)
        exact trivial
       case fin=>
        intro fo wz lo hl hall hS;have a27:fo 27=_:=hall 27 (by decide);clear hall;simp only[a27];clear a27 rr hl;obtain⟨WE,rfl⟩:=exE wz;have HBE:=Jh hS;clear hS;go_wp2_with fail;go_roundw;case rel=>exact⟨k+1,by omega,by go_num,by rw[HV4.o],by rw[HV4.o],bT HBW.o HBE.o⟩
        case measure=>simp[intOf];omega
    have haa2:(ea==xa)=false:=by simpa using haa
    have HV4:=Jh (show valueP l i x' (xs.take (k+1))=(a,N) from by rw[HV3.o,haa2];simp);clear HV3 haa;obtain⟨⟨q1,q2⟩,q3,_⟩:=HC.o wo (bR wo);go_quiet (fail)
    obtain⟨W6,hW6⟩:=exE (wo.drewN nq);rw[<-hW6];have HB6:=Jh (show Below wo.heap.size wo W6 from hW6▸bN (bR wo));clear hW6 q1 q2 q3;go_wp2_with fail;go_roundw;case rel=>exact⟨k+1,by omega,by go_num,by rw[HV4.o],by rw[HV4.o],bT HBW.o HB6.o⟩
    case measure=>simp[intOf];omega
   have hk3:(ek==2)=false:=by simpa using hk2
   have HV4:=Jh (show valueP l i x' (xs.take (k+1))=(a,N) from by rw[HV3.o,hk3];simp);clear HV3 hk2;obtain⟨⟨q1,q2⟩,q3,_⟩:=HC.o wo (bR wo);go_quiet (fail)
   obtain⟨W6,hW6⟩:=exE (wo.drewN nq);rw[<-hW6];have HB6:=Jh (show Below wo.heap.size wo W6 from hW6▸bN (bR wo));clear hW6 q1 q2 q3;go_wp2_with fail;go_roundw;case rel=>exact⟨k+1,by omega,by go_num,by rw[HV4.o],by rw[HV4.o],bT HBW.o HB6.o⟩
   case measure=>simp[intOf];omega
  have hlb:decide ((k:Int)<(m:Int))=false:=by simp;omega
  have HR:=Jh (show(valueP l i x (xs.take k)).2=(valueP l i x xs).2 from by rw[List.take_of_length_le (by have:=HXL.o;omega)]);go_wp2_with fail;go_ret;exact⟨ret_int HR.o,HBW.o⟩
end Go.Proofs.YtnigadeohmlpiaaGreatDoor
