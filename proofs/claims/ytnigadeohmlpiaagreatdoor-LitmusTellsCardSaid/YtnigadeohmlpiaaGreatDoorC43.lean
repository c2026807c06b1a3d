/- Contracts: the document's comparison of outcomes, and whether rows of outcomes are the same. No condition of ours but where they stand. -/
import Derived.Test.YtnigadeohmlpiaaGreatDoorC29
import Derived.Test.YtnigadeohmlpiaaGreatDoorC02
set_option maxHeartbeats 32000000
set_option maxRecDepth 100000
namespace Go.Proofs.YtnigadeohmlpiaaGreatDoor
open Go.RowKit
attribute [local go_sem] Oper.semAt_some
def cmpR:List Int->List Int->Int
 |x::xs,y::ys=>if x=y then cmpR xs ys else if x<y then-1 else 1
 |xs,ys=>(xs.length:Int)-ys.length
theorem cmpR_zero:∀{xs ys:List Int},cmpR xs ys=0↔xs=ys
 |[],[]=>by simp[cmpR]
 |[],y::ys=>by simp[cmpR]<;>omega
 |x::xs,[]=>by simp[cmpR]<;>omega
 |x::xs,y::ys=>by
  rw[cmpR];by_cases h:x=y
  ·rw[if_pos h,cmpR_zero,h];simp
  rw[if_neg h];constructor
  ·intro h1;split at h1<;>omega
  intro h1;injection h1 with h1
  exact absurd h1 h
theorem cmpR_bound:∀(xs ys:List Int),-(ys.length:Int)-1<=cmpR xs ys/\cmpR xs ys<=(xs.length:Int)+1
 |[],ys=>by simp[cmpR]<;>omega
 |x::xs,[]=>by simp[cmpR]<;>omega
 |x::xs,y::ys=>by
  rw[cmpR];have:=cmpR_bound xs ys;simp only[List.length_cons];split
  ·omega
  split<;>omega
theorem cmpR_neg:∀{xs ys:List Int},cmpR xs ys<0↔cmpL xs ys<0
 |[],[]=>by simp[cmpR,cmpL]
 |[],y::ys=>by simp[cmpR,cmpL]<;>omega
 |x::xs,[]=>by simp[cmpR,cmpL]<;>omega
 |x::xs,y::ys=>by
  rw[cmpR,cmpL];have ih:=@cmpR_neg xs ys;by_cases h:x=y
  ·subst h;rw[if_pos rfl];rw[ih];simp
  rw[if_neg h];unfold cmpZ;by_cases h1:x<y
  ·simp[h,h1]
  have h2:y<x:=by omega
  simp[h,h1,h2]
theorem cmpR_drop{xs ys:List Int}{k:Nat}{x y:Int}(hx:xs[k]?=some x)(hy:ys[k]?=some y):cmpR (xs.drop k) (ys.drop k)=if x=y then cmpR (xs.drop (k+1)) (ys.drop (k+1)) else if x<y then-1 else 1:=by obtain⟨h1,h2⟩:=List.getElem?_eq_some_iff.1 hx;obtain⟨h3,h4⟩:=List.getElem?_eq_some_iff.1 hy;rw[List.drop_eq_getElem_cons h1,List.drop_eq_getElem_cons h3,h2,h4,cmpR]
theorem cmpR_end{xs ys:List Int}{k:Nat}(hk:k<=xs.length/\k<=ys.length)(h:xs.length=k\/ys.length=k):cmpR (xs.drop k) (ys.drop k)=(xs.length:Int)-ys.length:=by
 rcases h with h|h
 ·rw[@List.drop_eq_nil_of_le _ xs k (by omega)];cases hd:ys.drop k with
  |nil=>have:=congrArg List.length hd;simp at this;simp[cmpR];omega
  |cons y ys'=>
   have:=congrArg List.length hd;rw[List.length_drop] at this;rw[cmpR]
   ·simp;simp at this;omega
   intro _ _ _ _ h;cases h
 rw[@List.drop_eq_nil_of_le _ ys k (by omega)];cases hd:xs.drop k with
 |nil=>have:=congrArg List.length hd;simp at this;simp[cmpR];omega
 |cons x xs'=>
  have:=congrArg List.length hd;rw[List.length_drop] at this;rw[cmpR]
  ·simp;simp at this;omega
  intro _ _ _ _ _ h;cases h
theorem compare35_any(A B:Option Addr)(n m c d:Nat)(xs ys:List Int)(w:World)(hx:Rd w 1 A n (ints xs))(hy:Rd w 1 B m (ints ys))(hn:n<=4611686018427387904)(hm:m<=4611686018427387904):
  Calls Tryz.prog 35 #[.slice A n c,.slice B m d] w fun o w'=>o=.returned (.int .i64 (cmpR xs ys))/\Below w.heap.size w w':=by
 have HX:=Jh hx;have HY:=Jh hy;have hxl:xs.length=n:=by have:=hx.1;simp[ints] at this;omega
 have hyl:ys.length=m:=by have:=hy.1;simp[ints] at this;omega
 have HXL:=Jh hxl;have HYL:=Jh hyl;clear hx hy hxl hyl;go_enter Tryz.func35,Tryz.ntmps35;go_wp2_with fail;go_loopw [5] (fun vi wr=>∃k:Nat,k<=n/\k<=m/\vi=.int .i64 k/\cmpR xs ys=cmpR (xs.drop k) (ys.drop k)/\Below w.heap.size w wr) (fun vi _=>n-(intOf vi).toNat);case atStart=>exact⟨0,Nat.zero_le _,Nat.zero_le _,rfl,rfl,bR w⟩
 case round=>
  obtain⟨k,hk,hkm,rfl,hall,hbw⟩:=hrel;obtain⟨wo,rfl⟩:=exE wr;have HA:=Jh hall;have HBW:=Jh hbw;clear hall hbw;by_cases hlt:k<n
  ·have hlb:decide ((k:Int)<(n:Int))=true:=by simp;omega
   by_cases hlm:k<m
   ·have hlmb:decide ((k:Int)<(m:Int))=true:=by simp;omega
    obtain⟨b1,o1,x,rfl,hxk,hc1⟩:=(HX.o.below HBW.o).int hlt;obtain⟨b2,o2,y,rfl,hyk,hc2⟩:=(HY.o.below HBW.o).int hlm;have hkn:(k:Int)<(n:Int):=by omega
    have hkm':(k:Int)<(m:Int):=by omega
    have hk0:decide ((k:Int)<0)=false:=by simp
    have HD:=Jh (cmpR_drop hxk hyk);by_cases hxy:x=y
    ·have HN:=Jh (HA.o.trans (HD.o.trans (if_pos hxy)));have hxn:(x !=y)=false:=by simp[hxy]
     clear hxk hyk hxy;go_upto_region 4 with fail
     go_quiet (fail)
     obtain⟨WA,hWA⟩:=exE (wo.drewN nq);rw[<-hWA];have kA:Below wo.heap.size wo WA:=hWA▸bN (bR wo);have HKA:=Jh (bT HBW.o kA);replace hc1:=(kA.cell (cell_lt hc1)).trans hc1;replace hc2:=(kA.cell (cell_lt hc2)).trans hc2;clear hWA kA;clear hc1 hc2;go_wp2_with fail;go_roundw;case rel=>exact⟨k+1,by omega,by omega,by go_num,HN.o,HKA.o⟩
     case measure=>simp[intOf];omega
    have HN:=Jh (HA.o.trans (HD.o.trans (if_neg hxy)));have hxn:(x !=y)=true:=by simpa using hxy
    go_upto_region 4 with fail
    go_quiet (fail)
    obtain⟨WA,hWA⟩:=exE (wo.drewN nq);rw[<-hWA];have kA:Below wo.heap.size wo WA:=hWA▸bN (bR wo);have HKA:=Jh (bT HBW.o kA);replace hc1:=(kA.cell (cell_lt hc1)).trans hc1;replace hc2:=(kA.cell (cell_lt hc2)).trans hc2;clear hWA kA;by_cases hl:x<y
    ·have hlb2:decide (x<y)=true:=by simpa using hl
     rw[if_pos hl] at HN;clear hxk hyk hxy hl;go_upto_region 5 with fail
     go_quiet (fail)
     go_wp2_with fail;go_ret;exact⟨ret_int HN.o.symm,bN HKA.o⟩
    have hlb2:decide (x<y)=false:=by simpa using hl
    rw[if_neg hl] at HN;clear hxk hyk hxy hl;go_upto_region 5 with fail
    go_quiet (fail)
    go_wp2_with fail;go_ret;exact⟨ret_int HN.o.symm,bN HKA.o⟩
   have hlmb:decide ((k:Int)<(m:Int))=false:=by simp;omega
   have HN:=Jh (HA.o.trans (cmpR_end ⟨by have:=HXL.o;omega,by have:=HYL.o;omega⟩ (.inr (by have:=HYL.o;omega))));rw[HXL.o,HYL.o] at HN;have hsub:IntKind.i64.wrap ((n:Int)-(m:Int))=(n:Int)-(m:Int):=IntWalk.i64_in _ (by omega);go_wp2_with fail;go_ret;exact⟨ret_int HN.o.symm,HBW.o⟩
  have hlb:decide ((k:Int)<(n:Int))=false:=by simp;omega
  have HN:=Jh (HA.o.trans (cmpR_end ⟨by have:=HXL.o;omega,by have:=HYL.o;omega⟩ (.inl (by have:=HXL.o;omega))));rw[HXL.o,HYL.o] at HN;have hsub:IntKind.i64.wrap ((n:Int)-(m:Int))=(n:Int)-(m:Int):=IntWalk.i64_in _ (by omega);go_wp2_with fail;go_ret;exact⟨ret_int HN.o.symm,HBW.o⟩
def RR(w:World)(A:Option Addr)(n:Nat)(L:List (List Int)):Prop:=L.length=n/\(∃cs,Rd w 1 A n cs/\Cts w cs L)/\∀z∈L,z.length<=1000000
theorem Cts.below{w w':World}{cs:List Value}{L:List (List Int)}(h:Cts w cs L)(hb:Below w.heap.size w w'):Cts w' cs L:=h.tk (T:=[]) (Tk.below hb) (by simp)
theorem RR.below{w w':World}{A:Option Addr}{n:Nat}{L:List (List Int)}(h:RR w A n L)(hb:Below w.heap.size w w'):RR w' A n L:=by obtain⟨h1,⟨cs,h2,h3⟩,h4⟩:=h;exact⟨h1,⟨cs,h2.below hb,h3.below hb⟩,h4⟩
theorem RR.of_ss{w:World}{base c:Nat}{A:Option Addr}{R:List (List Int)}(h:SS w base (.slice A R.length c) R)(hz:∀z∈R,z.length<=1000000):RR w A R.length R:=by obtain⟨cs,h1,h2⟩:=h;exact⟨rfl,⟨cs,(Row.of_own h1).rd,h2⟩,hz⟩
theorem RR.at_{w:World}{A:Option Addr}{n i:Nat}{L:List (List Int)}(h:RR w A n L)(hi:i<n):∃g o z B d,A=some ⟨g,o,none⟩/\L[i]?=some z/\w.cell? ⟨g,o+i,none⟩=some (.slice B z.length d)/\Rd w 1 B z.length (ints z)/\z.length<=1000000:=by
 obtain⟨h1,⟨cs,h2,h3,h4⟩,h5⟩:=h;have hz:L[i]?=some L[i]:=List.getElem?_eq_getElem (by omega);obtain⟨B,d,h6,_,h8⟩:=h4 i _ hz;obtain⟨g,o,hA,_,hc⟩:=h2.2 (by omega);exact⟨g,o,L[i],B,d,hA,hz,hc i _ h6,h8.rd,h5 _ (List.getElem_mem _)⟩
theorem RR.at2{w:World}{A:Option Addr}{n i:Nat}{L:List (List Int)}(h:RR w A n L)(hi:i<n):∃g o z B d,A=some ⟨g,o,none⟩/\L[i]?=some z/\w.cell? ⟨g,o+i,none⟩=some (.slice B z.length d)/\Row w 3 1 B z.length (ints z)/\z.length<=1000000/\z.length<=d:=by
 obtain⟨h1,⟨cs,h2,h3,h4⟩,h5⟩:=h;have hz:L[i]?=some L[i]:=List.getElem?_eq_getElem (by omega);obtain⟨B,d,h6,h7,h8⟩:=h4 i _ hz;obtain⟨g,o,hA,_,hc⟩:=h2.2 (by omega);exact⟨g,o,L[i],B,d,hA,hz,hc i _ h6,h8,h5 _ (List.getElem_mem _),h7⟩
theorem rr_one{w:World}{b d:Nat}{B:Option Addr}{zs:List Int}(h:w.heap[b]?=some (.cells #[.slice B zs.length d] 32))(hd:zs.length<=d)(hr:Row w 3 1 B zs.length (ints zs))(hz:zs.length<=1000000):RR w (some ⟨b,0,none⟩) 1 [zs]:=by
 refine⟨rfl,⟨[.slice B zs.length d],⟨rfl,fun _=>⟨b,0,rfl,blk_lt h,fun j u hu=>?_⟩⟩,rfl,fun k z hk=>?_⟩,fun z hz'=>by rw[List.mem_singleton.1 hz'];exact hz⟩
 ·rw[cell_of_row w b _ _ _ _ h,Nat.zero_add,<-hu];simp
 cases k with
 |zero=>obtain rfl:zs=z:=Option.some.inj hk;exact⟨B,d,rfl,hd,hr⟩
 |succ k=>cases hk
theorem same16_any(A B:Option Addr)(n m c d:Nat)(L K:List (List Int))(w:World)(hx:RR w A n L)(hy:RR w B m K)(hn:n<=4611686018427387904):
  Calls Tryz.prog 16 #[.slice A n c,.slice B m d] w fun o w'=>o=.returned (.bool (decide (L=K)))/\Below w.heap.size w w':=by
 have HX:=Jh hx;have HY:=Jh hy;clear hx hy;by_cases hnm:n=m
 ·subst hnm;have hne:((n:Int)!=(n:Int))=false:=by simp
  go_enter Tryz.func16,Tryz.ntmps16;go_wp2_with fail;go_loopw [5] (fun vi wr=>∃k:Nat,k<=n/\vi=.int .i64 k/\(∀j,j<k->L[j]?=K[j]?)/\Below w.heap.size w wr) (fun vi _=>n-(intOf vi).toNat);case atStart=>exact⟨0,Nat.zero_le _,rfl,fun j hj=>absurd hj (Nat.not_lt_zero _),bR w⟩
  case round=>
   obtain⟨k,hk,rfl,hall,hbw⟩:=hrel;obtain⟨wo,rfl⟩:=exE wr;have HA:=Jh hall;have HBW:=Jh hbw;clear hall hbw;by_cases hlt:k<n
   ·have hlb:decide ((k:Int)<(n:Int))=true:=by simp;omega
    obtain⟨g1,o1,z1,B1,d1,rfl,hz1,hc1,hr1,hl1⟩:=(HX.o.below HBW.o).at_ hlt;obtain⟨g2,o2,z2,B2,d2,rfl,hz2,hc2,hr2,hl2⟩:=(HY.o.below HBW.o).at_ hlt;have hkn:(k:Int)<(n:Int):=by omega
    have hk0:decide ((k:Int)<0)=false:=by simp
    obtain⟨m1,hm1⟩:=exE (z1.length);obtain⟨m2,hm2⟩:=exE (z2.length);rw[<-hm1] at hc1 hr1 hl1;rw[<-hm2] at hc2 hr2 hl2;have HCl:=Jh (fun(wx:World) (hb:Below wo.heap.size wo wx)=>compare35_any B1 B2 m1 m2 d1 d2 z1 z2 wx (hr1.below hb) (hr2.below hb) (by omega) (by omega));have HZ:=Jh (And.intro hz1 hz2)
    have HC:=Jh (fun(wx:World) (hb:Below wo.heap.size wo wx)=>And.intro ((hb.cell (cell_lt hc1)).trans hc1) ((hb.cell (cell_lt hc2)).trans hc2));clear hz1 hz2 hr1 hr2 hl1 hl2 hm1 hm2 hc1 hc2;go_upto_region 6 with fail
    have rr:∀(wx:World),Below wx.heap.size wx wx:=fun wx=>bR wx
    refine wp_region_det (by kernel_rfl) (fun f=>(⟨#[Value.slice (some ⟨g1,o1,none⟩) n c,Value.slice (some ⟨g2,o2,none⟩) n d,undef,undef,u4,.int .i64 (k:Int),Value.slice (some ⟨g1,o1,none⟩) n c,.int .i64 (n:Int),Value.slice (some ⟨g2,o2,none⟩) n d,.int .i64 (n:Int),Value.bool false,.int .i64 (k:Int),Value.slice (some ⟨g1,o1,none⟩) n c,.int .i64 (n:Int),Value.bool true,u15,u16,f 0,f 1,f 2,f 3,f 4,f 5,f 6,f 7,f 8,f 9],[]⟩:Act)) (fun(iv:Nat) (lv:Nat->Bool) (fv:Nat->Value) (wx:World)=>match iv with|0=>fv 0=.slice (some ⟨g1,o1,none⟩) n c|1=>fv 1=.int .i64 k|2=>fv 2=.pointer (some ⟨g1,o1+k,none⟩)|3=>fv 3=.slice B1 m1 d1|4=>fv 4=.slice (some ⟨g2,o2,none⟩) n d|5=>fv 5=.int .i64 k|6=>fv 6=.pointer (some ⟨g2,o2+k,none⟩)|7=>fv 7=.slice B2 m2 d2|8=>fv 8=.int .i64 (cmpR z1 z2)|9=>fv 9=.bool (cmpR z1 z2 !=0)|_=>True) (fun _ wx=>Below wo.heap.size wo wx) (fun _ w1 w2=>Below w1.heap.size w1 w2) (by kernel_rfl) (fun k=>match k with|0=>u17|1=>u18|2=>u19|3=>u20|4=>u21|5=>u22|6=>u23|7=>u24|8=>u25|9=>u26|_=>undef) rfl ?keep (bD (bR wo)) ?steps ?fin
    case keep=>
     intro iv j hij hd l f f' w1 w2 hf hR
     match j with
     |0|1|2|3|4|5|6|7|8|9=>exact fun h=>(hf _ (Ne.symm hij)).trans h
     |_+10=>exact id
    case steps=>
     refine fun iv hiv=>stepsOf_at (k:=0) (n:=10) ?_ iv (Nat.zero_le _) (by rw[Nat.zero_add];exact hiv);refine sD 0 9 aT0 [] (fun f wq l hl hun hdn hS hd K' HK=>?_) ?_
     ·clear hd;have HSS:=Jh hS;clear hS;go_simp;exact HK.o _ _ _ rfl rfl HSS.o (rr _)
     refine sD 1 8 aT1 [] (fun f wq l hl hun hdn hS hd K' HK=>?_) ?_
     ·clear hd;have HSS:=Jh hS;clear hS;go_simp;exact HK.o _ _ _ rfl rfl HSS.o (rr _)
     refine sD 2 7 aT2 [0,1] (fun f wq l hl hun hdn hS hd K' HK=>?_) ?_
     ·obtain⟨e0,e1,-⟩:=hd;have e0:f 0=_:=e0;have e1:f 1=_:=e1;have HSS:=Jh hS;clear hS;simp only[e0,e1];go_simp;exact HK.o _ _ _ (by simp only[e0,e1];rfl) rfl HSS.o (rr _)
     refine sD 3 6 aT3 [2] (fun f wq l hl hun hdn hS hd K' HK=>?_) ?_
     ·obtain⟨e2,-⟩:=hd;have e2:f 2=_:=e2;have hc:=(HC.o wq hS).1;have HSS:=Jh hS;clear hS;simp only[e2];go_simp;exact HK.o _ _ _ (by simp only[e2];rfl) rfl HSS.o (rr _)
     refine sD 4 5 aT4 [] (fun f wq l hl hun hdn hS hd K' HK=>?_) ?_
     ·clear hd;have HSS:=Jh hS;clear hS;go_simp;exact HK.o _ _ _ rfl rfl HSS.o (rr _)
     refine sD 5 4 aT5 [] (fun f wq l hl hun hdn hS hd K' HK=>?_) ?_
     ·clear hd;have HSS:=Jh hS;clear hS;go_simp;exact HK.o _ _ _ rfl rfl HSS.o (rr _)
     refine sD 6 3 aT6 [4,5] (fun f wq l hl hun hdn hS hd K' HK=>?_) ?_
     ·obtain⟨e4,e5,-⟩:=hd;have e4:f 4=_:=e4;have e5:f 5=_:=e5;have HSS:=Jh hS;clear hS;simp only[e4,e5];go_simp;exact HK.o _ _ _ (by simp only[e4,e5];rfl) rfl HSS.o (rr _)
     refine sD 7 2 aT7 [6] (fun f wq l hl hun hdn hS hd K' HK=>?_) ?_
     ·obtain⟨e6,-⟩:=hd;have e6:f 6=_:=e6;have hc:=(HC.o wq hS).2;have HSS:=Jh hS;clear hS;simp only[e6];go_simp;exact HK.o _ _ _ (by simp only[e6];rfl) rfl HSS.o (rr _)
     refine sD 8 1 aT8 [3,7] (fun f wq l hl hun hdn hS hd K' HK=>?_) ?_
     ·obtain⟨e3,e7,-⟩:=hd;have e3:f 3=_:=e3;have e7:f 7=_:=e7;have HCz:=Jh (HCl.o wq hS);have HSS:=Jh hS;clear hS;simp only[e3,e7];go_simp;go_wp2_with fail;refine HCz.o.mono ?_;rintro e w9 ⟨rfl,hb9⟩;exact HK.o _ _ _ (by simp only[e3,e7];rfl) rfl (bT HSS.o hb9) hb9
     refine sD 9 0 aT9 [8] (fun f wq l hl hun hdn hS hd K' HK=>?_) ?_
     ·obtain⟨e8,-⟩:=hd;have e8:f 8=_:=e8;have HSS:=Jh hS;clear hS;simp only[e8];go_simp;exact HK.o _ _ _ (by simp only[e8];rfl) rfl HSS.o (rr _)
     exact trivial
    case fin=>
     intro fo wz lo hl hall hS;have a9:fo 9=_:=hall 9 (by decide);clear hall;simp only[a9];clear a9 rr;obtain⟨wE,rfl⟩:=exE wz;have HBE:=Jh (bT HBW.o hS);clear hS;by_cases hz:cmpR z1 z2=0
     ·have hzb:(cmpR z1 z2 !=0)=false:=by simp[hz]
      have HN:=Jh (show∀j,j<k+1->L[j]?=K[j]?from fun j hj=>by
       rcases Nat.lt_or_ge j k with h1|h1
       ·exact HA.o j h1
       rw[show j=k by omega,HZ.o.1,HZ.o.2,cmpR_zero.1 hz])
      clear hz;go_wp2_with fail;go_roundw;case rel=>exact⟨k+1,by omega,by go_num,HN.o,HBE.o⟩
      case measure=>simp[intOf];omega
     have hzb:(cmpR z1 z2 !=0)=true:=by simpa using hz
     have HF:=Jh (show decide (L=K)=false from decide_eq_false (fun e=>hz (cmpR_zero.2 (by have h1:=HZ.o.1;rw[e,HZ.o.2] at h1;exact(Option.some.inj h1).symm))));clear hz;go_wp2_with fail;go_ret;exact⟨ret_bool HF.o.symm,HBE.o⟩
   have hlb:decide ((k:Int)<(n:Int))=false:=by simp;omega
   have HF:=Jh (show decide (L=K)=true from decide_eq_true (List.ext_getElem? fun j=>by
    rcases Nat.lt_or_ge j k with h1|h1
    ·exact HA.o j h1
    rw[List.getElem?_eq_none (by have:=HX.o.1;omega),List.getElem?_eq_none (by have:=HY.o.1;omega)]))
   go_wp2_with fail;go_ret;exact⟨ret_bool HF.o.symm,HBW.o⟩
 have hne:((n:Int)!=(m:Int))=true:=by simp;omega
 have HF:=Jh (show decide (L=K)=false from decide_eq_false (fun e=>hnm (by rw[<-HX.o.1,<-HY.o.1,e])));clear hnm;go_enter Tryz.func16,Tryz.ntmps16;go_wp2_with fail;go_ret;exact⟨ret_bool HF.o.symm,bR w⟩
theorem same16_yes(A B:Option Addr)(n m c d:Nat)(L:List (List Int))(w:World)(hx:RR w A n L)(hy:RR w B m L)(hn:n<=4611686018427387904):
  Calls Tryz.prog 16 #[.slice A n c,.slice B m d] w fun o w'=>o=.returned (.bool true)/\Below w.heap.size w w':=
 (same16_any A B n m c d L L w hx hy hn).mono fun e w' h=>⟨by rw[h.1];simp,h.2⟩
end Go.Proofs.YtnigadeohmlpiaaGreatDoor
