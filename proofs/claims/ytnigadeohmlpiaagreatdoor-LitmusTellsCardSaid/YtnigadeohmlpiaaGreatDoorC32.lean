/- Contracts and words: an access, program order, a place in an order, lists that may be; whether a list is an order of all accesses. No condition of ours. -/
import Derived.Test.YtnigadeohmlpiaaGreatDoorC29
set_option maxHeartbeats 32000000
set_option maxRecDepth 100000
namespace Go.Proofs.YtnigadeohmlpiaaGreatDoor
open Go.RowKit
attribute [local go_sem] Oper.semAt_some
theorem access77_any(A:Option Addr)(n c i:Nat)(l:List Ev)(x:Ev)(w:World)(he:IsEvs w A n c l)(hx:l[i]?=some x):
  Calls Tryz.prog 77 #[.slice A n c,.int .i64 i] w fun o w'=>o=.returned (.bool x.acc)/\Below w.heap.size w w':=by
 have hin:i<n:=by have:=(List.getElem?_eq_some_iff.1 hx).1;have:=he.len;omega
 obtain⟨ge,oe,x',rfl,hx',hc0,hc1,hc2,_⟩:=he.at_ hin;obtain rfl:x'=x:=Option.some.inj (hx'.symm.trans hx);have hi0:decide ((i:Int)>=0)=true:=by simp
 have hin2:decide ((i:Int)<(n:Int))=true:=by simp;omega
 have hi1:decide ((i:Int)<0)=false:=by simp
 have hiN:(i:Int)<(n:Int):=by omega
 clear hx hx' he hin hc0 hc2;unfold Ev.acc;by_cases hk:x'.k=1
 ·have hkb:(x'.k==1)=true:=by simpa using hk
  rw[hkb,Bool.true_or];clear hk;go_enter Tryz.func77,Tryz.ntmps77;go_wp2_with fail;go_ret;exact⟨rfl,bR w⟩
 have hkb:(x'.k==1)=false:=by simpa using hk
 rw[hkb,Bool.false_or];clear hk;go_enter Tryz.func77,Tryz.ntmps77;go_wp2_with fail;go_ret;exact⟨rfl,bR w⟩
theorem program104_any(A:Option Addr)(n c i k:Nat)(l:List Ev)(x y:Ev)(w:World)(he:IsEvs w A n c l)(hx:l[i]?=some x)(hy:l[k]?=some y):
  Calls Tryz.prog 104 #[.slice A n c,.int .i64 i,.int .i64 k] w fun o w'=>o=.returned (.bool (decide (i<k)&&(x.h==y.h)))/\Below w.heap.size w w':=by
 have hin:i<n:=by have:=(List.getElem?_eq_some_iff.1 hx).1;have:=he.len;omega
 have hkn:k<n:=by have:=(List.getElem?_eq_some_iff.1 hy).1;have:=he.len;omega
 obtain⟨ge,oe,x',rfl,hx',hc0,_⟩:=he.at_ hin;obtain rfl:x'=x:=Option.some.inj (hx'.symm.trans hx);obtain⟨ge',oe',y',hA',hy',hd0,_⟩:=he.at_ hkn;obtain rfl:y'=y:=Option.some.inj (hy'.symm.trans hy);simp only[Option.some.injEq,Addr.mk.injEq,and_true] at hA';obtain⟨rfl,rfl⟩:=hA';have hi1:decide ((i:Int)<0)=false:=by simp
 have hk1:decide ((k:Int)<0)=false:=by simp
 have hiN:(i:Int)<(n:Int):=by omega
 have hkN:(k:Int)<(n:Int):=by omega
 have HO:(x'.h==y'.h)=(x'.h==y'.h):=rfl;clear hx hx' he hy hy';by_cases hik:i<k
 ·have hb:decide ((i:Int)<(k:Int))=true:=by simp;omega
  have hb2:decide (i<k)=true:=by simpa using hik
  rw[show decide (i<k)=true by simpa using hik,Bool.true_and];clear hik;go_enter Tryz.func104,Tryz.ntmps104;go_upto_region 1 with fail
  have rr:∀(wx:World),Below wx.heap.size wx wx:=fun wx=>bR wx;have HC:=Jh (fun(wx:World) (hb:Below w.heap.size w wx)=>And.intro ((hb.cell (cell_lt hc0)).trans hc0) ((hb.cell (cell_lt hd0)).trans hd0));clear hc0 hd0
  refine wp_region_det (by kernel_rfl) (fun f=>(⟨#[Value.slice (some ⟨ge,oe,none⟩) n c,.int .i64 (i:Int),.int .i64 (k:Int),undef,undef,undef,f 16,f 0,f 1,f 2,f 3,f 4,f 5,f 6,f 7,f 8,f 9,f 10,f 11,f 12,f 13,f 14,f 15],[]⟩:Act)) (fun(iv:Nat) (lv:Nat->Bool) (fv:Nat->Value) (wx:World)=>match iv with|0=>fv 0=.int .i64 i|1=>fv 1=.int .i64 k|2=>fv 2=.bool true|3=>fv 3=.bool true|4=>fv 4=.slice (some ⟨ge,oe,none⟩) n c|5=>fv 5=.int .i64 i|6=>fv 6=.pointer (some ⟨ge,oe+i*4,none⟩)|7=>fv 7=.pointer (some ⟨ge,oe+i*4,none⟩)|8=>fv 8=.int .i64 x'.h|9=>fv 9=.slice (some ⟨ge,oe,none⟩) n c|10=>fv 10=.int .i64 k|11=>fv 11=.pointer (some ⟨ge,oe+k*4,none⟩)|12=>fv 12=.pointer (some ⟨ge,oe+k*4,none⟩)|13=>fv 13=.int .i64 y'.h|14=>fv 14=.bool (x'.h==y'.h)|15=>fv 15=.bool (x'.h==y'.h)|16=>fv 16=.bool (x'.h==y'.h)|_=>True) (fun _ wx=>Below w.heap.size w wx) (fun _ w1 w2=>Below w1.heap.size w1 w2) (by kernel_rfl) (fun k=>match k with|16=>Value.bool false|_=>undef) rfl ?keep (bD (bR w)) ?steps ?fin
  case keep=>
   intro iv j hij hd l f f' w1 w2 hf hR
   match j with
   |0|1|2|3|4|5|6|7|8|9|10|11|12|13|14|15|16=>exact fun h=>(hf _ (Ne.symm hij)).trans h
   |_+17=>exact id
  case steps=>
   refine fun iv hiv=>stepsOf_at (k:=0) (n:=17) ?_ iv (Nat.zero_le _) (by rw[Nat.zero_add];exact hiv);refine sD 0 16 aT0 [] (fun f wq l hl hun hdn hS hd K' HK=>?_) ?_
   ·clear hd;have HSS:=Jh hS;clear hS;go_simp;exact HK.o _ _ _ rfl rfl HSS.o (rr _)
   refine sD 1 15 aT1 [] (fun f wq l hl hun hdn hS hd K' HK=>?_) ?_
   ·clear hd;have HSS:=Jh hS;clear hS;go_simp;exact HK.o _ _ _ rfl rfl HSS.o (rr _)
   refine sD 2 14 aT2 [0,1] (fun f wq l hl hun hdn hS hd K' HK=>?_) ?_
   ·obtain⟨e0,e1,-⟩:=hd;have e0:f 0=_:=e0;have e1:f 1=_:=e1;have HSS:=Jh hS;clear hS;simp only[e0,e1];go_simp;exact HK.o _ _ _ (by simp only[e0,e1];rfl) rfl HSS.o (rr _)
   refine sD 3 13 aT3 [2] (fun f wq l hl hun hdn hS hd K' HK=>?_) ?_
   ·obtain⟨e2,-⟩:=hd;have e2:f 2=_:=e2;have HSS:=Jh hS;clear hS;simp only[e2];go_simp;exact HK.o _ _ _ (by simp only[e2];rfl) rfl HSS.o (rr _)
   refine sD 4 12 aT4 [3] (fun f wq l hl hun hdn hS hd K' HK=>?_) ?_
   ·obtain⟨e3,-⟩:=hd;have e3:f 3=_:=e3;have HSS:=Jh hS;clear hS;simp only[e3];go_simp;exact HK.o _ _ _ (by simp only[e3];rfl) rfl HSS.o (rr _)
   refine sD 5 11 aT5 [3] (fun f wq l hl hun hdn hS hd K' HK=>?_) ?_
   ·obtain⟨e3,-⟩:=hd;have e3:f 3=_:=e3;have HSS:=Jh hS;clear hS;simp only[e3];go_simp;exact HK.o _ _ _ (by simp only[e3];rfl) rfl HSS.o (rr _)
   refine sD 6 10 aT6 [3,4,5] (fun f wq l hl hun hdn hS hd K' HK=>?_) ?_
   ·obtain⟨e3,e4,e5,-⟩:=hd;have e3:f 3=_:=e3;have e4:f 4=_:=e4;have e5:f 5=_:=e5;have HSS:=Jh hS;clear hS;simp only[e3,e4,e5];go_simp;exact HK.o _ _ _ (by simp only[e3,e4,e5];rfl) rfl HSS.o (rr _)
   refine sD 7 9 aT7 [3,6] (fun f wq l hl hun hdn hS hd K' HK=>?_) ?_
   ·obtain⟨e3,e6,-⟩:=hd;have e3:f 3=_:=e3;have e6:f 6=_:=e6;have HSS:=Jh hS;clear hS;simp only[e3,e6];go_simp;exact HK.o _ _ _ (by simp only[e3,e6];rfl) rfl HSS.o (rr _)
   refine sD 8 8 aT8 [3,7] (fun f wq l hl hun hdn hS hd K' HK=>?_) ?_
   ·obtain⟨e3,e7,-⟩:=hd;have e3:f 3=_:=e3;have e7:f 7=_:=e7;have q0:=(HC.o wq hS).1;have HSS:=Jh hS;clear hS;simp only[e3,e7];go_simp;exact HK.o _ _ _ (by simp only[e3,e7];rfl) rfl HSS.o (rr _)
   refine sD 9 7 aT9 [3] (fun f wq l hl hun hdn hS hd K' HK=>?_) ?_
   ·obtain⟨e3,-⟩:=hd;have e3:f 3=_:=e3;have HSS:=Jh hS;clear hS;simp only[e3];go_simp;exact HK.o _ _ _ (by simp only[e3];rfl) rfl HSS.o (rr _)
   refine sD 10 6 aT10 [3] (fun f wq l hl hun hdn hS hd K' HK=>?_) ?_
   ·obtain⟨e3,-⟩:=hd;have e3:f 3=_:=e3;have HSS:=Jh hS;clear hS;simp only[e3];go_simp;exact HK.o _ _ _ (by simp only[e3];rfl) rfl HSS.o (rr _)
   refine sD 11 5 aT11 [3,9,10] (fun f wq l hl hun hdn hS hd K' HK=>?_) ?_
   ·obtain⟨e3,e9,e10,-⟩:=hd;have e3:f 3=_:=e3;have e9:f 9=_:=e9;have e10:f 10=_:=e10;have HSS:=Jh hS;clear hS;simp only[e3,e9,e10];go_simp;exact HK.o _ _ _ (by simp only[e3,e9,e10];rfl) rfl HSS.o (rr _)
   refine sD 12 4 aT12 [3,11] (fun f wq l hl hun hdn hS hd K' HK=>?_) ?_
   ·obtain⟨e3,e11,-⟩:=hd;have e3:f 3=_:=e3;have e11:f 11=_:=e11;have HSS:=Jh hS;clear hS;simp only[e3,e11];go_simp;exact HK.o _ _ _ (by simp only[e3,e11];rfl) rfl HSS.o (rr _)
   refine sD 13 3 aT13 [3,12] (fun f wq l hl hun hdn hS hd K' HK=>?_) ?_
   ·obtain⟨e3,e12,-⟩:=hd;have e3:f 3=_:=e3;have e12:f 12=_:=e12;have q0:=(HC.o wq hS).2;have HSS:=Jh hS;clear hS;simp only[e3,e12];go_simp;exact HK.o _ _ _ (by simp only[e3,e12];rfl) rfl HSS.o (rr _)
   refine sD 14 2 aT14 [3,8,13] (fun f wq l hl hun hdn hS hd K' HK=>?_) ?_
   ·obtain⟨e3,e8,e13,-⟩:=hd;have e3:f 3=_:=e3;have e8:f 8=_:=e8;have e13:f 13=_:=e13;have HSS:=Jh hS;clear hS;simp only[e3,e8,e13];go_simp;exact HK.o _ _ _ (by simp only[e3,e8,e13];rfl) rfl HSS.o (rr _)
   refine sD 15 1 aT15 [3,14] (fun f wq l hl hun hdn hS hd K' HK=>?_) ?_
   ·obtain⟨e3,e14,-⟩:=hd;have e3:f 3=_:=e3;have e14:f 14=_:=e14;have HSS:=Jh hS;clear hS;simp only[e3,e14];go_simp;exact HK.o _ _ _ (by simp only[e3,e14];rfl) rfl HSS.o (rr _)
   refine sD 16 0 aT16 [15] (fun f wq l hl hun hdn hS hd K' HK=>?_) ?_
   ·obtain⟨e15,-⟩:=hd;have e15:f 15=_:=e15;have HSS:=Jh hS;clear hS;simp only[e15];go_simp;exact HK.o _ _ _ (by simp only[e15];rfl) rfl HSS.o (rr _)
   exact trivial
  case fin=>intro fo wz lo hl hall hS;have a16:fo 16=_:=hall 16 (by decide);clear hall;simp only[a16];clear a16 rr hl;obtain⟨WE,rfl⟩:=exE wz;have HBE:=Jh hS;clear hS;go_wp2_with fail;go_ret;exact⟨rfl,HBE.o⟩
 have hb:decide ((i:Int)<(k:Int))=false:=by simp;omega
 have hb2:decide (i<k)=false:=by simpa using hik
 rw[show decide (i<k)=false by simpa using hik,Bool.false_and];clear hik hc0 hd0;go_enter Tryz.func104,Tryz.ntmps104;go_upto_region 1 with fail
 have rr:∀(wx:World),Below wx.heap.size wx wx:=fun wx=>bR wx
 refine wp_region_det (by kernel_rfl) (fun f=>(⟨#[Value.slice (some ⟨ge,oe,none⟩) n c,.int .i64 (i:Int),.int .i64 (k:Int),undef,undef,undef,f 16,f 0,f 1,f 2,f 3,f 4,f 5,f 6,f 7,f 8,f 9,f 10,f 11,f 12,f 13,f 14,f 15],[]⟩:Act)) (fun(iv:Nat) (lv:Nat->Bool) (fv:Nat->Value) (wx:World)=>match iv with|0=>fv 0=.int .i64 i|1=>fv 1=.int .i64 k|2=>fv 2=.bool false|3=>fv 3=.bool false|4=>fv 4=undef|5=>fv 5=undef|6=>fv 6=undef|7=>fv 7=undef|8=>fv 8=undef|9=>fv 9=undef|10=>fv 10=undef|11=>fv 11=undef|12=>fv 12=undef|13=>fv 13=undef|14=>fv 14=undef|15=>fv 15=.bool false|16=>fv 16=.bool false|_=>True) (fun _ wx=>Below w.heap.size w wx) (fun _ w1 w2=>Below w1.heap.size w1 w2) (by kernel_rfl) (fun k=>match k with|16=>Value.bool false|_=>undef) rfl ?keep (bD (bR w)) ?steps ?fin
 case keep=>
  intro iv j hij hd l f f' w1 w2 hf hR
  match j with
  |0|1|2|3|4|5|6|7|8|9|10|11|12|13|14|15|16=>exact fun h=>(hf _ (Ne.symm hij)).trans h
  |_+17=>exact id
 case steps=>
  refine fun iv hiv=>stepsOf_at (k:=0) (n:=17) ?_ iv (Nat.zero_le _) (by rw[Nat.zero_add];exact hiv);refine sD 0 16 aT0 [] (fun f wq l hl hun hdn hS hd K' HK=>?_) ?_
  ·clear hd;have HSS:=Jh hS;clear hS;go_simp;exact HK.o _ _ _ rfl rfl HSS.o (rr _)
  refine sD 1 15 aT1 [] (fun f wq l hl hun hdn hS hd K' HK=>?_) ?_
  ·clear hd;have HSS:=Jh hS;clear hS;go_simp;exact HK.o _ _ _ rfl rfl HSS.o (rr _)
  refine sD 2 14 aT2 [0,1] (fun f wq l hl hun hdn hS hd K' HK=>?_) ?_
  ·obtain⟨e0,e1,-⟩:=hd;have e0:f 0=_:=e0;have e1:f 1=_:=e1;have HSS:=Jh hS;clear hS;simp only[e0,e1];go_simp;exact HK.o _ _ _ (by simp only[e0,e1];rfl) rfl HSS.o (rr _)
  refine sD 3 13 aT3 [2] (fun f wq l hl hun hdn hS hd K' HK=>?_) ?_
  ·obtain⟨e2,-⟩:=hd;have e2:f 2=_:=e2;have HSS:=Jh hS;clear hS;simp only[e2];go_simp;exact HK.o _ _ _ (by simp only[e2];rfl) rfl HSS.o (rr _)
  refine sD 4 12 aT4 [3] (fun f wq l hl hun hdn hS hd K' HK=>?_) ?_
  ·obtain⟨e3,-⟩:=hd;have e3:f 3=_:=e3;have HSS:=Jh hS;clear hS;simp only[e3];go_simp;exact HK.o _ _ _ (by simp only[e3];rfl) rfl HSS.o (rr _)
  refine sD 5 11 aT5 [3] (fun f wq l hl hun hdn hS hd K' HK=>?_) ?_
  ·obtain⟨e3,-⟩:=hd;have e3:f 3=_:=e3;have HSS:=Jh hS;clear hS;simp only[e3];go_simp;exact HK.o _ _ _ (by simp only[e3];rfl) rfl HSS.o (rr _)
  refine sD 6 10 aT6 [3,4,5] (fun f wq l hl hun hdn hS hd K' HK=>?_) ?_
  ·obtain⟨e3,e4,e5,-⟩:=hd;have e3:f 3=_:=e3;have e4:f 4=_:=e4;have e5:f 5=_:=e5;have HSS:=Jh hS;clear hS;simp only[e3,e4,e5];go_simp;exact HK.o _ _ _ (by simp only[e3,e4,e5];rfl) rfl HSS.o (rr _)
  refine sD 7 9 aT7 [3,6] (fun f wq l hl hun hdn hS hd K' HK=>?_) ?_
  ·obtain⟨e3,e6,-⟩:=hd;have e3:f 3=_:=e3;have e6:f 6=_:=e6;have HSS:=Jh hS;clear hS;simp only[e3,e6];go_simp;exact HK.o _ _ _ (by simp only[e3,e6];rfl) rfl HSS.o (rr _)
  refine sD 8 8 aT8 [3,7] (fun f wq l hl hun hdn hS hd K' HK=>?_) ?_
  ·obtain⟨e3,e7,-⟩:=hd;have e3:f 3=_:=e3;have e7:f 7=_:=e7;have HSS:=Jh hS;clear hS;simp only[e3,e7];go_simp;exact HK.o _ _ _ (by simp only[e3,e7];rfl) rfl HSS.o (rr _)
  refine sD 9 7 aT9 [3] (fun f wq l hl hun hdn hS hd K' HK=>?_) ?_
  ·obtain⟨e3,-⟩:=hd;have e3:f 3=_:=e3;have HSS:=Jh hS;clear hS;simp only[e3];go_simp;exact HK.o _ _ _ (by simp only[e3];rfl) rfl HSS.o (rr _)
  refine sD 10 6 aT10 [3] (fun f wq l hl hun hdn hS hd K' HK=>?_) ?_
  ·obtain⟨e3,-⟩:=hd;have e3:f 3=_:=e3;have HSS:=Jh hS;clear hS;simp only[e3];go_simp;exact HK.o _ _ _ (by simp only[e3];rfl) rfl HSS.o (rr _)
  refine sD 11 5 aT11 [3,9,10] (fun f wq l hl hun hdn hS hd K' HK=>?_) ?_
  ·obtain⟨e3,e9,e10,-⟩:=hd;have e3:f 3=_:=e3;have e9:f 9=_:=e9;have e10:f 10=_:=e10;have HSS:=Jh hS;clear hS;simp only[e3,e9,e10];go_simp;exact HK.o _ _ _ (by simp only[e3,e9,e10];rfl) rfl HSS.o (rr _)
  refine sD 12 4 aT12 [3,11] (fun f wq l hl hun hdn hS hd K' HK=>?_) ?_
  ·obtain⟨e3,e11,-⟩:=hd;have e3:f 3=_:=e3;have e11:f 11=_:=e11;have HSS:=Jh hS;clear hS;simp only[e3,e11];go_simp;exact HK.o _ _ _ (by simp only[e3,e11];rfl) rfl HSS.o (rr _)
  refine sD 13 3 aT13 [3,12] (fun f wq l hl hun hdn hS hd K' HK=>?_) ?_
  ·obtain⟨e3,e12,-⟩:=hd;have e3:f 3=_:=e3;have e12:f 12=_:=e12;have HSS:=Jh hS;clear hS;simp only[e3,e12];go_simp;exact HK.o _ _ _ (by simp only[e3,e12];rfl) rfl HSS.o (rr _)
  refine sD 14 2 aT14 [3,8,13] (fun f wq l hl hun hdn hS hd K' HK=>?_) ?_
  ·obtain⟨e3,e8,e13,-⟩:=hd;have e3:f 3=_:=e3;have e8:f 8=_:=e8;have e13:f 13=_:=e13;have HSS:=Jh hS;clear hS;simp only[e3,e8,e13];go_simp;exact HK.o _ _ _ (by simp only[e3,e8,e13];rfl) rfl HSS.o (rr _)
  refine sD 15 1 aT15 [3,14] (fun f wq l hl hun hdn hS hd K' HK=>?_) ?_
  ·obtain⟨e3,e14,-⟩:=hd;have e3:f 3=_:=e3;have e14:f 14=_:=e14;have HSS:=Jh hS;clear hS;simp only[e3,e14];go_simp;exact HK.o _ _ _ (by simp only[e3,e14];rfl) rfl HSS.o (rr _)
  refine sD 16 0 aT16 [15] (fun f wq l hl hun hdn hS hd K' HK=>?_) ?_
  ·obtain⟨e15,-⟩:=hd;have e15:f 15=_:=e15;have HSS:=Jh hS;clear hS;simp only[e15];go_simp;exact HK.o _ _ _ (by simp only[e15];rfl) rfl HSS.o (rr _)
  exact trivial
 case fin=>intro fo wz lo hl hall hS;have a16:fo 16=_:=hall 16 (by decide);clear hall;simp only[a16];clear a16 rr hl;obtain⟨WE,rfl⟩:=exE wz;have HBE:=Jh hS;clear hS;go_wp2_with fail;go_ret;exact⟨rfl,HBE.o⟩
def placeZ(xs:List Int)(i:Int):Int:=match xs.findIdx? (· ==i) with
 |some k=>k
 |none=>-1
theorem placeZ_neg(xs:List Int)(i:Int):decide (placeZ xs i<0)=!decide (i∈xs):=by
 unfold placeZ;cases h:xs.findIdx? (· ==i) with
 |none=>
  have h1:i∉xs:=fun hm=>by have:=List.findIdx?_eq_none_iff.1 h i hm;simp at this
  simp[h1]
 |some k=>
  obtain⟨hk,h1,_⟩:=List.findIdx?_eq_some_iff_getElem.1 h;have h2:i∈xs:=by
   have:xs[k]=i:=by simpa using h1
   exact this▸List.getElem_mem hk
  simp[h2]
theorem placeZ_nn(xs:List Int)(i:Int):decide (placeZ xs i>=0)=decide (i∈xs):=by
 have h:=placeZ_neg xs i;by_cases hm:i∈xs
 ·simp only[hm,decide_true,Bool.not_true,decide_eq_false_iff_not] at h;simp only[hm,decide_true,decide_eq_true_eq];omega
 simp only[hm,decide_false,Bool.not_false,decide_eq_true_eq] at h;simp only[hm,decide_false,decide_eq_false_iff_not];omega
theorem placeZ_at{xs:List Int}{i:Int}{k:Nat}(hk:xs[k]?=some i)(h:i∉xs.take k):placeZ xs i=k:=by
 unfold placeZ;obtain⟨hl,h1⟩:=List.getElem?_eq_some_iff.1 hk;have:xs.findIdx? (· ==i)=some k:=by rw[List.findIdx?_eq_some_iff_getElem];refine⟨hl,by simp[h1],fun j hj=>?_⟩;simp only[beq_iff_eq];intro he;exact h (List.mem_take_iff_getElem.2 ⟨j,by omega,he⟩)
 rw[this]
theorem placeZ_none{xs:List Int}{i:Int}(h:i∉xs):placeZ xs i=-1:=by
 unfold placeZ;have:xs.findIdx? (· ==i)=none:=by rw[List.findIdx?_eq_none_iff];intro x hx;simp only[beq_eq_false_iff_ne,ne_eq];rintro rfl;exact h hx
 rw[this]
theorem place78_any(A:Option Addr)(n c:Nat)(xs:List Int)(i:Int)(w:World)(hx:Rd w 1 A n (ints xs))(hn:n<=4611686018427387904):
  Calls Tryz.prog 78 #[.slice A n c,.int .i64 i] w fun o w'=>o=.returned (.int .i64 (placeZ xs i))/\Below w.heap.size w w':=by
 have HX:=Jh hx;have hxl:xs.length=n:=by have:=hx.1;simp[ints] at this;omega
 have HXL:=Jh hxl;clear hx hxl;go_enter Tryz.func78,Tryz.ntmps78;go_wp2_with fail;go_loopw [5] (fun vi wr=>∃k:Nat,k<=n/\vi=.int .i64 k/\i∉xs.take k/\Below w.heap.size w wr) (fun vi _=>n-(intOf vi).toNat);case atStart=>exact⟨0,Nat.zero_le _,rfl,by simp,bR w⟩
 case round=>
  obtain⟨k,hk,rfl,hno,hbw⟩:=hrel;obtain⟨wo,rfl⟩:=exE wr;have HNo:=Jh hno;have HBW:=Jh hbw;clear hno hbw;by_cases hlt:k<n
  ·have hlb:decide ((k:Int)<(n:Int))=true:=by simp;omega
   obtain⟨b1,o1,x,rfl,hxk,hc1⟩:=(HX.o.below HBW.o).int hlt;have HXK:=Jh hxk;clear hxk;have hkn:(k:Int)<(n:Int):=by omega
   have hk0:decide ((k:Int)<0)=false:=by simp
   by_cases hxi:x=i
   ·have hb:(x==i)=true:=by simp[hxi]
    have HR:=Jh (show placeZ xs i=k from placeZ_at (hxi▸HXK.o) HNo.o);clear hxi;go_wp2_with fail;go_ret;exact⟨ret_int HR.o.symm,HBW.o⟩
   have hb:(x==i)=false:=by simp[hxi]
   have HN:=Jh (show i∉xs.take (k+1) from by rw[List.take_add_one,HXK.o];simp only[Option.toList_some,List.mem_append,List.mem_singleton,not_or];exact⟨HNo.o,fun e=>hxi e.symm⟩);clear hxi;go_wp2_with fail;go_roundw;case rel=>exact⟨k+1,by omega,by go_num,HN.o,HBW.o⟩
   case measure=>simp[intOf];omega
  have hlb:decide ((k:Int)<(n:Int))=false:=by simp;omega
  have HR:=Jh (show placeZ xs i=-1 from placeZ_none (by have:=HNo.o;rwa[List.take_of_length_le (by have:=HXL.o;omega)] at this));go_wp2_with fail;go_ret;exact⟨ret_int HR.o.symm,HBW.o⟩
theorem right39_yes(A:Option Addr)(n c:Nat)(l:List Ev)(w:World)(he:IsEvs w A n c l)(hn:n<=8)(hok:∀e∈l,e.Ok):
  Calls Tryz.prog 39 #[.slice A n c] w fun o w'=>o=.returned (.bool true)/\Below w.heap.size w w':=by
 have HE:=Jh he;have HOk:=Jh hok;have h8:decide ((n:Int)>8)=false:=by simp;omega
 have HN8:=Jh hn;clear he hok hn;go_enter Tryz.func39,Tryz.ntmps39;go_wp2_with fail;go_loopw [3] (fun vi wr=>∃k:Nat,k<=n/\vi=.int .i64 k/\Below w.heap.size w wr) (fun vi _=>n-(intOf vi).toNat);case atStart=>exact⟨0,Nat.zero_le _,rfl,bR w⟩
 case round=>
  obtain⟨k,hk,rfl,hbw⟩:=hrel;obtain⟨wo,rfl⟩:=exE wr;have HBW:=Jh hbw;clear hbw;have hn8:=HN8.o;by_cases hlt:k<n
  ·have hlb:decide ((k:Int)<(n:Int))=true:=by simp;omega
   have HE2:=Jh (HE.o.sees (Below.sees HBW.o));obtain⟨g,o,e,rfl,hek,hd0,hd1,hd2,hd3⟩:=HE2.o.at_ hlt;have hokE:=HOk.o e (List.mem_of_getElem? hek);obtain⟨⟨hh1,hh2⟩,⟨hk1,hk2⟩,⟨ha1,ha2⟩,⟨hn1,hn2⟩,hfe⟩:=hokE;have f1:decide (e.h<0)=false:=by simp;omega
   have f2:decide (e.h>3)=false:=by simp;omega
   have f3:decide (e.k<1)=false:=by simp;omega
   have f4:decide (e.k>3)=false:=by simp;omega
   have f5:decide (e.a<0)=false:=by simp;omega
   have f6:decide (e.a>3)=false:=by simp;omega
   have f7:decide (e.n< -2147483648)=false:=by simp;omega
   have f8:decide (e.n>=2147483648)=false:=by simp;omega
   have hkn:(k:Int)<(n:Int):=by omega
   have hk0:decide ((k:Int)<0)=false:=by simp
   have HFe:=Jh hfe;clear hek hh1 hh2 hk1 hk2 ha1 ha2 hn1 hn2 hfe;obtain⟨eh,hEh⟩:=exE (e.h);obtain⟨ek,hEk⟩:=exE (e.k);obtain⟨ea,hEa⟩:=exE (e.a);obtain⟨en,hEn⟩:=exE (e.n);have HNN:=Jh (show ek=3->ea=0/\en=0 from fun h=>by rw[hEa,hEn];exact HFe.o (hEk▸h));rw[<-hEh] at f1 f2 hd0;rw[<-hEk] at f3 f4 hd1;rw[<-hEa] at f5 f6 hd2;rw[<-hEn] at f7 f8 hd3;clear hEh hEk hEa hEn HFe
   obtain⟨WN,hWN⟩:=exE (wo.alloc (.cells #[.int .i64 eh,.int .i64 ek,.int .i64 ea,.int .i64 en] 44));obtain⟨q0,q1,q2,q3,_⟩:=cells4 (heap_alloc_new wo (.cells #[.int .i64 eh,.int .i64 ek,.int .i64 ea,.int .i64 en] 44));have kN:Below wo.heap.size wo WN:=hWN▸bA (bR wo);have HBN:=Jh (bT HBW.o kN);clear hWN kN;by_cases hk3:ek=3
   ·obtain⟨rfl,rfl⟩:=HNN.o hk3;subst hk3;go_wp2_with fail;go_roundw;case rel=>exact⟨k+1,by omega,by go_num,bA HBW.o⟩
    case measure=>simp[intOf];omega
   have f9:(ek==3)=false:=by simpa using hk3
   clear hk3;go_wp2_with fail;go_roundw;case rel=>exact⟨k+1,by omega,by go_num,bA HBW.o⟩
   case measure=>simp[intOf];omega
  have hlb:decide ((k:Int)<(n:Int))=false:=by simp;omega
  go_wp2_with fail;go_ret;exact⟨rfl,HBW.o⟩
end Go.Proofs.YtnigadeohmlpiaaGreatDoor
namespace Go.Proofs.YtnigadeohmlpiaaGreatDoor
open Go.RowKit
attribute [local go_sem] Oper.semAt_some
def natI(xs:List Nat):List Int:=xs.map Int.ofNat
theorem natI_mem{xs:List Nat}{i:Nat}:(i:Int)∈natI xs↔i∈xs:=by
 unfold natI;constructor
 ·intro h;obtain⟨j,hj,he⟩:=List.mem_map.1 h;injection he with he
  exact he▸hj
 intro h;exact List.mem_map.2 ⟨i,h,rfl⟩
theorem natI_at{xs:List Nat}{k:Nat}{z:Int}(h:(natI xs)[k]?=some z):∃j:Nat,z=j/\xs[k]?=some j:=by
 unfold natI at h;rw[List.getElem?_map] at h;cases hx:xs[k]?with
 |none=>rw[hx] at h;cases h
 |some j=>rw[hx] at h;exact⟨j,(Option.some.inj h).symm,rfl⟩
theorem natI_len(xs:List Nat):(natI xs).length=xs.length:=by simp[natI]
def OrderedP(l:List Ev)(xs:List Nat):Prop:=(∀(i:Nat) (e:Ev),l[i]?=some e->e.acc=true->i∈xs)/\(l.filter Ev.acc).length=xs.length
def accN(l:List Ev)(k:Nat):Nat:=((l.take k).filter Ev.acc).length
theorem accN_succ{l:List Ev}{k:Nat}{e:Ev}(h:l[k]?=some e):accN l (k+1)=accN l k+if e.acc then 1 else 0:=by unfold accN;rw[List.take_add_one,h,List.filter_append,List.length_append];cases ha:e.acc<;>simp[ha]
theorem accN_le(l:List Ev)(k:Nat):accN l k<=k:=by unfold accN;have h1:=List.length_filter_le Ev.acc (l.take k);rw[List.length_take] at h1;omega
theorem ordered75_any(A B:Option Addr)(n c m d:Nat)(l:List Ev)(xs:List Nat)(w:World)(he:IsEvs w A n c l)(hx:Rd w 1 B m (ints (natI xs)))(hn:n<=1000)(hm:m<=1000):
  Calls Tryz.prog 75 #[.slice A n c,.slice B m d] w fun o w'=>(∃b,o=.returned (.bool b)/\(b=true↔OrderedP l xs))/\Below w.heap.size w w':=by
 have HX:=Jh hx;have HE:=Jh he;have HM:=Jh hm;have hxl:xs.length=m:=by have:=hx.1;simp[ints,natI] at this;omega
 have HXL:=Jh hxl;have HEL:=Jh he.len;clear hx hxl he hm;go_enter Tryz.func75,Tryz.ntmps75;go_wp2_with fail;go_loopw [5,6] (fun vn vi wr=>∃k:Nat,k<=n/\vi=.int .i64 k/\vn=.int .i64 (accN l k)/\(∀(i:Nat) (e:Ev),i<k->l[i]?=some e->e.acc=true->i∈xs)/\Below w.heap.size w wr) (fun _ vi _=>n-(intOf vi).toNat);case atStart=>exact⟨0,Nat.zero_le _,rfl,rfl,fun i e hi=>absurd hi (by omega),bR w⟩
 case round=>
  obtain⟨k,hk,rfl,rfl,hall,hbw⟩:=hrel;obtain⟨wo,rfl⟩:=exE wr;have HAll:=Jh hall;have HBW:=Jh hbw;clear hall hbw;obtain⟨q,hq⟩:=exE (accN l k);have hqk:q<=k:=hq▸accN_le l k;rw[<-hq];have HQ:=Jh hq;clear hq;by_cases hlt:k<n
  ·have hlb:decide ((k:Int)<(n:Int))=true:=by simp;omega
   obtain⟨e,hek⟩:∃e,l[k]?=some e:=⟨_,List.getElem?_eq_getElem (by have:=HEL.o;omega)⟩;have HEK:=Jh hek;have HAc:=Jh (access77_any A n c k l e wo (HE.o.sees (Below.sees HBW.o)) hek);have HS:=Jh (accN_succ hek);clear hek;go_wp2_with fail;refine HAc.o.mono ?_;rintro o w1 ⟨rfl,hb1⟩;have HB1:=Jh (bT HBW.o hb1);have HPl:=Jh (place78_any B m d (natI xs) k w1 (HX.o.below HB1.o) (by have:=HM.o;omega))
   clear hb1;by_cases hac:e.acc=true
   ·have HS2:=Jh (show accN l (k+1)=q+1 from by rw[HS.o,hac,HQ.o];rfl);have HP:=Jh (placeZ_neg (natI xs) k);by_cases hin:k∈xs
    ·have hpb:decide (placeZ (natI xs) k<0)=false:=by rw[HP.o];simpa using natI_mem.2 hin
     have HN:=Jh (show∀(i:Nat) (e:Ev),i<k+1->l[i]?=some e->e.acc=true->i∈xs from fun i e' hi h1 h2=>by
      by_cases hik:i=k
      ·exact hik▸hin
      exact HAll.o i e' (by omega) h1 h2)
     obtain⟨z,hz⟩:=exE (placeZ (natI xs) k);rw[<-hz] at hpb HPl;rw[hac];clear hac hin hz HP;go_wp2_with fail;refine HPl.o.mono ?_;rintro o w2 ⟨rfl,hb2⟩;have HB2:=Jh (bT HB1.o hb2);clear hb2;go_wp2_with fail;go_roundw;case rel=>exact⟨k+1,by omega,by go_num,by rw[HS2.o];go_num,HN.o,HB2.o⟩
     case measure=>simp[intOf];omega
    have hpb:decide (placeZ (natI xs) k<0)=true:=by rw[HP.o];simpa using fun h=>hin (natI_mem.1 h)
    have HN:=Jh (show¬OrderedP l xs from fun h=>hin (h.1 k e HEK.o hac));obtain⟨z,hz⟩:=exE (placeZ (natI xs) k);rw[<-hz] at hpb HPl;rw[hac];clear hac hin hz HP;go_wp2_with fail;refine HPl.o.mono ?_;rintro o w2 ⟨rfl,hb2⟩;have HB2:=Jh (bT HB1.o hb2);clear hb2;go_wp2_with fail;go_ret;exact⟨⟨false,rfl,by simp,fun h=>absurd h HN.o⟩,HB2.o⟩
   have hac:e.acc=false:=by simpa using hac
   have HS2:=Jh (show accN l (k+1)=q from by rw[HS.o,hac,HQ.o];rfl);have HN:=Jh (show∀(i:Nat) (e:Ev),i<k+1->l[i]?=some e->e.acc=true->i∈xs from fun i e' hi h1 h2=>by
    by_cases hik:i=k
    ·subst hik;rw[HEK.o] at h1;cases h1;rw[hac] at h2;cases h2
    exact HAll.o i e' (by omega) h1 h2)
   rw[hac];clear hac;go_wp2_with fail;go_roundw;case rel=>exact⟨k+1,by omega,by go_num,by rw[HS2.o],HN.o,HB1.o⟩
   case measure=>simp[intOf];omega
  have hlb:decide ((k:Int)<(n:Int))=false:=by simp;omega
  have HF:=Jh (show OrderedP l xs↔q=m from by
   have h1:accN l k=(l.filter Ev.acc).length:=by unfold accN;rw[List.take_of_length_le (by have:=HEL.o;omega)]
   unfold OrderedP;rw[<-h1,HXL.o,HQ.o];exact⟨fun h=>h.2,fun h=>⟨fun i e h1 h2=>HAll.o i e (by have:=(List.getElem?_eq_some_iff.1 h1).1;have:=HEL.o;omega) h1 h2,h⟩⟩)
  by_cases hqm:q=m
  ·have hb:(q==m)=true:=by simpa using hqm
   have hb2:((q:Int)==(m:Int))=true:=by simp;omega
   have HF2:=Jh (HF.o.2 hqm);clear hqm;go_wp2_with fail;go_ret;exact⟨⟨true,rfl,fun _=>HF2.o,fun _=>rfl⟩,HBW.o⟩
  have hb:(q==m)=false:=by simpa using hqm
  have hb2:((q:Int)==(m:Int))=false:=by simp;omega
  have HF2:=Jh (fun h=>hqm (HF.o.1 h));clear hqm;go_wp2_with fail;go_ret;exact⟨⟨false,rfl,by simp,fun h=>absurd h HF2.o⟩,HBW.o⟩
end Go.Proofs.YtnigadeohmlpiaaGreatDoor
