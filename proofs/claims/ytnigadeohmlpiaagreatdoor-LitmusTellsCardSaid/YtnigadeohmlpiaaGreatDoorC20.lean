/- A contract: a state's key. Its condition: that the library's table lies as it was laid. -/
import Derived.Test.YtnigadeohmlpiaaGreatDoorC19
set_option maxHeartbeats 32000000
set_option maxRecDepth 100000
namespace Go.Proofs.YtnigadeohmlpiaaGreatDoor
open Go.RowKit
attribute [local go_sem] Oper.semAt_some
def numB(z:Int):List UInt8:=Lib.itoa z++[32]
def doneB(x:Bool×Int):List UInt8:=if x.1 then numB x.2 else[45,32]
def entB(x:Int×Int):List UInt8:=numB x.1++numB x.2
def pendB(p:List (Int×Int)):List UInt8:=124::p.flatMap entB
def keyB(s:St):List UInt8:=(s.done.zip s.told).flatMap doneB++s.m.words.flatMap numB++s.m.pend.flatMap pendB
theorem numB_len{z:Int}(h:I32 z):(numB z).length<=22:=by unfold I32 at h;have:=Lib.itoa_length_le z (by omega) (by omega);simp[numB];omega
theorem doneB_len{x:Bool×Int}(h:I32 x.2):(doneB x).length<=22:=by
 unfold doneB;split
 ·exact numB_len h
 simp
theorem entB_len{x:Int×Int}(h:I32 x.1/\I32 x.2):(entB x).length<=44:=by have h1:=numB_len h.1;have h2:=numB_len h.2;simp[entB];omega
theorem ent_i32{M:Mm}(hM:M.Ok){p:List (Int×Int)}(hp:p∈M.pend){x:Int×Int}(hx:x∈p):I32 x.1/\I32 x.2:=by obtain⟨h1,h2,h3⟩:=hM.ent p hp x hx;exact⟨⟨by omega,by omega⟩,h3⟩
theorem pendB_len{M:Mm}(hM:M.Ok){p:List (Int×Int)}(hp:p∈M.pend):(pendB p).length<=353:=by have h1:=flatMap_len entB 44 p (fun x hx=>entB_len (ent_i32 hM hp hx));have h2:=hM.few p hp;unfold pendB;rw[List.length_cons];omega
theorem flatMap_snoc{α β:Type}{L:List α}{k:Nat}{x:α}(f:α->List β)(h:L[k]?=some x):(L.take (k+1)).flatMap f=(L.take k).flatMap f++f x:=by rw[List.take_add_one,h,List.flatMap_append];simp
theorem key_any(v:Value)(n:Nat)(s:St)(w:World)(hn:n<=6)(hs:IsSt w v n s)(hG:Glob w):
  Calls Tryz.prog 63 #[v] w fun e w'=>e=.returned (.string ⟨(keyB s).toArray⟩)/\Below w.heap.size w w':=by
 obtain⟨v1,v2,v3,AD,cD,AT,cT,rfl,him,hrd,hrt,_,_⟩:=hs.is;obtain⟨A1,c1,rfl,hrw⟩:=him.ws;obtain⟨A2,c2,pv,rfl,hrp,hpp⟩:=him.ps;obtain⟨A3,c3,rfl,_⟩:=him.rs;obtain⟨W1,hW1⟩:=exE (w.alloc (.cells #[.slice A1 4 c1,.slice A2 4 c2,.slice A3 4 c3,.slice AD n cD,.slice AT n cT] 70));obtain⟨b1,hb1⟩:=exE (w.heap.size);obtain⟨W,hW⟩:=exE (W1.alloc (.cells #[.pointer none,.slice none 0 0] 144))
 obtain⟨b3,hb3⟩:=exE (W1.heap.size);have k1:Below w.heap.size w W1:=hW1▸bA (bR w);have kW:Below W1.heap.size W1 W:=hW▸bA (bR W1);have HB1:=Jh k1;have H1:=Jh (show W1.heap[b1]?=some (.cells #[.slice A1 4 c1,.slice A2 4 c2,.slice A3 4 c3,.slice AD n cD,.slice AT n cT] 70) by rw[hW1,hb1];exact heap_alloc_new w _)
 have HBl:=Jh (show Lib.IsBuilder 144 5 b3 b3 (Lib.byteCells []) W from .inl ⟨Nat.le_refl _,.slice none 0 0,by rw[hW,hb3];exact heap_alloc_new W1 _,⟨rfl,.inl ⟨rfl,rfl⟩⟩,by intro h;cases h⟩);have HBW:=Jh (show Below b3 W1 W from hb3▸kW);have HSz:=Jh (show b3=W1.heap.size/\0<b3 from⟨hb3,hb3▸(hG.below k1).lt⟩);have HG:=Jh (hG.below k1);have HD:=Jh (hrd.below k1);have HT:=Jh (hrt.below k1)
 have HW:=Jh (hrw.below k1);have HP:=Jh (hrp.below k1);have HPP:=Jh (fun(k:Nat) p (h:s.m.pend[k]?=some p)=>(hpp k p h).imp fun A h=>h.imp fun c h=>(⟨h.1,h.2.2.below k1⟩:_/\Row W1 128 2 A p.length (entCells p)));have HOk:=Jh hs.ok
 have hWW:W=(w.alloc (.cells #[.slice A1 4 c1,.slice A2 4 c2,.slice A3 4 c3,.slice AD n cD,.slice AT n cT] 70)).alloc (.cells #[.pointer none,.slice none 0 0] 144):=by rw[hW,hW1]
 have HPut:=Jh (fun(l:List UInt8) (z:Int) (wx:World) (h:Lib.IsBuilder 144 5 b3 b3 (Lib.byteCells l) wx) (hb:Below b3 W1 wx) (hz:I32 z) (hl:l.length<=100000)=>put_any b3 b3 l z wx h hz (by omega) (by rw[hb3];exact hb.size) ((hG.below k1).belowB (hb3▸(hG.below k1).lt) hb))
 have hmf:∀(fn:Fn) (first cap:Array Value) (w:World),(Instr.makeFunc fn first cap).run Tryz.prog w=.ok (.func fn first cap) w:=fun _ _ _ _=>rfl
 have hb3':b3=b1+1:=by rw[hb3,hW1,World.size_alloc,hb1]
 clear hs him hrd hrt hrw hrp hpp k1 kW hG hW hW1;go_enter Tryz.func63,Tryz.ntmps63;go_wp2_with fail;rw[<-hb1,<-hb3',<-hWW];clear hb1 hb3 hb3' hWW hmf;have HBW:=Jh (show Below W1.heap.size W1 W from HSz.o.1▸HBW.o)
 have HPut:=Jh (fun(l:List UInt8) (z:Int) (wx:World) (h:Lib.IsBuilder 144 5 b3 b3 (Lib.byteCells l) wx) (hb:Below W1.heap.size W1 wx) (hz:I32 z) (hl:l.length<=100000)=>HPut.o l z wx h (by rw[HSz.o.1];exact hb) hz hl);have hlz:(s.done.zip s.told).length=n:=by rw[List.length_zip,HOk.o.d,HOk.o.t,Nat.min_self]
 have HZ:=Jh hlz;have HI:=Jh (show∀x∈s.done.zip s.told,I32 x.2 from fun x hx=>HOk.o.i x.2 (List.of_mem_zip hx).2);clear hlz;go_loopw [17] (fun vi wr=>∃k:Nat,k<=n/\vi=.int .i64 k/\Lib.IsBuilder 144 5 b3 b3 (Lib.byteCells (((s.done.zip s.told).take k).flatMap doneB)) wr/\Below W1.heap.size W1 wr) (fun vi _=>n-(intOf vi).toNat);case atStart=>exact⟨0,Nat.zero_le _,rfl,HBl.o,HBW.o⟩
 case round=>
  obtain⟨k,hk,rfl,hbl,hbw⟩:=hrel;obtain⟨w2,rfl⟩:=exE wr;have HBl2:=Jh hbl;have HB2:=Jh hbw;clear hbl hbw;have hlen:=flatMap_len doneB 22 ((s.done.zip s.told).take k) (fun x hx=>doneB_len (HI.o x (List.mem_of_mem_take hx)));have hlen:(((s.done.zip s.told).take k).flatMap doneB).length<=132:=by have:=List.length_take_le k (s.done.zip s.told);omega
  have HLen:=Jh hlen;clear hlen;by_cases hlt:k<n
  ·have hlb:decide ((k:Int)<(n:Int))=true:=by simp;omega
   have hkn:(k:Int)<(n:Int):=by omega
   have hk0:decide ((k:Int)<0)=false:=by simp
   obtain⟨gd,od,d,hAD,hd,hcd⟩:=(HD.o.below HB2.o).bool hlt;obtain⟨gt,ot,z,hAT,hz,hcz⟩:=(HT.o.below HB2.o).rd.int hlt;subst hAD;subst hAT;have hzip:(s.done.zip s.told)[k]?=some (d,z):=by rw[List.getElem?_zip_eq_some];exact⟨hd,hz⟩
   have HNx:=Jh (flatMap_snoc doneB hzip);have HIz:=Jh (HI.o (d,z) (List.mem_of_getElem? hzip));obtain⟨r0,r1,r2,r3,r4,_⟩:=cells5 (blk_below HB2.o H1.o);clear hd hz hzip;cases d
   ·have HWs:=Jh (writeString b3 b3 (Lib.byteCells (((s.done.zip s.told).take k).flatMap doneB)) ⟨#[45,32]⟩ w2 HBl2.o (by rw[Lib.byteCells_length];have:=HLen.o;have:(⟨#[45,32]⟩:ByteArray).size=2:=rfl;omega) (by rw[HSz.o.1];exact HB2.o.size));have hdat:Lib.strCells (⟨#[45,32]⟩:ByteArray)=Lib.byteCells [45,32]:=rfl;rw[hdat,<-Lib.byteCells_append] at HWs;clear hdat;go_wp2_with fail;refine HWs.o.mono ?_
    rintro e w3 ⟨rfl,hb3,hbb,_⟩;have HB3:=Jh (And.intro hb3 hbb);clear hb3 hbb;go_wp2_with fail;go_roundw;case rel=>exact⟨k+1,by omega,by go_num,by rw[HNx.o];exact .inr HB3.o.1,HB2.o.trans (HSz.o.1▸HB3.o.2)⟩
    case measure=>simp[intOf];omega
   have HPt:=Jh (HPut.o _ z w2 HBl2.o HB2.o HIz.o (by have:=HLen.o;omega));go_wp2_with fail;refine HPt.o.mono ?_;rintro e w3 ⟨rfl,hb3,hbb,_⟩;have HB3:=Jh (And.intro hb3 hbb);clear hb3 hbb;go_wp2_with fail;go_roundw;case rel=>exact⟨k+1,by omega,by go_num,by rw[HNx.o];exact HB3.o.1,HB2.o.trans (HSz.o.1▸HB3.o.2)⟩
   case measure=>simp[intOf];omega
  have hlb:decide ((k:Int)<(n:Int))=false:=by simp;omega
  obtain rfl:k=n:=by omega
  rw[List.take_of_length_le (by rw[HZ.o];exact Nat.le_refl _)] at HBl2 HLen;obtain⟨P1,hP1⟩:=exE ((s.done.zip s.told).flatMap doneB);have HK1:=Jh hP1;rw[<-hP1] at HBl2 HLen;clear hP1;obtain⟨r0,r1,r2,r3,r4,_⟩:=cells5 (blk_below HB2.o H1.o);go_wp2_with fail;clear r0 r1 r2 r3 r4
  go_loopw [36] (fun vi wr=>∃j:Nat,j<=4/\vi=.int .i64 j/\Lib.IsBuilder 144 5 b3 b3 (Lib.byteCells (P1++(s.m.words.take j).flatMap numB)) wr/\Below W1.heap.size W1 wr) (fun vi _=>4-(intOf vi).toNat);case atStart=>exact⟨0,Nat.zero_le _,rfl,by simpa using HBl2.o,HB2.o⟩
  case round=>
   obtain⟨j,hj,rfl,hbl,hbw⟩:=hrel;obtain⟨w3,rfl⟩:=exE wr;have HBl3:=Jh hbl;have HB3:=Jh hbw;clear hbl hbw;have hlen2:=flatMap_len numB 22 (s.m.words.take j) (fun x hx=>numB_len (HOk.o.m.nw x (List.mem_of_mem_take hx)));have hlen2:(P1++(s.m.words.take j).flatMap numB).length<=220:=by rw[List.length_append];have:=List.length_take_le j s.m.words;have:=HLen.o;omega
   have HLen2:=Jh hlen2;clear hlen2;by_cases hltj:j<4
   ·have hlbj:decide ((j:Int)<4)=true:=by simp;omega
    have hjn:(j:Int)<4:=by omega
    have hj0:decide ((j:Int)<0)=false:=by simp
    obtain⟨gw,ow,z,hA1,hz,hcz⟩:=(HW.o.below HB3.o).rd.int hltj;subst hA1;have HNx:=Jh (flatMap_snoc numB hz);have HPt:=Jh (HPut.o _ z w3 HBl3.o HB3.o (HOk.o.m.nw z (List.mem_of_getElem? hz)) (by have:=HLen2.o;omega));clear hz;go_wp2_with fail;refine HPt.o.mono ?_;rintro e w4 ⟨rfl,hb3,hbb,_⟩;have HB4:=Jh (And.intro hb3 hbb);clear hb3 hbb;go_wp2_with fail;go_roundw
    case rel=>exact⟨j+1,by omega,by go_num,by rw[HNx.o,<-List.append_assoc];exact HB4.o.1,HB3.o.trans (HSz.o.1▸HB4.o.2)⟩
    case measure=>simp[intOf];omega
   have hlbj:decide ((j:Int)<4)=false:=by simp;omega
   have hj4:j=4:=by omega
   rw[List.take_of_length_le (by rw[HOk.o.m.lw];omega)] at HBl3 HLen2;clear hj4;obtain⟨P2,hP2⟩:=exE (P1++s.m.words.flatMap numB);have HK2:=Jh hP2;rw[<-hP2] at HBl3 HLen2;clear hP2;obtain⟨r0,r1,r2,r3,r4,_⟩:=cells5 (blk_below HB3.o H1.o);go_wp2_with fail;clear r0 r1 r2 r3 r4
   go_loopw [48] (fun vi wr=>∃j:Nat,j<=4/\vi=.int .i64 j/\Lib.IsBuilder 144 5 b3 b3 (Lib.byteCells (P2++(s.m.pend.take j).flatMap pendB)) wr/\Below W1.heap.size W1 wr) (fun vi _=>4-(intOf vi).toNat);case atStart=>exact⟨0,Nat.zero_le _,rfl,by simpa using HBl3.o,HB3.o⟩
   case round=>
    obtain⟨j,hj,rfl,hbl,hbw⟩:=hrel;obtain⟨w5,rfl⟩:=exE wr;have HBl5:=Jh hbl;have HB5:=Jh hbw;clear hbl hbw;have hlen3:=flatMap_len pendB 353 (s.m.pend.take j) (fun x hx=>pendB_len HOk.o.m (List.mem_of_mem_take hx));have hlen3:(P2++(s.m.pend.take j).flatMap pendB).length<=1632:=by rw[List.length_append];have:=List.length_take_le j s.m.pend;have:=HLen2.o;omega
    have HLen3:=Jh hlen3;clear hlen3;by_cases hltj:j<4
    ·have hlbj:decide ((j:Int)<4)=true:=by simp;omega
     have hjn:(j:Int)<4:=by omega
     have hj0:decide ((j:Int)<0)=false:=by simp
     obtain⟨p,hp⟩:∃p,s.m.pend[j]?=some p:=⟨_,List.getElem?_eq_getElem (by rw[HOk.o.m.lp];exact hltj)⟩;obtain⟨Ap,cp,hpv,hrowp⟩:=HPP.o j p hp;obtain⟨gp,op,u,hA2,hu,hcu⟩:=(HP.o.below HB5.o).rd.at1 hltj;rw[hpv] at hu;obtain rfl:=Option.some.inj hu;subst hA2;have HRp:=Jh hrowp;have HNx:=Jh (flatMap_snoc pendB hp);have HPo:=Jh hp;obtain⟨m,hm⟩:=exE (p.length);rw[<-hm] at hcu HRp;have HM:=Jh hm
     have hm8:m<=8:=hm▸HOk.o.m.few p (List.mem_of_getElem? hp);have HWb:=Jh (writeByte b3 b3 (Lib.byteCells (P2++(s.m.pend.take j).flatMap pendB)) 124 w5 HBl5.o (by rw[Lib.byteCells_length];have:=HLen3.o;omega) (by rw[HSz.o.1];exact HB5.o.size))
     have hdat:Lib.byteCells (P2++(s.m.pend.take j).flatMap pendB)++[Value.int .u8 124]=Lib.byteCells (P2++(s.m.pend.take j).flatMap pendB++[124]):=(Lib.byteCells_append _ [124]).symm;rw[hdat] at HWb;clear hdat hp hpv hrowp hu hm;go_wp2_with fail;refine HWb.o.mono ?_;rintro e w6 ⟨rfl,hb3,hbb,_⟩;have HB6:=Jh (HB5.o.trans (HSz.o.1▸hbb));have HBl6:=Jh (show Lib.IsBuilder 144 5 b3 b3 _ w6 from .inr hb3)
     clear hb3 hbb hcu;obtain⟨P3,hP3⟩:=exE (P2++(s.m.pend.take j).flatMap pendB);have HK3:=Jh hP3;rw[<-hP3] at HBl6 HLen3;clear hP3;go_wp2_with fail;go_loopw [55] (fun vi wr=>∃i:Nat,i<=m/\vi=.int .i64 i/\Lib.IsBuilder 144 5 b3 b3 (Lib.byteCells (P3++[124]++(p.take i).flatMap entB)) wr/\Below W1.heap.size W1 wr) (fun vi _=>m-(intOf vi).toNat)
     case atStart=>exact⟨0,Nat.zero_le _,rfl,by simpa using HBl6.o,HB6.o⟩
     case round=>
      obtain⟨i,hi,rfl,hbl,hbw⟩:=hrel;obtain⟨w7,rfl⟩:=exE wr;have HBl7:=Jh hbl;have HB7:=Jh hbw;clear hbl hbw;have hlen4:=flatMap_len entB 44 (p.take i) (fun x hx=>entB_len (ent_i32 HOk.o.m (List.mem_of_getElem? HPo.o) (List.mem_of_mem_take hx)))
      have hlen4:(P3++[124]++(p.take i).flatMap entB).length<=2000:=by rw[List.length_append,List.length_append,List.length_singleton];have:=List.length_take_le i p;have:=HLen3.o;omega
      have HLen4:=Jh hlen4;clear hlen4;by_cases hlti:i<m
      ·have hlbi:decide ((i:Int)<(m:Int))=true:=by simp;omega
       have him:(i:Int)<(m:Int):=by omega
       have hi0:decide ((i:Int)<0)=false:=by simp
       obtain⟨ge,oe,x,hAp,hx,hc0,hc1⟩:=(HRp.o.below HB7.o).rd.ent HM.o hlti;subst hAp;have hix:=ent_i32 HOk.o.m (List.mem_of_getElem? HPo.o) (List.mem_of_getElem? hx);have HNi:=Jh (flatMap_snoc entB hx);obtain⟨x1,hx1⟩:=exE (x.1);obtain⟨x2,hx2⟩:=exE (x.2);rw[<-hx1] at hc0 hix;rw[<-hx2] at hc1 hix;have HE:=Jh (show entB x=numB x1++numB x2 by rw[hx1,hx2];rfl);have HIx:=Jh hix;clear hx hx1 hx2 hix
       obtain⟨W8,hW8⟩:=exE (w7.alloc (.cells #[.int .i64 x1,.int .i64 x2] 128));obtain⟨b12,hb12⟩:=exE (w7.heap.size);have k8:Below w7.heap.size w7 W8:=hW8▸bA (bR w7);have H128:=Jh (show W8.heap[b12]?=some (.cells #[.int .i64 x1,.int .i64 x2] 128) by rw[hW8,hb12];exact heap_alloc_new w7 _);have HB8:=Jh (HB7.o.trans (k8.mono HB7.o.size));have HBl8:=Jh (isb_below HBl7.o k8)
       have hb12x:W1.heap.size<=b12:=by rw[hb12];exact HB7.o.size
       have HP1:=Jh (HPut.o _ x1 W8 HBl8.o HB8.o HIx.o.1 (by have:=HLen4.o;omega));go_upto_region 22 with fail
       rw[<-hW8,<-hb12];clear hW8 hb12 hc0 hc1 k8;obtain⟨q0,q1,_⟩:=cells2 H128.o;go_wp2_with fail;refine HP1.o.mono ?_;rintro e w9 ⟨rfl,hbl9,hbb,htk9⟩;have HB9:=Jh (HB8.o.trans (HSz.o.1▸hbb));have H129:=Jh (htk9.at_ (by decide) H128.o);have hl2:(P3++[124]++(p.take i).flatMap entB++(Lib.itoa x1++[32])).length<=2100:=by rw[List.length_append];have:=HLen4.o;have h3:=numB_len HIx.o.1;unfold numB at h3;omega
       have HP2:=Jh (HPut.o _ x2 w9 hbl9 HB9.o HIx.o.2 (by omega));clear hbl9 hbb htk9 q0 q1 hl2;obtain⟨q0,q1,_⟩:=cells2 H129.o;go_wp2_with fail;refine HP2.o.mono ?_;rintro e w10 ⟨rfl,hbl10,hbb,_⟩;have HB10:=Jh (HB9.o.trans (HSz.o.1▸hbb));have HBl10:=Jh hbl10;clear hbl10 hbb;go_wp2_with fail;go_roundw
       case rel=>exact⟨i+1,by omega,by go_num,by rw[HNi.o,HE.o];unfold numB;simpa[List.append_assoc] using HBl10.o,HB10.o⟩
       case measure=>simp[intOf];omega
      have hlbi:decide ((i:Int)<(m:Int))=false:=by simp;omega
      obtain rfl:i=m:=by omega
      have HFn:=Jh (show P2++(s.m.pend.take (j+1)).flatMap pendB=P3++[124]++(p.take i).flatMap entB by rw[HNx.o,HK3.o,show p.take i=p from List.take_of_length_le (by rw[HM.o];exact Nat.le_refl _)];simp[pendB]);go_wp2_with fail;go_roundw;case rel=>exact⟨j+1,by omega,by go_num,by rw[HFn.o];exact HBl7.o,HB7.o⟩
      case measure=>simp[intOf];omega
    have hlbj:decide ((j:Int)<4)=false:=by simp;omega
    have hj4:j=4:=by omega
    rw[List.take_of_length_le (by rw[HOk.o.m.lp];omega)] at HBl5;clear hj4;have HKy:=Jh (show P2++s.m.pend.flatMap pendB=keyB s by rw[HK2.o,HK1.o];rfl);rw[HKy.o] at HBl5;have HSt:=Jh (Tryz.Builder_String_any b3 b3 (keyB s) w5 HBl5.o (by rw[HSz.o.1];exact HB5.o.size));go_wp2_with fail;refine HSt.o.mono ?_;rintro e w6 ⟨rfl,hb6⟩;have HB6:=Jh (HB1.o.trans ((HB5.o.trans (HSz.o.1▸hb6)).mono HB1.o.size))
    clear hb6;go_wp2_with fail;go_ret;exact⟨rfl,HB6.o⟩
end Go.Proofs.YtnigadeohmlpiaaGreatDoor
