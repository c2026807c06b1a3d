/- Contracts and words: events that may be are told so; a search among events tells whether there is one of a kind; a program is told so; what a program's loads tell, by a script. No condition of ours. -/
import Derived.Test.YtnigadeohmlpiaaGreatDoorC10
set_option maxHeartbeats 32000000
set_option maxRecDepth 100000
namespace Go.Proofs.YtnigadeohmlpiaaGreatDoor
open Go.RowKit
attribute [local go_sem] Oper.semAt_some
def evV(e:Ev):Value:=.agg #[.int .i64 e.h,.int .i64 e.k,.int .i64 e.a,.int .i64 e.n]
theorem mayBe_yes(e:Ev)(w:World)(he:e.Ok):Calls Tryz.prog 61 #[evV e] w fun o w'=>o=.returned (.bool true)/\Below w.heap.size w w':=by
 obtain⟨h,k,a,n⟩:=e;obtain⟨hh,hk,ha,hn,hf⟩:=he;dsimp only at hh hk ha hn hf;unfold I32 at hn;have h1:decide (0<=h)=true:=by simpa using hh.1
 have h2:decide (h<4)=true:=by simpa using hh.2
 have h3:decide (1<=k)=true:=by simpa using hk.1
 have h4:decide (k<=3)=true:=by simpa using hk.2
 have h5:decide (0<=a)=true:=by simpa using ha.1
 have h6:decide (a<4)=true:=by simpa using ha.2
 have h7:IntKind.i32.wrap n=n:=by unfold IntKind.wrap;simp[IntKind.signed,IntKind.bits];omega
 have hw:IntKind.i64.wrap n=n:=IntWalk.i64_in _ (by omega);have hnn:(n==n)=true:=by simp
 have hb:=heap_alloc_new w (.cells #[.int .i64 h,.int .i64 k,.int .i64 a,.int .i64 n] 44);obtain⟨q0,q1,q2,q3,_⟩:=cells4 hb;clear hb;unfold evV;by_cases hk3:k=3
 ·obtain⟨ha0,hn0⟩:=hf hk3;subst hk3 ha0 hn0;clear hf hh hk ha hn;go_enter Tryz.func61,Tryz.ntmps61;go_wp2_with fail;go_ret;exact⟨rfl,bA (bR w)⟩
 have hkb:(k==3)=false:=by simpa using hk3
 clear hf hh hk ha hn hk3;go_enter Tryz.func61,Tryz.ntmps61;go_wp2_with fail;go_ret;exact⟨rfl,bA (bR w)⟩
end Go.Proofs.YtnigadeohmlpiaaGreatDoor
namespace Go.Proofs.YtnigadeohmlpiaaGreatDoor
open Go.RowKit
attribute [local go_sem] Oper.semAt_some
def Asks(g:Nat)(lb:Array Value)(l:List Ev)(p:Ev->Bool)(w:World):Prop:=
 ∀e∈l,∀wx,Below w.heap.size w wx->Calls Tryz.prog g (#[evV e]++lb) wx fun o w'=>o=.returned (.bool (p e))/\Below wx.heap.size wx w'
def FoundIs(l:List Ev)(p:Ev->Bool)(e:Ending):Prop:=∃r:Int,e=.returned (.int .i64 r)/\decide (0<=r)=l.any p
theorem index36_any(A:Option Addr)(n c:Nat)(l:List Ev)(p:Ev->Bool)(w:World)(he:IsEvs w A n c l)(hm:n<=1000000)(hp:Asks 36 #[] l p w):
  Calls Tryz.prog 62 #[.slice A n c,.func (.func 36) #[] #[]] w fun e w'=>FoundIs l p e/\Below w.heap.size w w':=by
 have HE:=Jh he;have HP:=Jh hp;clear he hp;go_enter Tryz.func62,Tryz.ntmps62;go_wp2_with fail;go_loopw [8] (fun v wr=>∃k:Nat,k<=n/\v=.int .i64 k/\(l.take k).any p=false/\Below w.heap.size w wr) (fun v _=>n-(intOf v).toNat);case atStart=>exact⟨0,by omega,rfl,rfl,bR w⟩
 case round=>
  obtain⟨k,hk,rfl,hall,hbw⟩:=hrel;have HA:=Jh hall;have HBW:=Jh hbw;clear hall hbw;by_cases hlt:k<n
  ·obtain⟨ge,oe,ev,hA,hx,hc0,hc1,hc2,hc3⟩:=(HE.o.sees (Below.sees HBW.o)).at_ hlt;have HX:=Jh hx;have HS:=Jh (HP.o ev (List.mem_of_getElem? hx) wr HBW.o);have hlb:decide ((k:Int)<(n:Int))=true:=by simp;omega
   obtain⟨q,hq⟩:=exE (p ev);rw[<-hq] at HS;have HQ:=Jh hq;clear hx hq;subst hA;go_wp2_with fail;refine HS.o.mono ?_;rintro e w2 ⟨rfl,hb2⟩;have HB2:=Jh (bT HBW.o hb2);clear hb2 hc0 hc1 hc2 hc3;cases q
   ·have HFin:=Jh (show(l.take (k+1)).any p=false from by rw[List.take_add_one,HX.o,List.any_append,HA.o];simp[<-HQ.o]);go_wp2_with fail;go_roundw;case rel=>exact⟨k+1,by omega,by go_num,HFin.o,HB2.o⟩
    case measure=>simp[intOf];omega
   have HFin:=Jh (show decide ((0:Int)<=(k:Int))=l.any p from by rw[decide_eq_true (by omega)];exact(List.any_eq_true.2 ⟨ev,List.mem_of_getElem? HX.o,HQ.o.symm⟩).symm);go_wp2_with fail;go_ret;exact⟨⟨_,rfl,HFin.o⟩,HB2.o⟩
  have hlb:decide ((k:Int)<(n:Int))=false:=by simp;omega
  have HFin:=Jh (show decide ((0:Int)<=-1)=l.any p from by have h1:=HA.o;rw[List.take_of_length_le (by have:=HE.o.len;omega)] at h1;rw[h1];rfl);go_wp2_with fail;go_ret;exact⟨⟨_,rfl,HFin.o⟩,HBW.o⟩
theorem contains36_any(A:Option Addr)(n c:Nat)(l:List Ev)(p:Ev->Bool)(w:World)(he:IsEvs w A n c l)(hm:n<=1000000)(hp:Asks 36 #[] l p w):
  Calls Tryz.prog 38 #[.slice A n c,.func (.func 36) #[] #[]] w fun e w'=>e=.returned (.bool (l.any p))/\Below w.heap.size w w':=by
 have HI:=Jh (index36_any A n c l p w he hm hp);clear he hp;go_enter Tryz.func38,Tryz.ntmps38;go_wp2_with fail;refine HI.o.mono ?_;rintro e w2 ⟨⟨r,rfl,hr⟩,hb2⟩;have HR:=Jh hr;have HB:=Jh hb2;clear hr hb2;go_wp2_with fail;go_ret;exact⟨ret_bool HR.o,HB.o⟩
theorem index60_any(A:Option Addr)(n c:Nat)(l:List Ev)(p:Ev->Bool)(w:World)(he:IsEvs w A n c l)(hm:n<=1000000)(hp:Asks 60 #[] l p w):
  Calls Tryz.prog 62 #[.slice A n c,.func (.func 60) #[] #[]] w fun e w'=>FoundIs l p e/\Below w.heap.size w w':=by
 have HE:=Jh he;have HP:=Jh hp;clear he hp;go_enter Tryz.func62,Tryz.ntmps62;go_wp2_with fail;go_loopw [8] (fun v wr=>∃k:Nat,k<=n/\v=.int .i64 k/\(l.take k).any p=false/\Below w.heap.size w wr) (fun v _=>n-(intOf v).toNat);case atStart=>exact⟨0,by omega,rfl,rfl,bR w⟩
 case round=>
  obtain⟨k,hk,rfl,hall,hbw⟩:=hrel;have HA:=Jh hall;have HBW:=Jh hbw;clear hall hbw;by_cases hlt:k<n
  ·obtain⟨ge,oe,ev,hA,hx,hc0,hc1,hc2,hc3⟩:=(HE.o.sees (Below.sees HBW.o)).at_ hlt;have HX:=Jh hx;have HS:=Jh (HP.o ev (List.mem_of_getElem? hx) wr HBW.o);have hlb:decide ((k:Int)<(n:Int))=true:=by simp;omega
   obtain⟨q,hq⟩:=exE (p ev);rw[<-hq] at HS;have HQ:=Jh hq;clear hx hq;subst hA;go_wp2_with fail;refine HS.o.mono ?_;rintro e w2 ⟨rfl,hb2⟩;have HB2:=Jh (bT HBW.o hb2);clear hb2 hc0 hc1 hc2 hc3;cases q
   ·have HFin:=Jh (show(l.take (k+1)).any p=false from by rw[List.take_add_one,HX.o,List.any_append,HA.o];simp[<-HQ.o]);go_wp2_with fail;go_roundw;case rel=>exact⟨k+1,by omega,by go_num,HFin.o,HB2.o⟩
    case measure=>simp[intOf];omega
   have HFin:=Jh (show decide ((0:Int)<=(k:Int))=l.any p from by rw[decide_eq_true (by omega)];exact(List.any_eq_true.2 ⟨ev,List.mem_of_getElem? HX.o,HQ.o.symm⟩).symm);go_wp2_with fail;go_ret;exact⟨⟨_,rfl,HFin.o⟩,HB2.o⟩
  have hlb:decide ((k:Int)<(n:Int))=false:=by simp;omega
  have HFin:=Jh (show decide ((0:Int)<=-1)=l.any p from by have h1:=HA.o;rw[List.take_of_length_le (by have:=HE.o.len;omega)] at h1;rw[h1];rfl);go_wp2_with fail;go_ret;exact⟨⟨_,rfl,HFin.o⟩,HBW.o⟩
theorem contains60_any(A:Option Addr)(n c:Nat)(l:List Ev)(p:Ev->Bool)(w:World)(he:IsEvs w A n c l)(hm:n<=1000000)(hp:Asks 60 #[] l p w):
  Calls Tryz.prog 38 #[.slice A n c,.func (.func 60) #[] #[]] w fun e w'=>e=.returned (.bool (l.any p))/\Below w.heap.size w w':=by
 have HI:=Jh (index60_any A n c l p w he hm hp);clear he hp;go_enter Tryz.func38,Tryz.ntmps38;go_wp2_with fail;refine HI.o.mono ?_;rintro e w2 ⟨⟨r,rfl,hr⟩,hb2⟩;have HR:=Jh hr;have HB:=Jh hb2;clear hr hb2;go_wp2_with fail;go_ret;exact⟨ret_bool HR.o,HB.o⟩
theorem index140_any(b1 b2:Nat)(A:Option Addr)(n c:Nat)(l:List Ev)(p:Ev->Bool)(w:World)(he:IsEvs w A n c l)(hm:n<=1000000)(hp:Asks 140 #[.pointer (some ⟨b1,0,none⟩),.pointer (some ⟨b2,0,none⟩)] l p w):
  Calls Tryz.prog 62 #[.slice A n c,.func (.func 140) #[] #[.pointer (some ⟨b1,0,none⟩),.pointer (some ⟨b2,0,none⟩)]] w fun e w'=>FoundIs l p e/\Below w.heap.size w w':=by
 have HE:=Jh he;have HP:=Jh hp;clear he hp;go_enter Tryz.func62,Tryz.ntmps62;go_wp2_with fail;go_loopw [8] (fun v wr=>∃k:Nat,k<=n/\v=.int .i64 k/\(l.take k).any p=false/\Below w.heap.size w wr) (fun v _=>n-(intOf v).toNat);case atStart=>exact⟨0,by omega,rfl,rfl,bR w⟩
 case round=>
  obtain⟨k,hk,rfl,hall,hbw⟩:=hrel;have HA:=Jh hall;have HBW:=Jh hbw;clear hall hbw;by_cases hlt:k<n
  ·obtain⟨ge,oe,ev,hA,hx,hc0,hc1,hc2,hc3⟩:=(HE.o.sees (Below.sees HBW.o)).at_ hlt;have HX:=Jh hx;have HS:=Jh (HP.o ev (List.mem_of_getElem? hx) wr HBW.o);have hlb:decide ((k:Int)<(n:Int))=true:=by simp;omega
   obtain⟨q,hq⟩:=exE (p ev);rw[<-hq] at HS;have HQ:=Jh hq;clear hx hq;subst hA;go_wp2_with fail;refine HS.o.mono ?_;rintro e w2 ⟨rfl,hb2⟩;have HB2:=Jh (bT HBW.o hb2);clear hb2 hc0 hc1 hc2 hc3;cases q
   ·have HFin:=Jh (show(l.take (k+1)).any p=false from by rw[List.take_add_one,HX.o,List.any_append,HA.o];simp[<-HQ.o]);go_wp2_with fail;go_roundw;case rel=>exact⟨k+1,by omega,by go_num,HFin.o,HB2.o⟩
    case measure=>simp[intOf];omega
   have HFin:=Jh (show decide ((0:Int)<=(k:Int))=l.any p from by rw[decide_eq_true (by omega)];exact(List.any_eq_true.2 ⟨ev,List.mem_of_getElem? HX.o,HQ.o.symm⟩).symm);go_wp2_with fail;go_ret;exact⟨⟨_,rfl,HFin.o⟩,HB2.o⟩
  have hlb:decide ((k:Int)<(n:Int))=false:=by simp;omega
  have HFin:=Jh (show decide ((0:Int)<=-1)=l.any p from by have h1:=HA.o;rw[List.take_of_length_le (by have:=HE.o.len;omega)] at h1;rw[h1];rfl);go_wp2_with fail;go_ret;exact⟨⟨_,rfl,HFin.o⟩,HBW.o⟩
theorem contains140_any(b1 b2:Nat)(A:Option Addr)(n c:Nat)(l:List Ev)(p:Ev->Bool)(w:World)(he:IsEvs w A n c l)(hm:n<=1000000)(hp:Asks 140 #[.pointer (some ⟨b1,0,none⟩),.pointer (some ⟨b2,0,none⟩)] l p w):
  Calls Tryz.prog 38 #[.slice A n c,.func (.func 140) #[] #[.pointer (some ⟨b1,0,none⟩),.pointer (some ⟨b2,0,none⟩)]] w fun e w'=>e=.returned (.bool (l.any p))/\Below w.heap.size w w':=by
 have HI:=Jh (index140_any b1 b2 A n c l p w he hm hp);clear he hp;go_enter Tryz.func38,Tryz.ntmps38;go_wp2_with fail;refine HI.o.mono ?_;rintro e w2 ⟨⟨r,rfl,hr⟩,hb2⟩;have HR:=Jh hr;have HB:=Jh hb2;clear hr hb2;go_wp2_with fail;go_ret;exact⟨ret_bool HR.o,HB.o⟩
end Go.Proofs.YtnigadeohmlpiaaGreatDoor
namespace Go.Proofs.YtnigadeohmlpiaaGreatDoor
open Go.RowKit
attribute [local go_sem] Oper.semAt_some
theorem notMay_yes(e:Ev)(w:World)(he:e.Ok):Calls Tryz.prog 60 #[evV e] w fun o w'=>o=.returned (.bool false)/\Below w.heap.size w w':=by
 have HM:=Jh (mayBe_yes e (w.alloc (.cells #[.int .i64 e.h,.int .i64 e.k,.int .i64 e.a,.int .i64 e.n] 44)) he);obtain⟨q0,q1,q2,q3,_⟩:=cells4 (heap_alloc_new w (.cells #[.int .i64 e.h,.int .i64 e.k,.int .i64 e.a,.int .i64 e.n] 44));clear he;unfold evV at*;go_enter Tryz.func60,Tryz.ntmps60;go_wp2_with fail;refine HM.o.mono ?_;rintro o w2 ⟨rfl,hb⟩;have HB:=Jh hb;clear hb;go_wp2_with fail;go_ret
 exact⟨rfl,bT (bA (bR w)) HB.o⟩
theorem notOdd_yes(e:Ev)(w:World)(he:e.k=1->e.n=0):Calls Tryz.prog 36 #[evV e] w fun o w'=>o=.returned (.bool false)/\Below w.heap.size w w':=by
 obtain⟨h,k,a,n⟩:=e;dsimp only at he;obtain⟨q0,q1,q2,q3,_⟩:=cells4 (heap_alloc_new w (.cells #[.int .i64 h,.int .i64 k,.int .i64 a,.int .i64 n] 44));unfold evV;by_cases hk:k=1
 ·have hn:=he hk;subst hk hn;clear he;go_enter Tryz.func36,Tryz.ntmps36;go_wp2_with fail;go_ret;exact⟨rfl,bA (bR w)⟩
 have hkb:(k==1)=false:=by simpa using hk
 clear he hk;go_enter Tryz.func36,Tryz.ntmps36;go_wp2_with fail;go_ret;exact⟨rfl,bA (bR w)⟩
theorem any_false(l:List Ev):(l.any fun _=>false)=false:=by induction l<;>simp_all
theorem axRight_yes(A:Option Addr)(n c:Nat)(l:List Ev)(w:World)(he:IsEvs w A n c l)(hn:n<=8)(hok:∀e∈l,e.Ok):
  Calls Tryz.prog 37 #[.slice A n c] w fun o w'=>o=.returned (.bool true)/\Below w.heap.size w w':=by
 have HC:=contains60_any A n c l (fun _=>false) w he (by omega) (fun e hm wx _=>notMay_yes e wx (hok e hm));rw[any_false] at HC;have HC:=Jh HC;have hn8:decide ((n:Int)<=8)=true:=by simp;omega
 clear he hok;go_enter Tryz.func37,Tryz.ntmps37;go_wp2_with fail;refine HC.o.mono ?_;rintro o w2 ⟨rfl,hb⟩;have HB:=Jh hb;clear hb;go_wp2_with fail;go_ret;exact⟨rfl,HB.o⟩
theorem right_yes(A:Option Addr)(n c:Nat)(l:List Ev)(w:World)(he:IsEvs w A n c l)(hl:Prog l):
  Calls Tryz.prog 17 #[.slice A n c] w fun o w'=>o=.returned (.bool true)/\Below w.heap.size w w':=by
 have hn:n<=6:=he.len▸hl.few;have HA:=Jh (axRight_yes A n c l w he (by omega) hl.ok)
 have HC:=Jh (show∀wx,Below w.heap.size w wx->Calls Tryz.prog 38 #[.slice A n c,.func (.func 36) #[] #[]] wx fun o w'=>o=.returned (.bool false)/\Below wx.heap.size wx w' from fun wx hb=>by have HC:=contains36_any A n c l (fun _=>false) wx (he.sees (Below.sees hb)) (by omega) (fun e hm wx _=>notOdd_yes e wx (hl.odd e hm));rwa[any_false] at HC);have hn8:decide ((n:Int)<=6)=true:=by simp;omega
 clear he hl;go_enter Tryz.func17,Tryz.ntmps17;go_wp2_with fail;refine HA.o.mono ?_;rintro o w2 ⟨rfl,hb⟩;have HB:=Jh hb;clear hb;go_wp2_with fail;refine(HC.o _ HB.o).mono ?_;rintro o w3 ⟨rfl,hb⟩;have HB3:=Jh (bT HB.o hb);clear hb;go_wp2_with fail;go_ret;exact⟨rfl,HB3.o⟩
end Go.Proofs.YtnigadeohmlpiaaGreatDoor
namespace Go.Proofs.YtnigadeohmlpiaaGreatDoor
open Go.RowKit
attribute [local go_sem] Oper.semAt_some
def St.run(l:List Ev)(s:St):List Pk->Option St
 |[]=>some s
 |x::xs=>(s.next l x).bind fun s'=>s'.run l xs
def playP(l:List Ev)(xs:List Pk):Option (List Int):=((St.first l.length).run l xs).bind (St.outcome l)
theorem run_snoc(l:List Ev)(s:St)(xs:List Pk)(x:Pk):s.run l (xs++[x])=(s.run l xs).bind fun s'=>s'.next l x:=by
 induction xs generalizing s with
 |nil=>
  show(s.next l x).bind (fun s'=>some s')=s.next l x
  cases s.next l x<;>rfl
 |cons y xs ih=>
  show(s.next l y).bind (fun s'=>s'.run l (xs++[x]))=((s.next l y).bind fun s'=>s'.run l xs).bind _
  cases s.next l y with
  |none=>rfl
  |some s'=>exact ih s'
theorem run_none(l:List Ev)(s:St)(xs ys:List Pk)(h:s.run l xs=none):s.run l (xs++ys)=none:=by
 induction xs generalizing s with
 |nil=>cases h
 |cons y xs ih=>
  show(s.next l y).bind (fun s'=>s'.run l (xs++ys))=none
  cases hn:s.next l y with
  |none=>rfl
  |some s'=>
   refine ih s' ?_;have:(s.next l y).bind (fun s'=>s'.run l xs)=none:=h
   rwa[hn] at this
def pkCells(xs:List Pk):List Value:=xs.flatMap fun x=>[.int .i64 x.h,.bool x.d,.int .i64 x.w]
structure IsPks(w:World)(A:Option Addr)(m c:Nat)(xs:List Pk):Prop where
 len:xs.length=m
 row:Row w 56 3 A m (pkCells xs)
 rng:∀x∈xs,I64ok x.h/\I64ok x.w
theorem pk_at(xs:List Pk)(k:Nat)(x:Pk)(h:xs[k]?=some x):(pkCells xs)[k*3]?=some (.int .i64 x.h)/\(pkCells xs)[k*3+1]?=some (.bool x.d)/\(pkCells xs)[k*3+2]?=some (.int .i64 x.w):=by
 induction xs generalizing k with
 |nil=>cases h
 |cons y xs ih=>
  cases k with
  |zero=>
   have:y=x:=by simpa using h
   subst this;exact⟨rfl,rfl,rfl⟩
  |succ k=>
   have h':=ih k (by simpa using h);have e:(k+1)*3=k*3+3:=by omega
   rw[e];exact h'
theorem IsPks.at_{w:World}{A:Option Addr}{m c k:Nat}{xs:List Pk}(h:IsPks w A m c xs)(hk:k<m):
  ∃b off x,A=some ⟨b,off,none⟩/\xs[k]?=some x/\w.cell? ⟨b,off+k*3,none⟩=some (.int .i64 x.h)/\w.cell? ⟨b,off+k*3+1,none⟩=some (.bool x.d)/\w.cell? ⟨b,off+k*3+2,none⟩=some (.int .i64 x.w):=by
 obtain⟨b,off,e,_,hc⟩:=h.row.rd.2 (by omega);have hl:k<xs.length:=by have:=h.len;omega
 have hx:xs[k]?=some xs[k]:=List.getElem?_eq_getElem hl;obtain⟨h1,h2,h3⟩:=pk_at xs k _ hx;exact⟨b,off,_,e,hx,hc _ _ h1,hc _ _ h2,hc _ _ h3⟩
theorem IsPks.below{w w':World}{A:Option Addr}{m c:Nat}{xs:List Pk}(h:IsPks w A m c xs)(hb:Below w.heap.size w w'):IsPks w' A m c xs:=⟨h.len,h.row.below hb,h.rng⟩
theorem IsSt.form{w:World}{v:Value}{n:Nat}{s:St}(h:IsSt w v n s):∃A1 c1 A2 c2 A3 c3 AD cD AT cT,v=.agg #[.slice A1 4 c1,.slice A2 4 c2,.slice A3 4 c3,.slice AD n cD,.slice AT n cT]:=by obtain⟨v1,v2,v3,AD,cD,AT,cT,rfl,him,_⟩:=h.is;obtain⟨A1,c1,rfl,_⟩:=him.ws;obtain⟨A2,c2,pv,rfl,_,_⟩:=him.ps;obtain⟨A3,c3,rfl,_⟩:=him.rs;exact⟨_,_,_,_,_,_,_,_,_,_,rfl⟩
theorem OutIs.low{base base':Nat}{o:Option (List Int)}{e:Ending}{w:World}(h:OutIs base o e w)(hb:base'<=base):OutIs base' o e w:=by
 cases o with
 |none=>exact h
 |some z=>obtain⟨A,c,h1,h2,h3⟩:=h;exact⟨A,c,h1,own_low h2 hb,h3⟩
theorem play_any(A:Option Addr)(n c:Nat)(l:List Ev)(B:Option Addr)(m d:Nat)(xs:List Pk)(w:World)(he:IsEvs w A n c l)(hl:Prog l)(hx:IsPks w B m d xs)(hm:m<=1000000):
  Calls Tryz.prog 14 #[.slice A n c,.slice B m d] w fun e w'=>OutIs w.heap.size (playP l xs) e w'/\Below w.heap.size w w':=by
 have hn:n<=6:=he.len▸hl.few;have HR:=Jh (right_yes A n c l w he hl);have HE:=Jh he;have HP:=Jh hl;have HX:=Jh hx;clear he hl hx;go_enter Tryz.func14,Tryz.ntmps14;go_wp2_with fail;refine HR.o.mono ?_;rintro e w2 ⟨rfl,hb⟩;obtain⟨W3,hW3⟩:=exE (w2.alloc (.cells #[.slice A n c] 68));obtain⟨b6,hb6⟩:=exE (w2.heap.size);have k3:Below w2.heap.size w2 W3:=hW3▸bA (bR w2);have HB3:=Jh (bT hb k3)
 have H63:=Jh (show W3.heap[b6]?=some (.cells #[.slice A n c] 68) by rw[hW3,hb6];exact heap_alloc_new w2 _);have hL6:w.heap.size<=b6:=by rw[hb6];exact hb.size
 clear hb k3;obtain⟨r0,_⟩:=cell1 H63.o;go_upto_region 4 with fail
 rw[<-hW3,<-hb6];clear hW3 hb6;go_wp2_with fail;refine(first_any A n c W3 hn).mono ?_;rintro e w4 ⟨⟨v,rfl,hst⟩,hb4⟩;obtain⟨A1,c1,A2,c2,A3,c3,AD,cD,AT,cT,rfl⟩:=hst.form;obtain⟨W5,hW5⟩:=exE (w4.alloc (.cells #[.slice A1 4 c1,.slice A2 4 c2,.slice A3 4 c3,.slice AD n cD,.slice AT n cT] 70));obtain⟨b7,hb7⟩:=exE (w4.heap.size);have k5:Below w4.heap.size w4 W5:=hW5▸bA (bR w4)
 have HB5:=Jh (bT HB3.o (bT hb4 k5));have H65:=Jh (blk_below k5 (blk_below hb4 H63.o));have H75:=Jh (show W5.heap[b7]?=some (.cells #[.slice A1 4 c1,.slice A2 4 c2,.slice A3 4 c3,.slice AD n cD,.slice AT n cT] 70) by rw[hW5,hb7];exact heap_alloc_new w4 _);have HS5:=Jh (hst.sees (Below.sees k5));have hL7:b6<b7:=by rw[hb7];exact blk_lt (blk_below hb4 H63.o)
 clear hst hb4 k5 r0;go_upto_region 5 with fail
 rw[<-hW5,<-hb7];clear hW5 hb7;go_wp2_with fail
 go_loopw [21] (fun v wr=>∃(k:Nat) (s:St) (A1 A2 A3 AD AT:Option Addr) (c1 c2 c3 cD cT:Nat),k<=m/\v=.int .i64 k/\(St.first l.length).run l (xs.take k)=some s/\IsSt wr (.agg #[.slice A1 4 c1,.slice A2 4 c2,.slice A3 4 c3,.slice AD n cD,.slice AT n cT]) n s/\wr.heap[b7]?=some (.cells #[.slice A1 4 c1,.slice A2 4 c2,.slice A3 4 c3,.slice AD n cD,.slice AT n cT] 70)/\wr.heap[b6]?=some (.cells #[.slice A n c] 68)/\Below w.heap.size w wr) (fun v _=>m-(intOf v).toNat)
 case atStart=>exact⟨0,St.first l.length,_,_,_,_,_,_,_,_,_,_,by omega,rfl,rfl,by rw[HE.o.len];exact HS5.o,H75.o,H65.o,HB5.o⟩
 case round=>
  obtain⟨k,s,E1,E2,E3,ED,ET,d1,d2,d3,dD,dT,hk,rfl,hrun,hst,h7,h6,hbw⟩:=hrel;have HRun:=Jh hrun;have HSt:=Jh hst;have H7:=Jh h7;have H6:=Jh h6;have HBW:=Jh hbw;clear hrun hst h7 h6 hbw;by_cases hlt:k<m
  ·have hlb:decide ((k:Int)<(m:Int))=true:=by simp;omega
   obtain⟨bx,ox,x,hB,hxk,hc0,hc1,hc2⟩:=(HX.o.below HBW.o).at_ hlt;subst hB;have hrng:=HX.o.rng x (List.mem_of_getElem? hxk);obtain⟨r0,_⟩:=cell1 H6.o;obtain⟨t0,t1,t2,t3,t4,f0,f1,f2,f3,f4⟩:=cells5 H7.o;obtain⟨W1,hW1⟩:=exE (wr.alloc (.cells #[.int .i64 x.h,.bool x.d,.int .i64 x.w] 56));have k1:Below wr.heap.size wr W1:=hW1▸bA (bR wr)
   have HNx:=Jh (next_any A n c l _ s x W1 HP.o (HE.o.sees (Below.sees (bT HBW.o k1))) (HSt.o.sees (Below.sees k1)) hrng.1 hrng.2);have HXK:=Jh hxk;have HB1:=Jh (bT HBW.o k1);have H61:=Jh (blk_below k1 H6.o);have H71:=Jh (blk_below k1 H7.o);obtain⟨q0,q1,q2,_⟩:=cells3 (heap_alloc_new wr (.cells #[.int .i64 x.h,.bool x.d,.int .i64 x.w] 56));obtain⟨xh,xd,xw⟩:=x;unfold pickV at HNx;clear k1 hxk hrng
   dsimp only at*;go_upto_region 8 with fail
   rw[<-hW1];rw[<-hW1] at q0 q1 q2;clear hW1 hc0 hc1 hc2;obtain⟨r0,_⟩:=cell1 H61.o;obtain⟨t0,t1,t2,t3,t4,f0,f1,f2,f3,f4⟩:=cells5 H71.o;go_wp2_with fail;refine HNx.o.mono ?_;rintro e w5 ⟨hni,hb5⟩;have HB5:=Jh (bT HB1.o hb5);have H65:=Jh (blk_below hb5 H61.o);have H75:=Jh (blk_below hb5 H71.o);clear hb5 r0 t0 t1 t2 t3 t4 f0 f1 f2 f3 f4 q0 q1 q2;cases hnx:s.next l ⟨xh,xd,xw⟩ with
   |none=>
    rw[hnx] at hni;obtain⟨_,_,_,_,_,⟨a1,m1,d1,rfl⟩,⟨a2,m2,d2,rfl⟩,⟨a3,m3,d3,rfl⟩,⟨a4,m4,d4,rfl⟩,⟨a5,m5,d5,rfl⟩,rfl⟩:=hni;have HPl:=Jh (show playP l xs=none by
     have h:=run_snoc l (St.first l.length) (xs.take k) ⟨xh,xd,xw⟩
     rw[HRun.o] at h;have h:(St.first l.length).run l (xs.take k++[⟨xh,xd,xw⟩])=none:=h.trans hnx
     have h2:=run_none l (St.first l.length) (xs.take k++[⟨xh,xd,xw⟩]) (xs.drop (k+1)) h
     rw[show xs.take k++[⟨xh,xd,xw⟩]=xs.take (k+1) by rw[List.take_add_one,HXK.o];rfl,List.take_append_drop] at h2;unfold playP;rw[h2];rfl)
    clear hnx;go_wp2_with fail;go_ret2;rw[HPl.o];exact⟨rfl,bA HB5.o⟩
   |some s'=>
    rw[hnx] at hni;obtain⟨v',rfl,hst'⟩:=hni;obtain⟨G1,g1,G2,g2,G3,g3,GD,gD,GT,gT,rfl⟩:=hst'.form;have HRun':=Jh (show(St.first l.length).run l (xs.take (k+1))=some s' by
     have h:=run_snoc l (St.first l.length) (xs.take k) ⟨xh,xd,xw⟩
     rw[HRun.o] at h;rw[List.take_add_one,HXK.o];exact h.trans hnx)
    clear hnx;obtain⟨W6,hW6⟩:=exE (w5.alloc (.cells #[.slice G1 4 g1,.slice G2 4 g2,.slice G3 4 g3,.slice GD n gD,.slice GT n gT] 70));obtain⟨b10,hb10⟩:=exE (w5.heap.size);have k6:Below w5.heap.size w5 W6:=hW6▸bA (bR w5);have HB6:=Jh (bT HB5.o k6);have H66:=Jh (blk_below k6 H65.o);have H76:=Jh (blk_below k6 H75.o)
    have H106:=Jh (show W6.heap[b10]?=some (.cells #[.slice G1 4 g1,.slice G2 4 g2,.slice G3 4 g3,.slice GD n gD,.slice GT n gT] 70) by rw[hW6,hb10];exact heap_alloc_new w5 _);have HS6:=Jh (hst'.sees (Below.sees k6));clear hst' k6;go_upto_region 9 with fail
    rw[<-hW6,<-hb10];clear hW6 hb10;obtain⟨t0,t1,t2,t3,t4,f0,f1,f2,f3,f4⟩:=cells5 H76.o;obtain⟨y0,y1,y2,y3,y4,_⟩:=cells5 H106.o;go_wp2_with fail;go_roundw
    case rel=>
     have htk:=Tk.set5 (x':=.slice G1 4 g1) (y':=.slice G2 4 g2) (z':=.slice G3 4 g3) (u':=.slice GD n gD) (v':=.slice GT n gT) H76.o
     exact⟨k+1,s',G1,G2,G3,GD,GT,g1,g2,g3,gD,gT,by omega,by go_num,HRun'.out,HS6.o.tk htk (by decide) (by decide) (by decide) (by decide),set5 H76.o,(other5 (Nat.ne_of_lt hL7)).trans H66.o,bS (bS (bS (bS (bS HB6.o (by show w.heap.size<=b7;omega)) (by show w.heap.size<=b7;omega)) (by show w.heap.size<=b7;omega)) (by show w.heap.size<=b7;omega)) (by show w.heap.size<=b7;omega)⟩
    case measure=>simp[intOf];omega
  have hlb:decide ((k:Int)<(m:Int))=false:=by simp;omega
  have HO:=Jh (outcome_any A n c l _ s wr hn (HE.o.sees (Below.sees HBW.o)) HSt.o);have HPl:=Jh (show playP l xs=s.outcome l by have h:=HRun.o;rw[List.take_of_length_le (by have:=HX.o.len;omega)] at h;unfold playP;rw[h];rfl);obtain⟨r0,_⟩:=cell1 H6.o;obtain⟨t0,t1,t2,t3,t4,_⟩:=cells5 H7.o;go_wp2_with fail;refine HO.o.mono ?_;rintro e w9 ⟨ho,hb9⟩;have HB9:=Jh (bT HBW.o hb9)
  have HOO:=Jh (ho.low HBW.o.size);cases hoc:s.outcome l with
  |none=>have HPl:=HPl.o;rw[hoc] at HPl ho;have HPl:=Jh HPl;obtain rfl:=ho;go_wp2_with fail;go_ret2;rw[HPl.o];exact⟨rfl,HB9.o⟩
  |some z=>have HPl:=HPl.o;rw[hoc] at HPl ho;have HPl:=Jh HPl;obtain⟨AZ,cZ,rfl,ho1,ho2⟩:=ho;have HO1:=Jh (And.intro (own_low ho1 HBW.o.size) ho2);clear ho1 ho2;go_wp2_with fail;go_ret2;rw[HPl.o];exact⟨⟨AZ,cZ,rfl,HO1.o.1,HO1.o.2⟩,HB9.o⟩
end Go.Proofs.YtnigadeohmlpiaaGreatDoor
