/- Contracts and words: whether an event is an access; whether one must be ahead of another one; whether an access must be ahead of another one; what a load finds among its hart's stores that are not placed yet. No condition of ours. -/
import Derived.Test.YtnigadeohmlpiaaGreatDoorC11
import Derived.WalkArith
set_option maxHeartbeats 32000000
set_option maxRecDepth 100000
namespace Go.Proofs.YtnigadeohmlpiaaGreatDoor
open Go.RowKit
attribute [local go_sem] Oper.semAt_some
def Ev.acc(e:Ev):Bool:=e.k==1||e.k==2
theorem isAccess_any(e:Ev)(w:World):Calls Tryz.prog 101 #[evV e] w fun o w'=>o=.returned (.bool e.acc)/\Below w.heap.size w w':=by
 obtain⟨h,k,a,n⟩:=e;obtain⟨q0,q1,q2,q3,_⟩:=cells4 (heap_alloc_new w (.cells #[.int .i64 h,.int .i64 k,.int .i64 a,.int .i64 n] 44));unfold evV Ev.acc;dsimp only;by_cases hk:k=1
 ·subst hk;go_enter Tryz.func101,Tryz.ntmps101;go_wp2_with fail;go_ret;exact⟨rfl,bA (bR w)⟩
 have hkb:(k==1)=false:=by simpa using hk
 rw[hkb,Bool.false_or];clear hk;go_enter Tryz.func101,Tryz.ntmps101;go_wp2_with fail;go_ret;exact⟨rfl,bA (bR w)⟩
def Ev.fenceOf(h:Int)(e:Ev):Bool:=e.k==3&&e.h==h
theorem keeps1_any(b1 b2:Nat)(A:Option Addr)(n c i:Nat)(l:List Ev)(li e:Ev)(w:World)(he:IsEvs w A n c l)(hi:l[i]?=some li)(h1:w.heap[b1]?=some (.cells #[.slice A n c] 22))(h2:w.heap[b2]?=some (.cells #[.int .i64 i] 3)):
  Calls Tryz.prog 140 #[evV e,.pointer (some ⟨b1,0,none⟩),.pointer (some ⟨b2,0,none⟩)] w fun o w'=>o=.returned (.bool (e.fenceOf li.h))/\Below w.heap.size w w':=by
 have hin:i<n:=by have:=(List.getElem?_eq_some_iff.1 hi).1;have:=he.len;omega
 obtain⟨h,k,a,z⟩:=e;have hnew:=heap_alloc_new w (.cells #[.int .i64 h,.int .i64 k,.int .i64 a,.int .i64 z] 44);obtain⟨W,hW⟩:=exE (w.alloc (.cells #[.int .i64 h,.int .i64 k,.int .i64 a,.int .i64 z] 44));obtain⟨b3,hb3⟩:=exE (w.heap.size);rw[<-hW,<-hb3] at hnew;have kW:Below w.heap.size w W:=hW▸bA (bR w);have HB:=Jh kW;obtain⟨q0,q1,q2,q3,_⟩:=cells4 hnew;obtain⟨r1,_⟩:=cell1 (blk_below kW h1)
 obtain⟨r2,_⟩:=cell1 (blk_below kW h2);obtain⟨ge,oe,li',hA,hli,hc0,hc1,hc2,hc3⟩:=(he.sees (Below.sees kW)).at_ hin;obtain rfl:li'=li:=Option.some.inj (hli.symm.trans hi);subst hA;unfold evV Ev.fenceOf;dsimp only;obtain⟨lh,hlh⟩:=exE (li'.h);rw[<-hlh] at hc0⊢;have hi0:decide ((i:Int)<0)=false:=by simp
 have hin':(i:Int)<(n:Int):=by omega
 clear he hi h1 h2 hnew hli hlh kW hc1 hc2 hc3;by_cases hk:k=3
 ·subst hk;rw[show((3:Int)==3)=true from rfl,Bool.true_and];go_enter Tryz.func140,Tryz.ntmps140;go_wp2_with fail;rw[<-hW,<-hb3];clear hW hb3;go_quiet (fail)
  go_wp2_with fail;go_ret;exact⟨rfl,bN HB.o⟩
 have hkb:(k==3)=false:=by simpa using hk
 rw[hkb,Bool.false_and];clear hk;go_enter Tryz.func140,Tryz.ntmps140;go_wp2_with fail;rw[<-hW,<-hb3];clear hW hb3;go_quiet (fail)
 go_wp2_with fail;go_ret;exact⟨rfl,bN HB.o⟩
end Go.Proofs.YtnigadeohmlpiaaGreatDoor
namespace Go.Proofs.YtnigadeohmlpiaaGreatDoor
open Go.RowKit
attribute [local go_sem] Oper.semAt_some
def segOf(l:List Ev)(i k:Nat):List Ev:=(l.drop i).take (k-i)
def keepsE(l:List Ev)(i k:Nat)(x y:Ev):Bool:=(decide (i<k)&&(x.h==y.h))&&((x.k==1||(y.k==2&&x.a==y.a))||(segOf l i k).any (Ev.fenceOf x.h))
theorem evCells_len(l:List Ev):(evCells l).length=l.length*4:=by
 induction l with
 |nil=>rfl
 |cons x l ih=>have h:evCells (x::l)=[.int .i64 x.h,.int .i64 x.k,.int .i64 x.a,.int .i64 x.n]++evCells l:=rfl;rw[h,List.length_append,ih];simp;omega
theorem evCells_seg(l:List Ev)(i k:Nat)(hk:k<=l.length)(hi:i<=k)(j:Nat)(u:Value)(h:(evCells (segOf l i k))[j]?=some u):(evCells l)[i*4+j]?=some u:=by
 have e:l=l.take i++(segOf l i k++(l.drop i).drop (k-i)):=by unfold segOf;rw[List.take_append_drop,List.take_append_drop]
 have h2:evCells l=evCells (l.take i)++(evCells (segOf l i k)++evCells ((l.drop i).drop (k-i))):=by
  conv=>lhs;rw[e]
  unfold evCells;rw[List.flatMap_append,List.flatMap_append]
 have hlen:(evCells (l.take i)).length=i*4:=by rw[evCells_len,List.length_take];omega
 have hj:j<(evCells (segOf l i k)).length:=(List.getElem?_eq_some_iff.1 h).1;rw[h2,List.getElem?_append_right (by omega),hlen,show i*4+j-i*4=j by omega,List.getElem?_append_left hj];exact h
theorem segOf_len(l:List Ev)(i k:Nat)(hk:k<=l.length)(_hi:i<=k):(segOf l i k).length=k-i:=by unfold segOf;rw[List.length_take,List.length_drop];omega
theorem IsEvs.seg{w:World}{g o n c i k:Nat}{l:List Ev}(h:IsEvs w (some ⟨g,o,none⟩) n c l)(hi:i<k)(hk:k<=n):IsEvs w (some ⟨g,o+i*4,none⟩) (k-i) (c-i) (segOf l i k):=by
 have hl:=h.len;have key:∀e,Row w e 4 (some ⟨g,o,none⟩) n (evCells l)->Row w e 4 (some ⟨g,o+i*4,none⟩) (k-i) (evCells (segOf l i k)):=fun e hr=>by
  refine⟨by rw[evCells_len,segOf_len l i k (by omega) (by omega)],fun _=>?_⟩;obtain⟨b,off,cur,fz,hA,hb,hc⟩:=hr.2 (by omega);simp only[Option.some.injEq,Addr.mk.injEq,and_true] at hA;obtain⟨rfl,rfl⟩:=hA;refine⟨g,o+i*4,cur,fz,rfl,hb,fun j u hu=>?_⟩;rw[show o+i*4+j=o+(i*4+j) by omega];exact hc _ _ (evCells_seg l i k (by omega) (by omega) j u hu)
 exact⟨segOf_len l i k (by omega) (by omega),by have:=h.cap;omega,h.row.elim fun e r=>⟨e,r.1,key e r.2⟩⟩
theorem keeps_any(A:Option Addr)(n c i k:Nat)(l:List Ev)(x y:Ev)(w:World)(he:IsEvs w A n c l)(hn:n<=1000)(hx:l[i]?=some x)(hy:l[k]?=some y):
  Calls Tryz.prog 126 #[.slice A n c,.int .i64 i,.int .i64 k] w fun o w'=>o=.returned (.bool (keepsE l i k x y))/\Below w.heap.size w w':=by
 have hin:i<n:=by have:=(List.getElem?_eq_some_iff.1 hx).1;have:=he.len;omega
 have hkn:k<n:=by have:=(List.getElem?_eq_some_iff.1 hy).1;have:=he.len;omega
 obtain⟨W1,hW1⟩:=exE (w.alloc (.cells #[.slice A n c] 22));obtain⟨W,hW⟩:=exE (W1.alloc (.cells #[.int .i64 i] 3));obtain⟨b3,hb3⟩:=exE (w.heap.size);obtain⟨b4,hb4⟩:=exE (b3+1);have s1:W1.heap.size=b3+1:=by rw[hW1,World.size_alloc,hb3]
 have k1:Below W1.heap.size W1 W:=hW▸bA (bR W1);have HB:=Jh (show Below w.heap.size w W from bT (hW1▸bA (bR w)) k1);have h3:W.heap[b3]?=some (.cells #[.slice A n c] 22):=blk_below k1 (by rw[hW1,hb3];exact heap_alloc_new w _);have h4:W.heap[b4]?=some (.cells #[.int .i64 i] 3):=by rw[hW,hb4,<-s1];exact heap_alloc_new W1 _
 have H3:=Jh h3;have H4:=Jh h4;have hWW:W=(w.alloc (.cells #[.slice A n c] 22)).alloc (.cells #[.int .i64 i] 3):=by rw[hW,hW1]
 have HE:=Jh (he.sees (Below.sees HB.o));have HX:=Jh hx;have HY:=Jh hy;obtain⟨r3,_⟩:=cell1 h3;obtain⟨r4,_⟩:=cell1 h4;obtain⟨ge,oe,x',hA,hx',hc0,hc1,hc2,_⟩:=HE.o.at_ hin;obtain rfl:x'=x:=Option.some.inj (hx'.symm.trans hx);obtain⟨ge',oe',y',hA',hy',hd0,hd1,hd2,_⟩:=HE.o.at_ hkn;obtain rfl:y'=y:=Option.some.inj (hy'.symm.trans hy);rw[hA] at hA'
 simp only[Option.some.injEq,Addr.mk.injEq,and_true] at hA';obtain⟨rfl,rfl⟩:=hA';subst hA
 have HC:=Jh (fun(hik:i<k) (wx:World) (hb:Below W.heap.size W wx)=>contains140_any b3 b4 (some ⟨ge,oe+i*4,none⟩) (k-i) (c-i) (segOf l i k) (Ev.fenceOf x'.h) wx ((HE.o.sees (Below.sees hb)).seg hik (Nat.le_of_lt hkn)) (by omega) (fun e _ wy hby=>keeps1_any b3 b4 (some ⟨ge,oe,none⟩) n c i l x' e wy (HE.o.sees (Below.sees (bT hb hby))) HX.o (blk_below (bT hb hby) H3.o) (blk_below (bT hb hby) H4.o)))
 have HK:=Jh (show keepsE l i k x' y'=((decide (i<k)&&(x'.h==y'.h))&&((x'.k==1||(y'.k==2&&x'.a==y'.a))||(segOf l i k).any (Ev.fenceOf x'.h))) from rfl);obtain⟨sg,hsg⟩:=exE ((segOf l i k).any (Ev.fenceOf x'.h));rw[<-hsg] at HC HK;obtain⟨xh,hxh⟩:=exE (x'.h);obtain⟨xk,hxk⟩:=exE (x'.k);obtain⟨xa,hxa⟩:=exE (x'.a);obtain⟨yh,hyh⟩:=exE (y'.h);obtain⟨yk,hyk⟩:=exE (y'.k);obtain⟨ya,hya⟩:=exE (y'.a)
 rw[<-hxh] at hc0 HK;rw[<-hxk] at hc1 HK;rw[<-hxa] at hc2 HK;rw[<-hyh] at hd0 HK;rw[<-hyk] at hd1 HK;rw[<-hya] at hd2 HK;rw[HK.o];have hi0:decide ((i:Int)<0)=false:=by simp
 have hk0:decide ((k:Int)<0)=false:=by simp
 have hin':(i:Int)<(n:Int):=by omega
 have hkn':(k:Int)<(n:Int):=by omega
 have hcap:=he.cap;clear he hx hy hx' hy' h3 h4 hW hW1 s1 k1 hsg hxh hxk hxa hyh hyk hya;by_cases hik:i<k
 ·have hg:decide ((k:Int)<=(i:Int))=false:=by simp;omega
  rw[show decide (i<k)=true from decide_eq_true hik,Bool.true_and];have HC2:=Jh (HC.o hik);by_cases hh:xh=yh
  ·have hhb:(xh==yh)=true:=by simpa using hh
   have hhn:(xh !=yh)=false:=by simp[hh]
   rw[hhb,Bool.true_and];clear hh hhb;by_cases h1:xk=1
   ·have h1b:(xk==1)=true:=by simpa using h1
    rw[h1b,Bool.true_or,Bool.true_or];clear h1;go_enter Tryz.func126,Tryz.ntmps126;go_wp2_with fail;rw[<-hb3,<-hb4,<-hWW];clear hb3 hb4 hWW;go_quiet (fail)
    go_wp2_with fail;go_quiet (fail)
    go_wp2_with fail;go_ret;exact⟨rfl,bN (bN HB.o)⟩
   have h1b:(xk==1)=false:=by simpa using h1
   rw[h1b,Bool.false_or];clear h1;by_cases h2:yk=2
   ·have h2b:(yk==2)=true:=by simpa using h2
    rw[h2b,Bool.true_and];clear h2;by_cases h3:xa=ya
    ·have h3b:(xa==ya)=true:=by simpa using h3
     rw[h3b,Bool.true_or];clear h3;go_enter Tryz.func126,Tryz.ntmps126;go_wp2_with fail;rw[<-hb3,<-hb4,<-hWW];clear hb3 hb4 hWW;go_quiet (fail)
     go_wp2_with fail;go_quiet (fail)
     go_wp2_with fail;go_ret;exact⟨rfl,bN (bN HB.o)⟩
    have h3b:(xa==ya)=false:=by simpa using h3
    rw[h3b,Bool.false_or];clear h3;go_enter Tryz.func126,Tryz.ntmps126;go_wp2_with fail;rw[<-hb3,<-hb4,<-hWW];clear hb3 hb4 hWW;go_quiet (fail)
    go_wp2_with fail;obtain⟨WA,hWA⟩:=exE (W.drewN nq);have kA:Below W.heap.size W WA:=hWA▸bN (bR W);rw[<-hWA];go_quiet (fail)
    obtain⟨WB,hWB⟩:=exE (WA.drewN nq);have kB:Below W.heap.size W WB:=hWB▸bN kA;rw[<-hWB];have HKB:=Jh kB;obtain⟨r3,_⟩:=cell1 (blk_below kB H3.o);obtain⟨r4,_⟩:=cell1 (blk_below kB H4.o);have hik1:(i:Int)<=(k:Int):=by omega
    have hik2:(k:Int)<=(c:Int):=by omega
    have hmf:∀(fn:Fn) (first cap:Array Value) (w:World),(Instr.makeFunc fn first cap).run Tryz.prog w=.ok (.func fn first cap) w:=fun _ _ _ _=>rfl
    clear hWA hWB kA kB;go_wp2_with fail;refine(HC2.o WB HKB.o).mono ?_;rintro o w5 ⟨rfl,hb5⟩;have HB5:=Jh (bT HB.o (bT HKB.o hb5));clear hb5;go_wp2_with fail;go_ret;exact⟨rfl,HB5.o⟩
   have h2b:(yk==2)=false:=by simpa using h2
   rw[h2b,Bool.false_and,Bool.false_or];clear h2;go_enter Tryz.func126,Tryz.ntmps126;go_wp2_with fail;rw[<-hb3,<-hb4,<-hWW];clear hb3 hb4 hWW;go_quiet (fail)
   go_wp2_with fail;obtain⟨WA,hWA⟩:=exE (W.drewN nq);have kA:Below W.heap.size W WA:=hWA▸bN (bR W);rw[<-hWA];go_quiet (fail)
   obtain⟨WB,hWB⟩:=exE (WA.drewN nq);have kB:Below W.heap.size W WB:=hWB▸bN kA;rw[<-hWB];have HKB:=Jh kB;obtain⟨r3,_⟩:=cell1 (blk_below kB H3.o);obtain⟨r4,_⟩:=cell1 (blk_below kB H4.o);have hik1:(i:Int)<=(k:Int):=by omega
   have hik2:(k:Int)<=(c:Int):=by omega
   have hmf:∀(fn:Fn) (first cap:Array Value) (w:World),(Instr.makeFunc fn first cap).run Tryz.prog w=.ok (.func fn first cap) w:=fun _ _ _ _=>rfl
   clear hWA hWB kA kB;go_wp2_with fail;refine(HC2.o WB HKB.o).mono ?_;rintro o w5 ⟨rfl,hb5⟩;have HB5:=Jh (bT HB.o (bT HKB.o hb5));clear hb5;go_wp2_with fail;go_ret;exact⟨rfl,HB5.o⟩
  have hhb:(xh==yh)=false:=by simpa using hh
  have hhn:(xh !=yh)=true:=by simp[hh]
  rw[hhb,Bool.false_and];clear hh hhb;go_enter Tryz.func126,Tryz.ntmps126;go_wp2_with fail;rw[<-hb3,<-hb4,<-hWW];clear hb3 hb4 hWW;go_quiet (fail)
  go_wp2_with fail;go_ret;exact⟨rfl,bN HB.o⟩
 have hg:decide ((k:Int)<=(i:Int))=true:=by simp;omega
 rw[show decide (i<k)=false from decide_eq_false hik,Bool.false_and,Bool.false_and];go_enter Tryz.func126,Tryz.ntmps126;go_wp2_with fail;rw[<-hb3,<-hb4,<-hWW];clear hb3 hb4 hWW;go_quiet (fail)
 go_wp2_with fail;go_ret;exact⟨rfl,bN HB.o⟩
end Go.Proofs.YtnigadeohmlpiaaGreatDoor
namespace Go.Proofs.YtnigadeohmlpiaaGreatDoor
open Go.RowKit
attribute [local go_sem] Oper.semAt_some
structure AS where
 p:Nat
 w0:Int
 w1:Int
 w2:Int
 w3:Int
def asC(s:AS):Array Value:=#[.int .u64 s.p,.int .i64 s.w0,.int .i64 s.w1,.int .i64 s.w2,.int .i64 s.w3]
def Ev.waits(x:Ev)(p k:Nat)(e:Ev):Bool:=(((e.h==x.h)&&(e.k==2))&&(e.a==x.a))&&!p.testBit k
def pendingP(l:List Ev)(p:Nat)(x:Ev):Nat->Option Int
 |0=>none
 |i+1=>match l[i]?with
  |some e=>if x.waits p i e then some e.n else pendingP l p x i
  |none=>pendingP l p x i
def pendV(o:Option Int):Value:=match o with
 |some z=>.tuple #[.int .i64 z,.bool true]
 |none=>.tuple #[.int .i64 0,.bool false]
theorem bit_and{p j:Nat}(hp:p<256):bits BinOp.and IntKind.u64 ((p:Int)/2^j) 1=if p.testBit j then 1 else 0:=by
 have h:(p:Int)/2^j=((p/2^j:Nat):Int):=by simp
 have hle:p/2^j<=p:=Nat.div_le_self _ _;have h1:=bits_and_u64_nat (p/2^j) 1 (by omega) (by omega);rw[h,show((1:Int))=((1:Nat):Int) from rfl,h1,Nat.and_one_is_mod,Nat.testBit_eq_decide_div_mod_eq];rcases Nat.mod_two_eq_zero_or_one (p/2^j) with h3|h3<;>simp[h3]
theorem bit_free{p j:Nat}(hp:p<256):(bits BinOp.and IntKind.u64 ((p:Int)/2^j) 1==0)=!p.testBit j:=by rw[bit_and hp];cases p.testBit j<;>rfl
theorem bit_set{p j:Nat}(hp:p<256):(bits BinOp.and IntKind.u64 ((p:Int)/2^j) 1==1)=p.testBit j:=by rw[bit_and hp];cases p.testBit j<;>rfl
theorem pending_any(px bm:Nat)(A:Option Addr)(n c i:Nat)(l:List Ev)(x:Ev)(s:AS)(w:World)(he:IsEvs w A n c l)(hn:n<=8)(hx:l[i]?=some x)(hp:w.heap[px]?=some (.cells #[.slice A n c,.map (some bm)] 117))(hs:s.p<256):
  Calls Tryz.prog 127 #[.pointer (some ⟨px,0,none⟩),.agg (asC s),.int .i64 i] w fun o w'=>o=.returned (pendV (pendingP l s.p x i))/\Below w.heap.size w w':=by
 have hin:i<n:=by have:=(List.getElem?_eq_some_iff.1 hx).1;have:=he.len;omega
 obtain⟨p,w0,w1,w2,w3⟩:=s;unfold asC;dsimp only at*;obtain⟨W,hW⟩:=exE (w.alloc (.cells #[.int .u64 p,.int .i64 w0,.int .i64 w1,.int .i64 w2,.int .i64 w3] 121));obtain⟨b4,hb4⟩:=exE (w.heap.size);have kW:Below w.heap.size w W:=hW▸bA (bR w);have HB:=Jh kW;have HP:=Jh (blk_below kW hp)
 have H4:=Jh (show W.heap[b4]?=some (.cells #[.int .u64 p,.int .i64 w0,.int .i64 w1,.int .i64 w2,.int .i64 w3] 121) by rw[hW,hb4];exact heap_alloc_new w _);have HE:=Jh (he.sees (Below.sees kW));have HX:=Jh hx;have hi1:IntKind.i64.wrap ((i:Int)-1)=(i:Int)-1:=IntWalk.i64_in _ (by omega);clear he hx hp kW;go_enter Tryz.func127,Tryz.ntmps127;go_wp2_with fail;rw[<-hW,<-hb4];clear hW hb4
 go_loopw [8] (fun v wr=>∃k:Nat,k<=i/\v=.int .i64 ((k:Int)-1)/\pendingP l p x i=pendingP l p x k/\Below W.heap.size W wr) (fun v _=>(intOf v+1).toNat);case atStart=>exact⟨i,by omega,rfl,rfl,bR W⟩
 case round=>
  obtain⟨k,hk,rfl,hpk,hbw⟩:=hrel;have HPK:=Jh hpk;have HBW:=Jh hbw;clear hpk hbw;by_cases hk0:k=0
  ·subst hk0;have HF:=Jh (show pendingP l p x i=none from HPK.o);go_wp2_with fail;refine bodyPost_ret (results_tmp2 rfl _ _ _) rfl ⟨?_,bT HB.o HBW.o⟩;rw[HF.o];rfl
  obtain⟨j,rfl⟩:∃j,k=j+1:=⟨k-1,by omega⟩;have hjj:((j+1:Nat):Int)-1=(j:Int):=by omega
  rw[hjj];obtain⟨ge,oe,e,hA,hej,hc0,hc1,hc2,hc3⟩:=(HE.o.sees (Below.sees HBW.o)).at_ (show j<n by omega);subst hA;obtain⟨ge',oe',x',hA',hxj,hd0,hd1,hd2,hd3⟩:=(HE.o.sees (Below.sees HBW.o)).at_ hin;obtain rfl:x'=x:=Option.some.inj (hxj.symm.trans HX.o);simp only[Option.some.injEq,Addr.mk.injEq,and_true] at hA';obtain⟨rfl,rfl⟩:=hA';obtain⟨r0,r1,_⟩:=cells2 (blk_below HBW.o HP.o)
  have hjn:(j:Int)<(n:Int):=by omega
  have hin':(i:Int)<(n:Int):=by omega
  have hj0:decide ((j:Int)<0)=false:=by simp
  have hi0:decide ((i:Int)<0)=false:=by simp
  obtain⟨W2,hW2⟩:=exE (wr.alloc (.cells #[.int .i64 e.h,.int .i64 e.k,.int .i64 e.a,.int .i64 e.n] 44));obtain⟨b9,hb9⟩:=exE (wr.heap.size);have k2:Below wr.heap.size wr W2:=hW2▸bA (bR wr);have HB2:=Jh (bT HBW.o k2);have H92:=Jh (show W2.heap[b9]?=some (.cells #[.int .i64 e.h,.int .i64 e.k,.int .i64 e.a,.int .i64 e.n] 44) by rw[hW2,hb9];exact heap_alloc_new wr _)
  have HPj:=Jh (show pendingP l p x' (j+1)=if x'.waits p j e then some e.n else pendingP l p x' j by rw[pendingP,hej])
  have HWt:=Jh (show x'.waits p j e=((((e.h==x'.h)&&(e.k==2))&&(e.a==x'.a))&&!p.testBit j) from rfl);go_upto_region 5 with fail
  rw[<-hW2,<-hb9];have hd0:=(k2.cell (p:=⟨ge,oe+i*4,none⟩) (cell_lt hd0)).trans hd0;have hd2:=(k2.cell (p:=⟨ge,oe+i*4+2,none⟩) (cell_lt hd2)).trans hd2;clear hc0 hc1 hc2 hc3 hd1 hd3 r0 r1 k2 hW2 hb9 hej hxj;obtain⟨q0,q1,q2,q3,_⟩:=cells4 H92.o;obtain⟨r0,r1,_⟩:=cells2 (blk_below HB2.o HP.o);obtain⟨s0,_⟩:=cells5 (blk_below HB2.o H4.o);obtain⟨eh,heh⟩:=exE (e.h);obtain⟨ek,hek⟩:=exE (e.k)
  obtain⟨ea,hea⟩:=exE (e.a);obtain⟨en,hen⟩:=exE (e.n);obtain⟨xh,hxh⟩:=exE (x'.h);obtain⟨xa,hxa⟩:=exE (x'.a);rw[<-heh] at q0 HWt;rw[<-hek] at q1 HWt;rw[<-hea] at q2 HWt;rw[<-hen] at HPj;rw[<-hxh] at hd0 HWt;rw[<-hxa] at hd2 HWt;clear heh hek hea hxh hxa;by_cases h1:eh=xh
  ·have h1b:(eh==xh)=true:=by simpa using h1
   by_cases h2:ek=2
   ·have h2b:(ek==2)=true:=by simpa using h2
    by_cases h3:ea=xa
    ·have h3b:(ea==xa)=true:=by simpa using h3
     have HB3:=Jh (And.intro h1b (And.intro h2b h3b));clear h1 h2 h3;have hsh:=bit_free (j:=j) hs;cases hbit:p.testBit j
     ·have HWf:=Jh (show x'.waits p j e=true by rw[HWt.o,h1b,h2b,h3b,hbit];rfl);rw[hbit] at hsh;have hsh:(bits BinOp.and IntKind.u64 ((p:Int)/2^j) 1==0)=true:=hsh;clear hbit;go_quiet (fail)
      obtain⟨WA,hWA⟩:=exE (W2.drewN nq);have kA:Below W2.heap.size W2 WA:=hWA▸bN (bR W2);rw[<-hWA];have HKA:=Jh (bT HB2.o kA);obtain⟨q0,q1,q2,q3,_⟩:=cells4 (blk_below kA H92.o);have HRes:=Jh (show pendingP l p x' i=some en by rw[HPK.o,HPj.o,HWf.o];rfl);clear hWA kA;go_wp2_with fail;refine bodyPost_ret (results_tmp2 rfl _ _ _) rfl ⟨?_,bT HB.o HKA.o⟩;rw[HRes.o,hen];rfl
     have HWf:=Jh (show x'.waits p j e=false by rw[HWt.o,h1b,h2b,h3b,hbit];rfl);rw[hbit] at hsh;have hsh:(bits BinOp.and IntKind.u64 ((p:Int)/2^j) 1==0)=false:=hsh;clear hbit;go_quiet (fail)
     obtain⟨WA,hWA⟩:=exE (W2.drewN nq);have kA:Below W.heap.size W WA:=hWA▸bN HB2.o;rw[<-hWA];have HKA:=Jh kA;clear hWA kA;go_wp2_with fail;go_roundw;case rel=>exact⟨j,by omega,by go_num,by rw[HPK.o,HPj.o,HWf.o];rfl,HKA.o⟩
     case measure=>simp[intOf]
    have h3b:(ea==xa)=false:=by simpa using h3
    have HWf:=Jh (show x'.waits p j e=false by rw[HWt.o];simp[h3b]);clear h1 h2 h3;go_quiet (fail)
    obtain⟨WA,hWA⟩:=exE (W2.drewN nq);have kA:Below W.heap.size W WA:=hWA▸bN HB2.o;rw[<-hWA];have HKA:=Jh kA;clear hWA kA;go_wp2_with fail;go_roundw;case rel=>exact⟨j,by omega,by go_num,by rw[HPK.o,HPj.o,HWf.o];rfl,HKA.o⟩
    case measure=>simp[intOf]
   have h2b:(ek==2)=false:=by simpa using h2
   have HWf:=Jh (show x'.waits p j e=false by rw[HWt.o];simp[h2b]);clear h1 h2;go_quiet (fail)
   obtain⟨WA,hWA⟩:=exE (W2.drewN nq);have kA:Below W.heap.size W WA:=hWA▸bN HB2.o;rw[<-hWA];have HKA:=Jh kA;clear hWA kA;go_wp2_with fail;go_roundw;case rel=>exact⟨j,by omega,by go_num,by rw[HPK.o,HPj.o,HWf.o];rfl,HKA.o⟩
   case measure=>simp[intOf]
  have h1b:(eh==xh)=false:=by simpa using h1
  have HWf:=Jh (show x'.waits p j e=false by rw[HWt.o];simp[h1b]);clear h1;go_quiet (fail)
  obtain⟨WA,hWA⟩:=exE (W2.drewN nq);have kA:Below W.heap.size W WA:=hWA▸bN HB2.o;rw[<-hWA];have HKA:=Jh kA;clear hWA kA;go_wp2_with fail;go_roundw;case rel=>exact⟨j,by omega,by go_num,by rw[HPK.o,HPj.o,HWf.o];rfl,HKA.o⟩
  case measure=>simp[intOf]
end Go.Proofs.YtnigadeohmlpiaaGreatDoor
