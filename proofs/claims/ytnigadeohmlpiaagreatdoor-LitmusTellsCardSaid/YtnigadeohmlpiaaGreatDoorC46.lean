/- Contracts and words: whether events are a program, by the document's answer and by the program; whether events are a program, and what a script plays. No condition of ours. -/
import Derived.Test.YtnigadeohmlpiaaGreatDoorC32
import Derived.Test.YtnigadeohmlpiaaGreatDoorC44
import Derived.Test.YtnigadeohmlpiaaGreatDoorC41
set_option maxHeartbeats 32000000
set_option maxRecDepth 100000
namespace Go.Proofs.YtnigadeohmlpiaaGreatDoor
open Go.RowKit
attribute [local go_sem] Oper.semAt_some
def Tells(p:Prop)(e:Ending):Prop:=∃b,e=.returned (.bool b)/\(b=true↔p)
theorem Tells.yes{p:Prop}{e:Ending}(h:p)(he:e=.returned (.bool true)):Tells p e:=⟨true,he,fun _=>h,fun _=>rfl⟩
theorem Tells.no{p:Prop}{e:Ending}(h:¬p)(he:e=.returned (.bool false)):Tells p e:=⟨false,he,fun h'=>(by cases h'),fun h'=>absurd h' h⟩
structure AxR(l:List Ev):Prop where
 few:l.length<=8
 ok:∀e∈l,e.Ok
theorem ev_ok_iff{h k a n:Int}:(⟨h,k,a,n⟩:Ev).Ok↔(0<=h/\h<4)/\(1<=k/\k<=3)/\(0<=a/\a<4)/\(-2147483648<=n/\n<=2147483647)/\(k=3->a=0/\n=0):=
 ⟨fun⟨h1,h2,h3,h4,h5⟩=>⟨h1,h2,h3,h4,h5⟩,fun⟨h1,h2,h3,h4,h5⟩=>⟨h1,h2,h3,h4,h5⟩⟩
theorem right39_any(A:Option Addr)(n c:Nat)(l:List Ev)(w:World)(he:IsEvs w A n c l):
  Calls Tryz.prog 39 #[.slice A n c] w fun o w'=>Tells (AxR l) o/\Below w.heap.size w w':=by
 have HE:=Jh he;clear he;by_cases h8:n<=8
 ·have h8b:decide ((n:Int)>8)=false:=by simp;omega
  have h8c:decide (8<(n:Int))=false:=by simp;omega
  go_enter Tryz.func39,Tryz.ntmps39;go_wp2_with fail;go_loopw [3] (fun vi wr=>∃k:Nat,k<=n/\vi=.int .i64 k/\Below w.heap.size w wr/\∀j e,j<k->l[j]?=some e->e.Ok) (fun vi _=>n-(intOf vi).toNat);case atStart=>exact⟨0,Nat.zero_le _,rfl,bR w,fun j e hj=>absurd hj (by omega)⟩
  case round=>
   obtain⟨k,hk,rfl,hbw,hall⟩:=hrel;obtain⟨wo,rfl⟩:=exE wr;have HBW:=Jh hbw;have HAll:=Jh hall;clear hbw hall;by_cases hlt:k<n
   ·have hlb:decide ((k:Int)<(n:Int))=true:=by simp;omega
    have hlb2:decide (k<n)=true:=by simpa using hlt
    obtain⟨g,o,e,rfl,hek,hd0,hd1,hd2,hd3⟩:=(HE.o.sees (Below.sees HBW.o)).at_ hlt;have hkn:(k:Int)<(n:Int):=by omega
    have hk0:decide ((k:Int)<0)=false:=by simp
    obtain⟨eh,ek,ea,en⟩:=e;dsimp only at hd0 hd1 hd2 hd3;have HN1:=Jh (show(∀e∈l,e.Ok)->(⟨eh,ek,ea,en⟩:Ev).Ok from fun h=>h _ (List.mem_of_getElem? hek));have HN2:=Jh (show(⟨eh,ek,ea,en⟩:Ev).Ok->∀j e,j<k+1->l[j]?=some e->e.Ok from fun h j e hj he=>by
     rcases Nat.lt_or_ge j k with h1|h1
     ·exact HAll.o j e h1 he
     obtain rfl:j=k:=by omega
     rw[hek] at he;rw[<-Option.some.inj he];exact h)
    clear hek;obtain⟨q0,q1,q2,q3,_⟩:=cells4 (heap_alloc_new wo (.cells #[.int .i64 eh,.int .i64 ek,.int .i64 ea,.int .i64 en] 44));by_cases a1:eh<0
    ·have fa10:decide (eh<0)=true:=by simp;omega
     have HNo:=Jh (show¬AxR l from fun h=>by obtain⟨h1,h2,h3,h4,h5⟩:=ev_ok_iff.1 (HN1.o h.ok);omega);go_wp2_with fail;go_ret;exact⟨Tells.no HNo.o rfl,bA HBW.o⟩
    have fa10:decide (eh<0)=false:=by simp;omega
    by_cases a2:eh>3
    ·have fa20:decide (eh>3)=true:=by simp;omega
     have fa21:decide (3<eh)=true:=by simp;omega
     have HNo:=Jh (show¬AxR l from fun h=>by obtain⟨h1,h2,h3,h4,h5⟩:=ev_ok_iff.1 (HN1.o h.ok);omega);go_wp2_with fail;go_ret;exact⟨Tells.no HNo.o rfl,bA HBW.o⟩
    have fa20:decide (eh>3)=false:=by simp;omega
    have fa21:decide (3<eh)=false:=by simp;omega
    by_cases a3:ek<1
    ·have fa30:decide (ek<1)=true:=by simp;omega
     have HNo:=Jh (show¬AxR l from fun h=>by obtain⟨h1,h2,h3,h4,h5⟩:=ev_ok_iff.1 (HN1.o h.ok);omega);go_wp2_with fail;go_ret;exact⟨Tells.no HNo.o rfl,bA HBW.o⟩
    have fa30:decide (ek<1)=false:=by simp;omega
    by_cases a4:ek>3
    ·have fa40:decide (ek>3)=true:=by simp;omega
     have fa41:decide (3<ek)=true:=by simp;omega
     have HNo:=Jh (show¬AxR l from fun h=>by obtain⟨h1,h2,h3,h4,h5⟩:=ev_ok_iff.1 (HN1.o h.ok);omega);go_wp2_with fail;go_ret;exact⟨Tells.no HNo.o rfl,bA HBW.o⟩
    have fa40:decide (ek>3)=false:=by simp;omega
    have fa41:decide (3<ek)=false:=by simp;omega
    by_cases a5:ea<0
    ·have fa50:decide (ea<0)=true:=by simp;omega
     have HNo:=Jh (show¬AxR l from fun h=>by obtain⟨h1,h2,h3,h4,h5⟩:=ev_ok_iff.1 (HN1.o h.ok);omega);go_wp2_with fail;go_ret;exact⟨Tells.no HNo.o rfl,bA HBW.o⟩
    have fa50:decide (ea<0)=false:=by simp;omega
    by_cases a6:ea>3
    ·have fa60:decide (ea>3)=true:=by simp;omega
     have fa61:decide (3<ea)=true:=by simp;omega
     have HNo:=Jh (show¬AxR l from fun h=>by obtain⟨h1,h2,h3,h4,h5⟩:=ev_ok_iff.1 (HN1.o h.ok);omega);go_wp2_with fail;go_ret;exact⟨Tells.no HNo.o rfl,bA HBW.o⟩
    have fa60:decide (ea>3)=false:=by simp;omega
    have fa61:decide (3<ea)=false:=by simp;omega
    by_cases a7:en< -2147483648
    ·have fa70:decide (en< -2147483648)=true:=by simp;omega
     have HNo:=Jh (show¬AxR l from fun h=>by obtain⟨h1,h2,h3,h4,h5⟩:=ev_ok_iff.1 (HN1.o h.ok);omega);go_wp2_with fail;go_ret;exact⟨Tells.no HNo.o rfl,bA HBW.o⟩
    have fa70:decide (en< -2147483648)=false:=by simp;omega
    by_cases a8:en>=2147483648
    ·have fa80:decide (en>=2147483648)=true:=by simp;omega
     have fa81:decide (2147483648<=en)=true:=by simp;omega
     have HNo:=Jh (show¬AxR l from fun h=>by obtain⟨h1,h2,h3,h4,h5⟩:=ev_ok_iff.1 (HN1.o h.ok);omega);go_wp2_with fail;go_ret;exact⟨Tells.no HNo.o rfl,bA HBW.o⟩
    have fa80:decide (en>=2147483648)=false:=by simp;omega
    have fa81:decide (2147483648<=en)=false:=by simp;omega
    by_cases b1:ek=3
    ·have g1:(ek==3)=true:=by simpa using b1
     by_cases b2:ea=0
     ·have g2:(ea==0)=true:=by simpa using b2
      by_cases b3:en=0
      ·have g3:(en==0)=true:=by simpa using b3
       have HY:=Jh (HN2.o (ev_ok_iff.2 ⟨by omega,by omega,by omega,by omega,by omega⟩));go_wp2_with fail;go_roundw;case rel=>exact⟨k+1,by omega,by go_num,bA HBW.o,HY.o⟩
       case measure=>simp[intOf];omega
      have g3:(en==0)=false:=by simpa using b3
      have HNo:=Jh (show¬AxR l from fun h=>by obtain⟨h1,h2,h3,h4,h5⟩:=ev_ok_iff.1 (HN1.o h.ok);exact b3 (h5 b1).2);go_wp2_with fail;go_ret;exact⟨Tells.no HNo.o rfl,bA HBW.o⟩
     have g2:(ea==0)=false:=by simpa using b2
     have HNo:=Jh (show¬AxR l from fun h=>by obtain⟨h1,h2,h3,h4,h5⟩:=ev_ok_iff.1 (HN1.o h.ok);exact b2 (h5 b1).1);go_wp2_with fail;go_ret;exact⟨Tells.no HNo.o rfl,bA HBW.o⟩
    have g1:(ek==3)=false:=by simpa using b1
    have HY:=Jh (HN2.o (ev_ok_iff.2 ⟨by omega,by omega,by omega,by omega,by omega⟩));go_wp2_with fail;go_roundw;case rel=>exact⟨k+1,by omega,by go_num,bA HBW.o,HY.o⟩
    case measure=>simp[intOf];omega
   have hlb:decide ((k:Int)<(n:Int))=false:=by simp;omega
   have hlb2:decide (k<n)=false:=by simpa using hlt
   have HY:=Jh (show AxR l from⟨by rw[HE.o.len];exact h8,fun e he=>by obtain⟨j,hj,hje⟩:=List.getElem_of_mem he;have:=HE.o.len;exact HAll.o j e (by omega) (by rw[<-hje];exact List.getElem?_eq_getElem hj)⟩);go_wp2_with fail;go_ret;exact⟨Tells.yes HY.o rfl,HBW.o⟩
 have h8b:decide ((n:Int)>8)=true:=by simp;omega
 have h8c:decide (8<(n:Int))=true:=by simp;omega
 have HN8:=Jh (show¬AxR l from fun h=>h8 (by have:=h.few;have:=HE.o.len;omega));go_enter Tryz.func39,Tryz.ntmps39;go_wp2_with fail;go_ret;exact⟨Tells.no HN8.o rfl,bR w⟩
theorem mayBe61_any(e:Ev)(w:World):Calls Tryz.prog 61 #[evV e] w fun o w'=>Tells e.Ok o/\Below w.heap.size w w':=by
 obtain⟨eh,ek,ea,en⟩:=e;obtain⟨m,hm⟩:=exE (IntKind.i32.wrap en);have hmr:-2147483648<=m/\m<=2147483647/\((-2147483648<=en/\en<=2147483647)->m=en):=by rw[hm];unfold IntKind.wrap;simp[IntKind.signed,IntKind.bits];omega
 have hmw:IntKind.i64.wrap m=m:=IntWalk.i64_in _ (by omega);obtain⟨q0,q1,q2,q3,_⟩:=cells4 (heap_alloc_new w (.cells #[.int .i64 eh,.int .i64 ek,.int .i64 ea,.int .i64 en] 44));have HMR:=Jh hmr;clear hmr;replace hm:=hm.symm;unfold evV;by_cases b1:ek=3
 ·subst b1;by_cases b2:ea=0
  ·subst b2;by_cases b3:en=0
   ·subst b3;clear hm hmw HMR;by_cases a1:0<=eh
    ·have fa10:decide (0<=eh)=true:=by simp;omega
     have fa11:decide (eh>=0)=true:=by simp;omega
     by_cases a2:eh<4
     ·have fa20:decide (eh<4)=true:=by simp;omega
      have HY:=Jh (show(⟨eh,3,0,0⟩:Ev).Ok from ev_ok_iff.2 ⟨by omega,by omega,by omega,by omega,by omega⟩);go_enter Tryz.func61,Tryz.ntmps61;go_wp2_with fail;go_ret;exact⟨Tells.yes HY.o rfl,bA (bR w)⟩
     have fa20:decide (eh<4)=false:=by simp;omega
     have HNo:=Jh (show¬(⟨eh,3,0,0⟩:Ev).Ok from fun h=>by obtain⟨h1,h2,h3,h4,h5⟩:=ev_ok_iff.1 h;omega);go_enter Tryz.func61,Tryz.ntmps61;go_wp2_with fail;go_ret;exact⟨Tells.no HNo.o rfl,bA (bR w)⟩
    have fa10:decide (0<=eh)=false:=by simp;omega
    have fa11:decide (eh>=0)=false:=by simp;omega
    have HNo:=Jh (show¬(⟨eh,3,0,0⟩:Ev).Ok from fun h=>by obtain⟨h1,h2,h3,h4,h5⟩:=ev_ok_iff.1 h;omega);go_enter Tryz.func61,Tryz.ntmps61;go_wp2_with fail;go_ret;exact⟨Tells.no HNo.o rfl,bA (bR w)⟩
   have g3:(en==0)=false:=by simpa using b3
   have HNo:=Jh (show¬(⟨eh,3,0,en⟩:Ev).Ok from fun h=>by obtain⟨h1,h2,h3,h4,h5⟩:=ev_ok_iff.1 h;exact b3 (h5 rfl).2);go_enter Tryz.func61,Tryz.ntmps61;go_wp2_with fail;go_ret;exact⟨Tells.no HNo.o rfl,bA (bR w)⟩
  have g2:(ea==0)=false:=by simpa using b2
  have HNo:=Jh (show¬(⟨eh,3,ea,en⟩:Ev).Ok from fun h=>by obtain⟨h1,h2,h3,h4,h5⟩:=ev_ok_iff.1 h;exact b2 (h5 rfl).1);go_enter Tryz.func61,Tryz.ntmps61;go_wp2_with fail;go_ret;exact⟨Tells.no HNo.o rfl,bA (bR w)⟩
 have g1:(ek==3)=false:=by simpa using b1
 by_cases a1:0<=eh
 ·have fa10:decide (0<=eh)=true:=by simp;omega
  have fa11:decide (eh>=0)=true:=by simp;omega
  by_cases a2:eh<4
  ·have fa20:decide (eh<4)=true:=by simp;omega
   by_cases a3:1<=ek
   ·have fa30:decide (1<=ek)=true:=by simp;omega
    have fa31:decide (ek>=1)=true:=by simp;omega
    by_cases a4:ek<=3
    ·have fa40:decide (ek<=3)=true:=by simp;omega
     by_cases a5:0<=ea
     ·have fa50:decide (0<=ea)=true:=by simp;omega
      have fa51:decide (ea>=0)=true:=by simp;omega
      by_cases a6:ea<4
      ·have fa60:decide (ea<4)=true:=by simp;omega
       by_cases a7:m=en
       ·subst a7;have f7:(m==m)=true:=by simp
        have HY:=Jh (show(⟨eh,ek,ea,m⟩:Ev).Ok from by have:=HMR.o;exact ev_ok_iff.2 ⟨by omega,by omega,by omega,by omega,by omega⟩);clear a1 a2 a3 a4 a5 a6 b1;go_enter Tryz.func61,Tryz.ntmps61;go_wp2_with fail;go_ret;exact⟨Tells.yes HY.o rfl,bA (bR w)⟩
       have f7:(en==m)=false:=by simpa using Ne.symm a7
       have HNo:=Jh (show¬(⟨eh,ek,ea,en⟩:Ev).Ok from fun h=>by obtain⟨h1,h2,h3,h4,h5⟩:=ev_ok_iff.1 h;exact a7 (HMR.o.2.2 h4));clear a1 a2 a3 a4 a5 a6 b1 a7;go_enter Tryz.func61,Tryz.ntmps61;go_wp2_with fail;go_ret;exact⟨Tells.no HNo.o rfl,bA (bR w)⟩
      have fa60:decide (ea<4)=false:=by simp;omega
      have HNo:=Jh (show¬(⟨eh,ek,ea,en⟩:Ev).Ok from fun h=>by obtain⟨h1,h2,h3,h4,h5⟩:=ev_ok_iff.1 h;omega);go_enter Tryz.func61,Tryz.ntmps61;go_wp2_with fail;go_ret;exact⟨Tells.no HNo.o rfl,bA (bR w)⟩
     have fa50:decide (0<=ea)=false:=by simp;omega
     have fa51:decide (ea>=0)=false:=by simp;omega
     have HNo:=Jh (show¬(⟨eh,ek,ea,en⟩:Ev).Ok from fun h=>by obtain⟨h1,h2,h3,h4,h5⟩:=ev_ok_iff.1 h;omega);go_enter Tryz.func61,Tryz.ntmps61;go_wp2_with fail;go_ret;exact⟨Tells.no HNo.o rfl,bA (bR w)⟩
    have fa40:decide (ek<=3)=false:=by simp;omega
    have HNo:=Jh (show¬(⟨eh,ek,ea,en⟩:Ev).Ok from fun h=>by obtain⟨h1,h2,h3,h4,h5⟩:=ev_ok_iff.1 h;omega);go_enter Tryz.func61,Tryz.ntmps61;go_wp2_with fail;go_ret;exact⟨Tells.no HNo.o rfl,bA (bR w)⟩
   have fa30:decide (1<=ek)=false:=by simp;omega
   have fa31:decide (ek>=1)=false:=by simp;omega
   have HNo:=Jh (show¬(⟨eh,ek,ea,en⟩:Ev).Ok from fun h=>by obtain⟨h1,h2,h3,h4,h5⟩:=ev_ok_iff.1 h;omega);go_enter Tryz.func61,Tryz.ntmps61;go_wp2_with fail;go_ret;exact⟨Tells.no HNo.o rfl,bA (bR w)⟩
  have fa20:decide (eh<4)=false:=by simp;omega
  have HNo:=Jh (show¬(⟨eh,ek,ea,en⟩:Ev).Ok from fun h=>by obtain⟨h1,h2,h3,h4,h5⟩:=ev_ok_iff.1 h;omega);go_enter Tryz.func61,Tryz.ntmps61;go_wp2_with fail;go_ret;exact⟨Tells.no HNo.o rfl,bA (bR w)⟩
 have fa10:decide (0<=eh)=false:=by simp;omega
 have fa11:decide (eh>=0)=false:=by simp;omega
 have HNo:=Jh (show¬(⟨eh,ek,ea,en⟩:Ev).Ok from fun h=>by obtain⟨h1,h2,h3,h4,h5⟩:=ev_ok_iff.1 h;omega);go_enter Tryz.func61,Tryz.ntmps61;go_wp2_with fail;go_ret;exact⟨Tells.no HNo.o rfl,bA (bR w)⟩
open Classical in
noncomputable def okB (e:Ev):Bool:=decide e.Ok
theorem okB_iff{e:Ev}:okB e=true↔e.Ok:=by unfold okB;simp
theorem notMay60_any(e:Ev)(w:World):Calls Tryz.prog 60 #[evV e] w fun o w'=>o=.returned (.bool (!okB e))/\Below w.heap.size w w':=by
 have HM:=Jh (mayBe61_any e (w.alloc (.cells #[.int .i64 e.h,.int .i64 e.k,.int .i64 e.a,.int .i64 e.n] 44)));obtain⟨q0,q1,q2,q3,_⟩:=cells4 (heap_alloc_new w (.cells #[.int .i64 e.h,.int .i64 e.k,.int .i64 e.a,.int .i64 e.n] 44));have HQ:=Jh (okB_iff (e:=e));obtain⟨ob,hob⟩:=exE (okB e);rw[<-hob] at HQ⊢;clear hob;unfold evV at*;go_enter Tryz.func60,Tryz.ntmps60;go_wp2_with fail;refine HM.o.mono ?_
 rintro o w2 ⟨⟨b,rfl,hb⟩,hb2⟩;have HB:=Jh hb2;obtain rfl:b=ob:=by have h1:=HQ.o;cases b<;>cases ob<;>simp_all
 clear hb hb2;cases b with
 |true=>go_wp2_with fail;go_ret;exact⟨rfl,bT (bA (bR w)) HB.o⟩
 |false=>go_wp2_with fail;go_ret;exact⟨rfl,bT (bA (bR w)) HB.o⟩
theorem odd36_any(e:Ev)(w:World):Calls Tryz.prog 36 #[evV e] w fun o w'=>o=.returned (.bool (e.k==1&&!(e.n==0)))/\Below w.heap.size w w':=by
 obtain⟨h,k,a,n⟩:=e;obtain⟨q0,q1,q2,q3,_⟩:=cells4 (heap_alloc_new w (.cells #[.int .i64 h,.int .i64 k,.int .i64 a,.int .i64 n] 44));unfold evV;by_cases hk:k=1
 ·subst hk;by_cases hn:n=0
  ·subst hn;go_enter Tryz.func36,Tryz.ntmps36;go_wp2_with fail;go_ret;exact⟨rfl,bA (bR w)⟩
  have hnb:(n==0)=false:=by simpa using hn
  go_enter Tryz.func36,Tryz.ntmps36;go_wp2_with fail;go_ret;exact⟨ret_bool (show(n !=0)=(((1:Int)==1)&&!(n==0)) from rfl),bA (bR w)⟩
 have hkb:(k==1)=false:=by simpa using hk
 clear hk;go_enter Tryz.func36,Tryz.ntmps36;go_wp2_with fail;go_ret;exact⟨by rw[hkb];rfl,bA (bR w)⟩
theorem prog_iff{l:List Ev}:Prog l↔l.length<=6/\(∀e∈l,e.Ok)/\∀e∈l,e.k=1->e.n=0:=⟨fun⟨a,b,c⟩=>⟨a,b,c⟩,fun⟨a,b,c⟩=>⟨a,b,c⟩⟩
theorem axRight37_any(A:Option Addr)(n c:Nat)(l:List Ev)(w:World)(he:IsEvs w A n c l)(hn:n<=1000000):
  Calls Tryz.prog 37 #[.slice A n c] w fun o w'=>Tells (AxR l) o/\Below w.heap.size w w':=by
 have HLn:=Jh he.len;have HC:=Jh (contains60_any A n c l (fun e=>!okB e) w he hn (fun e hm wx _=>notMay60_any e wx));have HA:=Jh (show(l.any fun e=>!okB e)=false↔∀e∈l,e.Ok from by rw[List.any_eq_false];exact⟨fun h e he=>okB_iff.1 (by simpa using h e he),fun h e he=>by simpa using okB_iff.2 (h e he)⟩);obtain⟨q,hq⟩:=exE (l.any fun e=>!okB e);rw[<-hq] at HC HA;clear he hq;by_cases h8:n<=8
 ·have hn8:decide ((n:Int)<=8)=true:=by simp;omega
  go_enter Tryz.func37,Tryz.ntmps37;go_wp2_with fail;refine HC.o.mono ?_;rintro o w2 ⟨rfl,hb⟩;have HB:=Jh hb;clear hb;cases q with
  |true=>go_wp2_with fail;go_ret;exact⟨Tells.no (fun h=>by have:=HA.o.2 h.ok;cases this) rfl,HB.o⟩
  |false=>go_wp2_with fail;go_ret;exact⟨Tells.yes ⟨by rw[HLn.o];exact h8,HA.o.1 (by simp)⟩ rfl,HB.o⟩
 have hn8:decide ((n:Int)<=8)=false:=by simp;omega
 go_enter Tryz.func37,Tryz.ntmps37;go_wp2_with fail;go_ret;exact⟨Tells.no (fun h=>h8 (by have:=h.few;have:=HLn.o;omega)) rfl,bR w⟩
theorem right17_any(A:Option Addr)(n c:Nat)(l:List Ev)(w:World)(he:IsEvs w A n c l)(hn:n<=1000000):
  Calls Tryz.prog 17 #[.slice A n c] w fun o w'=>Tells (Prog l) o/\Below w.heap.size w w':=by
 have HL:=Jh he.len;have HA:=Jh (axRight37_any A n c l w he hn);have HC:=Jh (fun wx (hb:Below w.heap.size w wx)=>contains36_any A n c l (fun e=>e.k==1&&!(e.n==0)) wx (he.sees (Below.sees hb)) hn (fun e hm wx _=>odd36_any e wx));have HO:=Jh (show(l.any fun e=>e.k==1&&!(e.n==0))=false↔∀e∈l,e.k=1->e.n=0 from by
  rw[List.any_eq_false];exact⟨fun h e he hk=>by have:=h e he;simp[hk] at this;exact this,fun h e he=>by
   by_cases hk:e.k=1
   ·simp[h e he hk]
   simp[hk]⟩)
 obtain⟨q,hq⟩:=exE (l.any fun e=>e.k==1&&!(e.n==0));rw[<-hq] at HC HO;clear he hq;by_cases h6:n<=6
 ·have hn8:decide ((n:Int)<=6)=true:=by simp;omega
  go_enter Tryz.func17,Tryz.ntmps17;go_wp2_with fail;refine HA.o.mono ?_;rintro o w2 ⟨⟨b,rfl,hb⟩,hb2⟩;have HB:=Jh hb2;have HBb:=Jh hb;clear hb hb2;cases b with
  |false=>go_wp2_with fail;go_ret;exact⟨Tells.no (fun h=>by have:=HBb.o.2 ⟨by have:=h.few;omega,h.ok⟩;cases this) rfl,HB.o⟩
  |true=>
   go_wp2_with fail;refine(HC.o _ HB.o).mono ?_;rintro o w3 ⟨rfl,hb3⟩;have HB3:=Jh (bT HB.o hb3);clear hb3;cases q with
   |true=>go_wp2_with fail;go_ret;exact⟨Tells.no (fun h=>by have:=HO.o.2 h.odd;cases this) rfl,HB3.o⟩
   |false=>go_wp2_with fail;go_ret;exact⟨Tells.yes (prog_iff.2 ⟨by rw[HL.o];exact h6,(HBb.o.1 (by simp)).ok,HO.o.1 (by simp)⟩) rfl,HB3.o⟩
 have hn8:decide ((n:Int)<=6)=false:=by simp;omega
 go_enter Tryz.func17,Tryz.ntmps17;go_wp2_with fail;go_ret;exact⟨Tells.no (fun h=>h6 (HL.o▸h.few)) rfl,bR w⟩
end Go.Proofs.YtnigadeohmlpiaaGreatDoor
namespace Go.Proofs.YtnigadeohmlpiaaGreatDoor
open Go.RowKit
attribute [local go_sem] Oper.semAt_some
theorem right18_any(A:Option Addr)(n c:Nat)(l:List Ev)(w:World)(he:IsEvs w A n c l)(hn:n<=1000000):
  Calls Tryz.prog 18 #[.slice A n c] w fun o w'=>Tells (Prog l) o/\Below w.heap.size w w':=by
 have HE:=Jh he;have HR:=Jh (right39_any A n c l w he);clear he;go_enter Tryz.func18,Tryz.ntmps18;go_wp2_with fail;refine HR.o.mono ?_;rintro o w2 ⟨⟨b,rfl,hb⟩,hb2⟩;have HB2:=Jh hb2;have HBb:=Jh hb;clear hb hb2;go_upto_region 3 with fail
 go_loopw [3,4] (fun vb vi wr=>∃(k:Nat) (q:Bool),k<=n/\vi=.int .i64 k/\vb=.bool q/\Below w.heap.size w wr/\(q=true↔AxR l/\∀j e,j<k->l[j]?=some e->e.k=1->e.n=0)) (fun _ vi _=>n-(intOf vi).toNat);case atStart=>exact⟨0,b,Nat.zero_le _,rfl,rfl,HB2.o,HBb.o.trans ⟨fun h=>⟨h,fun j e hj=>absurd hj (by omega)⟩,fun h=>h.1⟩⟩
 case round=>
  obtain⟨k,q,hk,rfl,rfl,hbw,hq⟩:=hrel;obtain⟨wo,rfl⟩:=exE wr;have HBW:=Jh hbw;have HQ:=Jh hq;clear hbw hq;by_cases hlt:k<n
  ·have hlb:decide ((k:Int)<(n:Int))=true:=by simp;omega
   have hlb2:decide (k<n)=true:=by simpa using hlt
   obtain⟨g,o,e,rfl,hek,_,hd1,_,hd3⟩:=(HE.o.sees (Below.sees HBW.o)).at_ hlt;have hkn:(k:Int)<(n:Int):=by omega
   have hk0:decide ((k:Int)<0)=false:=by simp
   have HN:=Jh (show(∀j e,j<k+1->l[j]?=some e->e.k=1->e.n=0)↔(∀j e,j<k->l[j]?=some e->e.k=1->e.n=0)/\(e.k=1->e.n=0) from by
    constructor
    ·exact fun h=>⟨fun j e hj=>h j e (by omega),h k e (by omega) hek⟩
    rintro⟨h1,h2⟩ j e' hj he';rcases Nat.lt_or_ge j k with h3|h3
    ·exact h1 j e' h3 he'
    obtain rfl:j=k:=by omega
    rw[hek] at he';rw[<-Option.some.inj he'];exact h2)
   obtain⟨ek,hEk⟩:=exE (e.k);obtain⟨en,hEn⟩:=exE (e.n);rw[<-hEk] at hd1 HN;rw[<-hEn] at hd3 HN;clear hek hEk hEn;cases q with
   |false=>
    have HQ1:=Jh (show false=true↔AxR l/\∀j e,j<k+1->l[j]?=some e->e.k=1->e.n=0 from⟨fun h=>(by cases h),fun h=>HQ.o.2 ⟨h.1,(HN.o.1 h.2).1⟩⟩);go_wp2_with fail;go_roundw;case rel=>exact⟨k+1,false,by omega,by go_num,rfl,HBW.o,HQ1.o⟩
    case measure=>simp[intOf];omega
   |true=>
    by_cases h1:ek=1
    ·have h1b:(ek==1)=true:=by simpa using h1
     by_cases h0:en=0
     ·have h0b:(en==0)=true:=by simpa using h0
      have HQ1:=Jh (show true=true↔AxR l/\∀j e,j<k+1->l[j]?=some e->e.k=1->e.n=0 from⟨fun h=>⟨(HQ.o.1 h).1,HN.o.2 ⟨(HQ.o.1 h).2,fun _=>h0⟩⟩,fun _=>rfl⟩);clear h0;go_wp2_with fail;go_roundw;case rel=>exact⟨k+1,true,by omega,by go_num,rfl,HBW.o,HQ1.o⟩
      case measure=>simp[intOf];omega
     have h0b:(en==0)=false:=by simpa using h0
     have HQ1:=Jh (show false=true↔AxR l/\∀j e,j<k+1->l[j]?=some e->e.k=1->e.n=0 from⟨fun h=>(by cases h),fun h=>absurd ((HN.o.1 h.2).2 h1) h0⟩);go_wp2_with fail;go_roundw;case rel=>exact⟨k+1,false,by omega,by go_num,rfl,HBW.o,HQ1.o⟩
     case measure=>simp[intOf];omega
    have h1b:(ek==1)=false:=by simpa using h1
    have HQ1:=Jh (show true=true↔AxR l/\∀j e,j<k+1->l[j]?=some e->e.k=1->e.n=0 from⟨fun h=>⟨(HQ.o.1 h).1,HN.o.2 ⟨(HQ.o.1 h).2,fun h=>absurd h h1⟩⟩,fun _=>rfl⟩);go_wp2_with fail;go_roundw;case rel=>exact⟨k+1,true,by omega,by go_num,rfl,HBW.o,HQ1.o⟩
    case measure=>simp[intOf];omega
  have hlb:decide ((k:Int)<(n:Int))=false:=by simp;omega
  have hlb2:decide (k<n)=false:=by simpa using hlt
  have HF:=Jh (show q=true↔AxR l/\∀e∈l,e.k=1->e.n=0 from HQ.o.trans ⟨fun h=>⟨h.1,fun e he=>by obtain⟨j,hj,hje⟩:=List.getElem_of_mem he;have:=HE.o.len;exact h.2 j e (by omega) (by rw[<-hje];exact List.getElem?_eq_getElem hj)⟩,fun h=>⟨h.1,fun j e _ he=>h.2 e (List.mem_of_getElem? he)⟩⟩);cases q with
  |false=>have HNo:=Jh (show¬Prog l from fun h=>by have:=HF.o.2 ⟨⟨by have:=h.few;omega,h.ok⟩,h.odd⟩;cases this);go_wp2_with fail;go_ret;exact⟨Tells.no HNo.o rfl,HBW.o⟩
  |true=>
   by_cases h6:n<=6
   ·have h6b:decide ((n:Int)<=6)=true:=by simp;omega
    have HY:=Jh (show Prog l from⟨by rw[HE.o.len];exact h6,(HF.o.1 (by simp)).1.ok,(HF.o.1 (by simp)).2⟩);go_wp2_with fail;go_ret;exact⟨Tells.yes HY.o rfl,HBW.o⟩
   have h6b:decide ((n:Int)<=6)=false:=by simp;omega
   have HNo:=Jh (show¬Prog l from fun h=>h6 (HE.o.len▸h.few));go_wp2_with fail;go_ret;exact⟨Tells.no HNo.o rfl,HBW.o⟩
end Go.Proofs.YtnigadeohmlpiaaGreatDoor
