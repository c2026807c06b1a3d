/- Contracts and words: what the document's axioms tell is what is played; the numbers that a load may tell; the outcomes that the axioms let be. No condition of ours. -/
import Derived.Test.YtnigadeohmlpiaaGreatDoorC45
import Derived.Test.YtnigadeohmlpiaaGreatDoorC35
import Derived.Test.YtnigadeohmlpiaaGreatDoorC44
import Derived.Test.YtnigadeohmlpiaaGreatDoorC46
set_option maxHeartbeats 32000000
set_option maxRecDepth 100000
namespace Go.Proofs.YtnigadeohmlpiaaGreatDoor
open Go.RowKit
def valsP(m:List Ev)(a:Int):List Int:=0::(m.filter (Ev.storesTo a)).map Ev.n
theorem valsP_len(m:List Ev)(a:Int):(valsP m a).length<=m.length+1:=by unfold valsP;rw[List.length_cons,List.length_map];exact Nat.succ_le_succ (List.length_filter_le _ _)
theorem valsP_mem{m:List Ev}{a z:Int}:z∈valsP m a↔Vals m a z:=by
 unfold valsP Vals;rw[List.mem_cons,List.mem_map];refine or_congr Iff.rfl ⟨fun⟨x,hx,hz⟩=>?_,fun⟨x,hx,h1,h2,hz⟩=>⟨x,List.mem_filter.2 ⟨hx,?_⟩,hz⟩⟩
 ·obtain⟨h1,h2⟩:=List.mem_filter.1 hx;unfold Ev.storesTo at h2;rw[Bool.and_eq_true] at h2;exact⟨x,h1,by simpa using h2.1,by simpa using h2.2,hz⟩
 unfold Ev.storesTo;simp[h1,h2]
def tellF:Nat->List Ev->Nat->List (List Ev)
 |0,m,_=>[m]
 |f+1,m,i=>match m[i]?with
  |some e=>if e.k=1 then(valsP m e.a).flatMap fun v=>tellF f (setN m i v) (i+1) else tellF f m (i+1)
  |none=>[m]
open Classical in
noncomputable def axR:Nat->List Ev->Nat->List (List Int)->List (List Int)
 |0,m,_,R=>if CanHold m [] then putP R (loadsOf m) else R
 |f+1,m,i,R=>match m[i]?with
  |some e=>if e.k=1 then(valsP m e.a).foldl (fun R v=>axR f (setN m i v) (i+1) R) R else axR f m (i+1) R
  |none=>R
theorem axR_load{f:Nat}{m:List Ev}{i:Nat}{R:List (List Int)}{e:Ev}(he:m[i]?=some e)(h1:e.k=1):axR (f+1) m i R=(valsP m e.a).foldl (fun R v=>axR f (setN m i v) (i+1) R) R:=by rw[axR,he];exact if_pos h1
theorem axR_skip{f:Nat}{m:List Ev}{i:Nat}{R:List (List Int)}{e:Ev}(he:m[i]?=some e)(h1:e.k≠1):axR (f+1) m i R=axR f m (i+1) R:=by rw[axR,he];exact if_neg h1
theorem fold_rising{g:List (List Int)->Int->List (List Int)}(hg:∀R v,Rising R->Rising (g R v)):∀(vs:List Int) (R:List (List Int)),Rising R->Rising (vs.foldl g R)
 |[],_,h=>h
 |v::vs,R,h=>fold_rising hg vs _ (hg R v h)
theorem axR_rising:∀(f:Nat) (m:List Ev) (i:Nat) (R:List (List Int)),Rising R->Rising (axR f m i R)
 |0,m,i,R,h=>by
  rw[axR];split
  ·exact putP_rising h
  exact h
 |f+1,m,i,R,h=>by
  rw[axR];split
  ·split
   ·exact fold_rising (fun R v hR=>axR_rising f _ _ R hR) _ _ h
   exact axR_rising f m (i+1) R h
  exact h
theorem fold_len{g:List (List Int)->Int->List (List Int)}{c:Nat}(hg:∀R v,(g R v).length<=R.length+c):∀(vs:List Int) (R:List (List Int)),(vs.foldl g R).length<=R.length+vs.length*c
 |[],R=>by simp
 |v::vs,R=>by have h1:=fold_len hg vs (g R v);have h2:=hg R v;rw[List.foldl_cons,List.length_cons,Nat.succ_mul];omega
theorem axR_len{n:Nat}(hn:n<=6):∀(f:Nat) (m:List Ev) (i:Nat) (R:List (List Int)),m.length=n->(axR f m i R).length<=R.length+7^f
 |0,m,i,R,hm=>by
  rw[axR];split
  ·exact putP_len R _
  omega
 |f+1,m,i,R,hm=>by
  rw[axR];have h7:7^(f+1)=7*7^f:=by rw[Nat.pow_succ,Nat.mul_comm]
  split
  ·rename_i e he;split
   ·have hv:=valsP_len m e.a;have h1:∀(vs:List Int) (R:List (List Int)),(vs.foldl (fun R v=>axR f (setN m i v) (i+1) R) R).length<=R.length+vs.length*7^f:=fold_len fun R v=>axR_len hn f (setN m i v) (i+1) R (by rw[setN_len];exact hm);have h2:=h1 (valsP m e.a) R;have h3:(valsP m e.a).length*7^f<=7*7^f:=Nat.mul_le_mul_right _ (by omega);omega
   have h1:=axR_len hn f m (i+1) R hm;omega
  omega
theorem fold_mem{g:List (List Int)->Int->List (List Int)}{T:Int->List Int->Prop}(hg:∀R v z,z∈g R v↔z∈R\/T v z)(z:List Int):∀(vs:List Int) (R:List (List Int)),z∈vs.foldl g R↔z∈R\/∃v∈vs,T v z
 |[],R=>by simp
 |v::vs,R=>by
  rw[List.foldl_cons,fold_mem hg z vs,hg];constructor
  ·rintro((h|h)|⟨u,hu,h⟩)
   ·exact .inl h
   ·exact .inr ⟨v,List.mem_cons_self,h⟩
   exact .inr ⟨u,List.mem_cons_of_mem _ hu,h⟩
  rintro(h|⟨u,hu,h⟩)
  ·exact .inl (.inl h)
  rcases List.mem_cons.1 hu with rfl|hu
  ·exact .inl (.inr h)
  exact .inr ⟨u,hu,h⟩
theorem axR_mem:∀(f:Nat) (m:List Ev) (i:Nat) (R:List (List Int)) (z:List Int),i+f=m.length->(z∈axR f m i R↔z∈R\/∃m'∈tellF f m i,CanHold m' []/\z=loadsOf m')
 |0,m,i,R,z,_=>by
  rw[axR,tellF];split
  ·rename_i h;rw[putP_mem];constructor
   ·rintro(h1|h1)
    ·exact .inr ⟨m,List.mem_singleton.2 rfl,h,h1⟩
    exact .inl h1
   rintro(h1|⟨m',hm,_,h1⟩)
   ·exact .inr h1
   rw[List.mem_singleton.1 hm] at h1;exact .inl h1
  rename_i h;constructor
  ·exact .inl
  rintro(h1|⟨m',hm,h2,_⟩)
  ·exact h1
  rw[List.mem_singleton.1 hm] at h2;exact absurd h2 h
 |f+1,m,i,R,z,hi=>by
  obtain⟨e,he⟩:∃e,m[i]?=some e:=⟨_,List.getElem?_eq_getElem (by omega)⟩;rw[tellF,he];dsimp only;by_cases h1:e.k=1
  ·rw[axR_load he h1,if_pos h1,fold_mem (T:=fun v z=>∃m'∈tellF f (setN m i v) (i+1),CanHold m' []/\z=loadsOf m') (fun R v z=>axR_mem f _ _ R z (by rw[setN_len];omega))];refine or_congr Iff.rfl ⟨fun⟨v,hv,m',hm,h⟩=>⟨m',List.mem_flatMap.2 ⟨v,hv,hm⟩,h⟩,fun⟨m',hm,h⟩=>?_⟩;obtain⟨v,hv,hm⟩:=List.mem_flatMap.1 hm;exact⟨v,hv,m',hm,h⟩
  rw[axR_skip he h1,if_neg h1];exact axR_mem f m (i+1) R z (by omega)
theorem tellF_told{l:List Ev}(hn:∀x∈l,I32 x.n):∀(f:Nat) (m:List Ev) (i:Nat),Told' l m->∀m'∈tellF f m i,Told' l m'
 |0,m,_,ht,m',h=>by rw[tellF,List.mem_singleton] at h;rw[h];exact ht
 |f+1,m,i,ht,m',h=>by
  rw[tellF] at h;cases he:m[i]?with
  |none=>rw[he] at h;rw[List.mem_singleton.1 h];exact ht
  |some e=>
   rw[he] at h;dsimp only at h;split at h
   ·rename_i h1;obtain⟨v,hv,hm⟩:=List.mem_flatMap.1 h;obtain⟨e0,he0,hee,_⟩:=ht.back he;have hvr:I32 v:=by
     rcases valsP_mem.1 hv with rfl|⟨x,hx,h2,_,rfl⟩
     ·exact i32_zero
     obtain⟨j,hj⟩:=List.getElem?_of_mem hx;obtain⟨x0,hx0,hxx,hx1⟩:=ht.back hj;have:x.n=x0.n:=hx1 (by rw[hxx] at h2;have h3:x0.k=2:=h2;omega);rw[this];exact hn x0 (List.mem_of_getElem? hx0)
    refine tellF_told hn f (setN m i v) (i+1) ⟨by rw[setN_len];exact ht.len,fun j x hx=>?_⟩ m' hm;obtain⟨z,hz,hz1,hz2⟩:=ht.at_ j x hx;rw[setN_at];by_cases hij:i=j
    ·subst hij;rw[if_pos rfl,hz];refine⟨v,rfl,fun hk=>?_,fun _=>hvr⟩;rw[hx] at he0;cases he0;exact absurd (by rw[hee] at h1;exact h1) hk
    rw[if_neg hij];exact⟨z,hz,hz1,hz2⟩
   exact tellF_told hn f m (i+1) ht m' h
theorem tellF_mem{l m:List Ev}(hm:Told' l m)(hv:∀(i:Nat) (e:Ev),m[i]?=some e->e.k=1->Vals m e.a e.n):∀(f:Nat) (m0:List Ev) (i:Nat),i+f=m0.length->Told' l m0->(∀j,j<i->m0[j]?=m[j]?)->m∈tellF f m0 i
 |0,m0,i,hi,ht,hj=>by
  rw[tellF,List.mem_singleton];apply List.ext_getElem?;intro j;rcases Nat.lt_or_ge j i with h|h
  ·exact(hj j h).symm
  rw[List.getElem?_eq_none (by rw[hm.len,<-ht.len];omega),List.getElem?_eq_none (by omega)]
 |f+1,m0,i,hi,ht,hj=>by
  obtain⟨e,he⟩:∃e,m0[i]?=some e:=⟨_,List.getElem?_eq_getElem (by omega)⟩;obtain⟨e0,he0,hee,hen⟩:=ht.back he;obtain⟨z,hz,hz1,_⟩:=hm.at_ i e0 he0;have hek:e.k=e0.k:=by rw[hee];rfl
  have hea:e.a=e0.a:=by rw[hee];rfl
  rw[tellF,he];dsimp only;by_cases h1:e.k=1
  ·rw[if_pos h1,List.mem_flatMap];refine⟨z,valsP_mem.2 ?_,?_⟩
   ·have h2:=hv i _ hz (by show e0.k=1;rw[<-hek];exact h1);have h2:Vals m e0.a z:=h2;rw[hea];rcases h2 with h3|⟨x,hx,h4,h5,h6⟩
    ·exact .inl h3
    obtain⟨j,hj'⟩:=List.getElem?_of_mem hx;obtain⟨x0,hx0,hxx,hx1⟩:=hm.back hj';have hk2:x0.k=2:=by rw[hxx] at h4;exact h4
    obtain⟨y,hy,hy1,_⟩:=ht.at_ j x0 hx0;refine .inr ⟨x0.tell y,List.mem_of_getElem? hy,hk2,?_,?_⟩
    ·rw[hxx] at h5;exact h5
    show y=z;rw[hy1 (by omega),<-h6,hx1 (by omega)]
   refine tellF_mem hm hv f (setN m0 i z) (i+1) (by rw[setN_len];omega) ⟨by rw[setN_len];exact ht.len,fun j x hx=>?_⟩ fun j hji=>?_
   ·obtain⟨y,hy,hy1,hy2⟩:=ht.at_ j x hx;rw[setN_at];by_cases hij:i=j
    ·subst hij;rw[if_pos rfl,hy];rw[he0] at hx;cases hx;obtain⟨z',hz',_,hz3⟩:=hm.at_ i e0 he0;rw[hz] at hz';have hzz:z=z':=by injection(Option.some.inj hz')
     exact⟨z,rfl,fun hk=>absurd (hek▸h1) hk,fun h=>hzz▸hz3 h⟩
    rw[if_neg hij];exact⟨y,hy,hy1,hy2⟩
   rw[setN_at];by_cases hij:i=j
   ·subst hij;rw[if_pos rfl,he,hz,hee];rfl
   rw[if_neg hij];exact hj j (by omega)
  rw[if_neg h1];refine tellF_mem hm hv f m0 (i+1) (by omega) ht fun j hji=>?_;by_cases hij:j=i
  ·subst hij;rw[he,hz,hz1 (by rw[<-hek];exact h1),tell_self,hee,hen (by rw[<-hek];exact h1),tell_self]
  exact hj j (by omega)
theorem axR_plays{l:List Ev}(hl:Prog l)(z:List Int):z∈axR l.length l 0 []↔∃xs,playP l xs=some z:=by
 rw[axR_mem l.length l 0 [] z (by omega)];constructor
 ·rintro(h|⟨m,hm,hc,rfl⟩)
  ·cases h
  have ht:=tellF_told (fun x hx=>(hl.ok x hx).n) _ l 0 (Told'.refl l) m hm;exact(canEnd_iff hl ht).1 ((canHold_iff (told_ok ht hl.ok)).1 hc)
 rintro⟨xs,hp⟩;have hp':=hp;unfold playP at hp';obtain⟨s',hr,ho⟩:=Option.bind_eq_some_iff.1 hp';obtain⟨hd,hz⟩:=outcome_parts ho;have hok:=run_lens hl (St.first_ok l.length) hr;have ht:=tellT_told hok.t hok.i;have hzl:z=loadsOf (tellT l s'.told):=by rw[tellT_loads];exact hz
 have hc:=(canEnd_iff hl ht).2 ⟨xs,by rw[<-hzl];exact hp⟩;refine .inr ⟨tellT l s'.told,tellF_mem ht (fun i e he h1=>canEnd_vals (told_ok ht hl.ok) hc (fun a ha=>by
  match a,ha with
  |0,_|1,_|2,_|3,_=>exact .inl rfl) i e he h1 (by simp[AS.zero])) _ l 0 (by omega) (Told'.refl l) (fun j hj=>absurd hj (by omega)),(canHold_iff (told_ok ht hl.ok)).2 hc,hzl⟩
end Go.Proofs.YtnigadeohmlpiaaGreatDoor
namespace Go.Proofs.YtnigadeohmlpiaaGreatDoor
open Go.RowKit
attribute [local go_sem] Oper.semAt_some
theorem valsK_succ{m:List Ev}{a:Int}{k:Nat}{e:Ev}(h:m[k]?=some e):valsP (m.take (k+1)) a=valsP (m.take k) a++if(e.k==2&&e.a==a) then[e.n] else[]:=by unfold valsP;rw[List.take_add_one,h,List.filter_append,List.map_append,List.cons_append];congr 2;show(List.filter (Ev.storesTo a) [e]).map Ev.n=_;unfold Ev.storesTo;cases h1:((e.k==2)&&(e.a==a))<;>simp[h1]
theorem values74_any(A:Option Addr)(n c i:Nat)(m:List Ev)(e:Ev)(w:World)(he:IsEvs w A n c m)(hn:n<=6)(hi:m[i]?=some e):
  Calls Tryz.prog 74 #[.slice A n c,.int .i64 i] w fun o w'=>OutV w.heap.size (valsP m e.a) o w'/\Below w.heap.size w w':=by
 obtain⟨i3,hi3,hz0,hz1,hz2⟩:=info_parts int_info;have hin:i<n:=by rw[<-he.len];exact(List.getElem?_eq_some_iff.1 hi).1
 obtain⟨g,off,e',rfl,hx,_,_,hd2,_⟩:=he.at_ hin;obtain rfl:e'=e:=Option.some.inj (hx.symm.trans hi);obtain⟨ia,hia⟩:=exE (e'.a);rw[<-hia] at hd2⊢;have HE:=Jh he;have HC:=Jh (fun(wx:World) (hb:Below w.heap.size w wx)=>(hb.cell (cell_lt hd2)).trans hd2);obtain⟨W,hW⟩:=exE (w.alloc (.cells #[.int .i64 0] 3));obtain⟨b,hb⟩:=exE (w.heap.size);have kW:Below w.heap.size w W:=hW▸bA (bR w);have HB:=Jh kW
 have HO:=Jh (show W.ownsRow w.heap.size 3 1 (.slice (some ⟨b,0,none⟩) 1 1) 1 (ints (valsP (m.take 0) ia)) from
  ⟨rfl,.inr ⟨b,1,#[.int .i64 0],rfl,Nat.le_of_eq hb.symm,by rw[hW,hb];exact heap_alloc_new w _,Nat.le_refl _,by unfold maxLen;omega,rfl,rfl⟩⟩)
 have hi0:decide ((i:Int)<0)=false:=by simp
 have hin':(i:Int)<(n:Int):=by omega
 clear he hx hi hia kW hd2;go_enter Tryz.func74,Tryz.ntmps74;go_upto_region 3 with fail
 rw[<-hW,<-hb];clear hW hb;go_loopw [5,6] (fun vx vk wr=>∃(k q:Nat) (X:List Int),k<=n/\vk=.int .i64 k/\X=valsP (m.take k) ia/\q=X.length/\Below w.heap.size w wr/\wr.ownsRow w.heap.size 3 1 vx q (ints X)) (fun _ vk _=>n-(intOf vk).toNat);case atStart=>exact⟨0,1,_,Nat.zero_le _,rfl,rfl,rfl,HB.o,HO.o⟩
 case round=>
  obtain⟨k,q,X,hk,rfl,hX,hq,hbw,hox⟩:=hrel;obtain⟨wo,rfl⟩:=exE wr;have hq7:q<=7:=by have h1:=valsP_len (m.take k) ia;have h2:=List.length_take_le k m;rw[hq,hX];omega
  have HX:=Jh hX;have HQ:=Jh hq;have HBW:=Jh hbw;have HOX:=Jh hox;obtain⟨AX,cX,rfl,hqc,_⟩:=own_slice hox;clear hX hq hbw hox;by_cases hlt:k<n
  ·have hlb:decide ((k:Int)<(n:Int))=true:=by simp;omega
   have hlb2:decide (k<n)=true:=by simpa using hlt
   have hkn:(k:Int)<(n:Int):=by omega
   have hk0:decide ((k:Int)<0)=false:=by simp
   obtain⟨g',off',ev,hA',hx,_,hc1,hc2,hc3⟩:=(HE.o.sees (Below.sees HBW.o)).at_ hlt;injection hA' with hA'
   injection hA' with e1 e2 _
   subst e1 e2;have HS:=Jh (valsK_succ (a:=ia) hx);have hci:=HC.o wo HBW.o;obtain⟨ek,hek⟩:=exE (ev.k);obtain⟨ea,hea⟩:=exE (ev.a);obtain⟨en,hen⟩:=exE (ev.n);rw[<-hek] at hc1 HS;rw[<-hea] at hc2 HS;rw[<-hen] at hc3 HS;have HC3:=Jh (fun(wx:World) (hb:Below wo.heap.size wo wx)=>(hb.cell (cell_lt hc3)).trans hc3);clear hx hek hea hen hc3;go_upto_region 5 with fail
   by_cases h2:ek=2
   ·have h2b:(ek==2)=true:=by simpa using h2
    by_cases ha:ea=ia
    ·have hab:(ea==ia)=true:=by simpa using ha
     have HS1:=Jh (show valsP (m.take (k+1)) ia=X++[en] from by rw[HS.o,h2b,hab,HX.o];rfl);go_quiet (fail)
     obtain⟨W6,hW6⟩:=exE (wo.drewN nq);rw[<-hW6];have hk6:Below wo.heap.size wo W6:=hW6▸bN (bR wo);have HB6:=Jh hk6;have hc3:=HC3.o W6 hk6;have HNw:=Jh (heap_alloc_new W6 (.cells #[.int .i64 en] 3));have kA:Below W6.heap.size W6 (W6.alloc (.cells #[.int .i64 en] 3)):=bA (bR W6);have HOl:=Jh (own_tk (T:=[]) HOX.o (Tk.below (bT hk6 kA)) (by decide));have HBl:=Jh (bT HBW.o (bT hk6 kA))
     clear hW6 hc1 hc2 hci h2 ha kA hk6;go_upto_region 6 with fail
     go_wp2_with (
      at_builtin
      refine wpList_append_rd _ rfl (.tmp 33) (.tmp 39) 32 rfl w.heap.size 3 i3 _ 1 8 Tryz.underlying32 hi3 hz0 hz1 hz2 rfl (by decide) (.slice AX q cX) q (ints X) rfl HOl.o (some ⟨W6.heap.size,0,none⟩) 1 1 [.int .i64 en] rfl ⟨rfl,fun _=>⟨W6.heap.size,0,rfl,blk_lt HNw.o,fun j u hu=>one_cell HNw.o hu⟩⟩ (by simp[Value.oneCell']) (by unfold maxLen;omega) (by omega) HBl.o.size ?_;intro v7 w7 hown7 hg7
      obtain⟨A7,c7,rfl,_,_⟩:=own_slice hown7;have HO7:=Jh (show w7.ownsRow w.heap.size 3 1 (.slice A7 (q+1) c7) (q+1) (ints (X++[en])) from by rw[show ints (X++[en])=ints X++[.int .i64 en] from by simp[ints]];exact hown7);have HB7:=Jh (HBl.o.grown hg7 HBl.o.size (fun r e=>(HOl.o.lt r e).1));clear hown7 hg7 hc3)
     go_roundw;case rel=>exact⟨k+1,q+1,X++[en],by omega,by go_num,HS1.o.symm,by rw[List.length_append,<-HQ.o];rfl,HB7.o,HO7.o⟩
     case measure=>simp[intOf];omega
    have hab:(ea==ia)=false:=by simpa using ha
    have HS1:=Jh (show valsP (m.take (k+1)) ia=X from by rw[HS.o,h2b,hab,HX.o];simp);go_quiet (fail)
    obtain⟨W6,hW6⟩:=exE (wo.drewN nq);rw[<-hW6];have hk6:Below wo.heap.size wo W6:=hW6▸bN (bR wo);have HB6:=Jh hk6;have HOl:=Jh (own_tk (T:=[]) HOX.o (Tk.below hk6) (by decide));clear hW6 hc1 hc2 hci h2 hk6;go_wp2_with fail;go_roundw;case rel=>exact⟨k+1,q,X,by omega,by go_num,HS1.o.symm,HQ.o,bT HBW.o HB6.o,HOl.o⟩
    case measure=>simp[intOf];omega
   have h2b:(ek==2)=false:=by simpa using h2
   have HS1:=Jh (show valsP (m.take (k+1)) ia=X from by rw[HS.o,h2b,HX.o];simp);go_quiet (fail)
   obtain⟨W6,hW6⟩:=exE (wo.drewN nq);rw[<-hW6];have hk6:Below wo.heap.size wo W6:=hW6▸bN (bR wo);have HB6:=Jh hk6;have HOl:=Jh (own_tk (T:=[]) HOX.o (Tk.below hk6) (by decide));clear hW6 hc1 hc2 hci h2 hk6;go_wp2_with fail;go_roundw;case rel=>exact⟨k+1,q,X,by omega,by go_num,HS1.o.symm,HQ.o,bT HBW.o HB6.o,HOl.o⟩
   case measure=>simp[intOf];omega
  have hlb:decide ((k:Int)<(n:Int))=false:=by simp;omega
  have hlb2:decide (k<n)=false:=by simpa using hlt
  have HF:=Jh (show X=valsP m ia from by rw[HX.o,List.take_of_length_le (by have:=HE.o.len;omega)]);go_wp2_with fail;go_ret;refine⟨⟨AX,cX,?_,?_,?_⟩,HBW.o⟩
  ·rw[<-HF.o,<-HQ.o];rfl
  ·rw[<-HF.o,<-HQ.o];exact HOX.o
  rw[<-HF.o,<-HQ.o];exact hqc
end Go.Proofs.YtnigadeohmlpiaaGreatDoor
namespace Go.Proofs.YtnigadeohmlpiaaGreatDoor
open Go.RowKit
attribute [local go_sem] Oper.semAt_some
theorem SS.tk{T:List TypeId}{w w':World}{base:Nat}{v:Value}{L:List (List Int)}(h:SS w base v L)(hk:Tk T w w')(h1:32∉T)(h2:3∉T):SS w' base v L:=by obtain⟨cs,ho,hc⟩:=h;exact⟨cs,own_tk ho hk h1,hc.tk hk h2⟩
theorem tellF_len:∀(f:Nat) (m:List Ev) (i:Nat),∀m'∈tellF f m i,m'.length=m.length
 |0,m,_,m',h=>by rw[tellF,List.mem_singleton] at h;rw[h]
 |f+1,m,i,m',h=>by
  rw[tellF] at h;split at h
  ·split at h
   ·obtain⟨v,_,hm⟩:=List.mem_flatMap.1 h;rw[tellF_len f _ _ m' hm,setN_len]
   exact tellF_len f m (i+1) m' h
  rw[List.mem_singleton.1 h]
theorem axR_short{f i:Nat}{m:List Ev}{R:List (List Int)}(hi:i+f=m.length)(hm:m.length<=6)(hR:∀z∈R,z.length<=1000000):∀z∈axR f m i R,z.length<=1000000:=by
 intro z hz;rcases(axR_mem f m i R z hi).1 hz with h|⟨m',h1,_,rfl⟩
 ·exact hR z h
 have h2:=tellF_len f m i m' h1;have h3:=loads_len m' m'.length;rw[List.take_length] at h3;omega
theorem axioms46_any(base n:Nat)(hn:n<=6)(f:Nat):∀(A:Option Addr) (c:Nat) (m:List Ev) (i:Nat) (v:Value) (R:List (List Int)) (w:World),IsEvs w A n c m->(∀e∈m,e.Ok)->i+f=n->base<=w.heap.size->SS w base v R->(∀z∈R,z.length<=1000000)->R.length+7^f<=1000000->
  Calls Tryz.prog 46 #[.slice A n c,.int .i64 i,v] w fun o w'=>(∃v',o=.returned v'/\SS w' base v' (axR f m i R))/\Below w.heap.size w w':=by
 induction f using Nat.strongRecOn with
 |ind f ih=>
  intro A c m i v R w he hok hif hbw hss hz hlen;obtain⟨i44,hi44,hy0,hy1,hy2⟩:=info_parts ev_info;obtain⟨i3,hi3,hz0,hz1,hz2⟩:=info_parts int_info;have IH:=Jh ih;have HE:=Jh he;have HOk:=Jh hok;have HBase:=Jh hbw;have HSS:=Jh hss;have HZ:=Jh hz;have HLen:=Jh hlen;clear ih he hok hbw hss hz hlen;go_enter Tryz.func46,Tryz.ntmps46;go_upto_region 2 with fail
  go_loopw [2,7] (fun v2 vj wr=>∃j:Nat,v2=v/\i<=j/\j<=n/\vj=.int .i64 j/\axR f m i R=axR (n-j) m j R/\Below w.heap.size w wr) (fun _ vj _=>n-(intOf vj).toNat);case atStart=>exact⟨i,rfl,Nat.le_refl _,by omega,rfl,by rw[show n-i=f by omega],bR w⟩
  case round=>
   obtain⟨j,rfl,hij,hjn,rfl,hax,hbw⟩:=hrel;obtain⟨wo,rfl⟩:=exE wr;have HAx:=Jh hax;have HBW:=Jh hbw;clear hax hbw;by_cases hlt:j<n
   ·have hlb:decide ((j:Int)<(n:Int))=true:=by simp;omega
    have hlb2:decide (j<n)=true:=by simpa using hlt
    have hjnI:(j:Int)<(n:Int):=by omega
    have hj0:decide ((j:Int)<0)=false:=by simp
    obtain⟨f',hf'⟩:∃f',n-j=f'+1:=⟨n-j-1,by omega⟩;have HF':=Jh hf';obtain⟨g,off,ev,rfl,hx,_,hc1,_,_⟩:=(HE.o.sees (Below.sees HBW.o)).at_ hlt;have HX:=Jh hx;obtain⟨ek,hek⟩:=exE (ev.k);rw[<-hek] at hc1;have HEK:=Jh hek;clear hx hek hf';by_cases h1:ek=1
    ·have h1b:(ek==1)=true:=by simpa using h1
     have HAL:=Jh (show axR f m i R=(valsP m ev.a).foldl (fun R v=>axR f' (setN m j v) (j+1) R) R from by rw[HAx.o,HF'.out,axR_load HX.o (HEK.o▸h1)]);have HVa:=Jh (values74_any (some ⟨g,off,none⟩) n c j m ev wo (HE.o.sees (Below.sees HBW.o)) hn HX.o);clear h1;go_wp2_with fail;refine HVa.o.mono ?_;rintro o w3 ⟨⟨Av,cv,rfl,hov,hcv⟩,hb3⟩;obtain⟨vs,hvs⟩:=exE (valsP m ev.a);rw[<-hvs] at hov hcv HAL⊢
     obtain⟨q,hq⟩:=exE (vs.length);rw[<-hq] at hov hcv⊢;have hq7:q<=7:=by have:=valsP_len m ev.a;have:=HE.o.len;rw[hq,hvs];omega
     have HVS:=Jh hvs;have HQ:=Jh hq;have HOV:=Jh (Row.of_own hov);have HB3:=Jh (bT HBW.o hb3);clear hvs hq hov hb3 hc1;go_upto_region 7 with fail
     go_loopw [2,9] (fun v2 vk wr=>∃(k:Nat) (R':List (List Int)),k<=q/\vk=.int .i64 k/\R'=(vs.take k).foldl (fun R v=>axR f' (setN m j v) (j+1) R) R/\R'.length<=R.length+k*7^f'/\(∀z∈R',z.length<=1000000)/\SS wr base v2 R'/\Below w3.heap.size w3 wr) (fun _ vk _=>q-(intOf vk).toNat);case atStart=>exact⟨0,R,Nat.zero_le _,rfl,rfl,by omega,HZ.o,HSS.o.below HB3.o,bR w3⟩
     case round=>
      obtain⟨k,R',hk,rfl,hR',hRl,hRz,hsr,hbk⟩:=hrel;obtain⟨wn,rfl⟩:=exE wr;have HR':=Jh hR';have HRl:=Jh hRl;have HRz:=Jh hRz;have HSR:=Jh hsr;have HBK:=Jh hbk;clear hR' hRl hRz hsr hbk;by_cases hlk:k<q
      ·have hkb:decide ((k:Int)<(q:Int))=true:=by simp;omega
       have hkb2:decide (k<q)=true:=by simpa using hlk
       have hkq:(k:Int)<(q:Int):=by omega
       have hk0:decide ((k:Int)<0)=false:=by simp
       have HEn:=Jh (HE.o.sees (Below.sees (bT HB3.o HBK.o)));go_upto_region 9 with fail
       go_upto_region 10 with(
        at_builtin
        refine wpList_append_rd _ rfl (.const (.slice none 0 0)) (.tmp 36) 22 rfl wn.heap.size 44 i44 _ 4 32 Tryz.underlying22 hi44 hy0 hy1 hy2 rfl (by decide) (.slice none 0 0) 0 [] rfl (World.ownsRow_nil _ _ _ _) (some ⟨g,off,none⟩) n c (evCells m) rfl HEn.o.row.rd (evCells_one _) (by unfold maxLen;omega) (by omega) (Nat.le_refl _) ?_;intro v5 w5 hown5 hg5;rw[Nat.zero_add,List.nil_append] at hown5
        have HB5:=Jh (show Below wn.heap.size wn w5 from(bR wn).grown hg5 (Nat.le_refl _) (fun r e=>by cases e));obtain⟨A5,c5,rfl,hc5,_⟩:=own_slice hown5;have HO5:=Jh hown5;clear hown5 hg5)
       obtain⟨g5,cc,e5,hg5,_⟩:=own_form HO5.o (by omega);injection e5 with e51 _ e53
       subst e51 e53;obtain⟨_,_,_,h3c⟩:=ev_at m j ev HX.o;have hcl:(evCells m).length=n*4:=by rw[evCells_len,HE.o.len]
       have g3:=HO5.o.cellAt (j*4+3) (by omega);rw[h3c] at g3;have hfz:=HO5.o.frozenAt (j*4+3);obtain⟨b7,o7,zv,rfl,hzv,hcz⟩:=(HOV.o.below (bT HBK.o HB5.o)).rd.int hlk;have HZV:=Jh hzv
       have HO6:=Jh (show(w5.setCell ⟨g5,j*4+3,none⟩ (.int .i64 zv)).ownsRow wn.heap.size 44 4 (.slice (some ⟨g5,0,none⟩) n c5) n (evCells (setN m j zv)) from by rw[setN_cells _ _ _ (by rw[HE.o.len];exact hlt)];exact(HO5.o.stored (j*4+3) (.int .i64 zv)).1);have HT6:=Jh (tk_stored (j:=j*4+3) (u:=.int .i64 zv) HO5.o)
       have HB6:=Jh (show Below wn.heap.size wn (w5.setCell ⟨g5,j*4+3,none⟩ (.int .i64 zv)) from bS HB5.o hg5);have HS6:=Jh ((HSR.o.below HB5.o).tk HT6.o (by decide) (by decide));clear hcl h3c hg5 hzv;go_upto_region 11 with fail
       obtain⟨W6,hW6⟩:=exE (w5.setCell ⟨g5,j*4+3,none⟩ (.int .i64 zv));rw[<-hW6] at HO6 HT6 HB6 HS6⊢;have HRec:=Jh (IH.o f' (by have:=HF'.out;omega) (some ⟨g5,0,none⟩) c5 (setN m j zv) (j+1) _ R' W6 ⟨by rw[setN_len];exact HE.o.len,hc5,44,by decide,Row.of_own HO6.o⟩ (fun e he=>by
        obtain⟨t,ht⟩:=List.getElem?_of_mem he;rw[setN_at] at ht;split at ht
        ·rename_i hjt;subst hjt;rw[HX.o] at ht;have hte:ev.tell zv=e:=Option.some.inj ht;have hev:=HOk.o ev (List.mem_of_getElem? HX.o);rw[<-hte];refine⟨hev.h,hev.k,hev.a,?_,fun hk3=>?_⟩
         ·have h1:=List.mem_of_getElem? HZV.o;rw[HVS.o] at h1;rcases valsP_mem.1 h1 with h2|⟨x,hx,_,_,h2⟩
          ·show I32 zv;rw[h2];exact i32_zero
          show I32 zv;rw[<-h2];exact(HOk.o x hx).n
         have h3:ev.k=3:=hk3;have h4:=HEK.o;have h5:ek=1:=by simpa using h1b
         omega
        ·exact HOk.o e (List.mem_of_getElem? ht)) (by have:=HF'.out;omega) (Nat.le_trans HBase.o (Nat.le_trans HB3.o.size (Nat.le_trans HBK.o.size HB6.o.size))) HS6.o HRz.o (by
        have h1:=HRl.o;have h2:=HLen.o;have h3:7^(f'+1)<=7^f:=Nat.pow_le_pow_right (by omega) (by have:=HF'.out;omega);rw[Nat.pow_succ] at h3;have h4:k*7^f'<=6*7^f':=Nat.mul_le_mul_right _ (by omega);omega))
       have HFd:=Jh (show(vs.take (k+1)).foldl (fun R v=>axR f' (setN m j v) (j+1) R) R=axR f' (setN m j zv) (j+1) R' from by rw[List.take_add_one,HZV.o,List.foldl_append,HR'.out];rfl);rw[show((j+1:Nat):Int)=(j:Int)+1 from by simp] at HRec;have hj1:IntKind.i64.wrap ((j:Int)+1)=(j:Int)+1:=IntWalk.i64_in _ (by omega);clear hW6 g3 hfz hcz;go_wp2_with fail;refine HRec.o.mono ?_;rintro o w7 ⟨⟨v7,rfl,hs7⟩,hb7⟩
       have HB7:=Jh (bT HB6.o hb7);have HS7:=Jh hs7;have HR7:=Jh (show(axR f' (setN m j zv) (j+1) R').length<=R.length+(k+1)*7^f'/\∀z∈axR f' (setN m j zv) (j+1) R',z.length<=1000000 from⟨by
        have h1:=axR_len hn f' (setN m j zv) (j+1) R' (by rw[setN_len];exact HE.o.len);have h2:=HRl.o;rw[Nat.succ_mul];omega,axR_short (by rw[setN_len,HE.o.len];have:=HF'.out;omega) (by rw[setN_len,HE.o.len];exact hn) HRz.o⟩)
       clear hs7 hb7;go_wp2_with fail;go_roundw;case rel=>exact⟨k+1,_,by omega,by go_num,HFd.o.symm,HR7.o.1,HR7.o.2,HS7.o,bT HBK.o HB7.o⟩
       case measure=>simp[intOf];omega
      have hkb:decide ((k:Int)<(q:Int))=false:=by simp;omega
      have hkb2:decide (k<q)=false:=by simpa using hlk
      have HFn:=Jh (show axR f m i R=R' from by rw[HAL.o,HR'.out,List.take_of_length_le (by have:=HQ.o;omega)]);go_wp2_with fail;go_ret;exact⟨⟨_,rfl,by rw[HFn.o];exact HSR.o⟩,bT HB3.o HBK.o⟩
    have h1b:(ek==1)=false:=by simpa using h1
    have HAS:=Jh (show axR f m i R=axR (n-(j+1)) m (j+1) R from by rw[HAx.o,HF'.out,axR_skip HX.o (HEK.o▸h1),show f'=n-(j+1) from by have:=HF'.out;omega]);clear h1;go_wp2_with fail;go_roundw;case rel=>exact⟨j+1,rfl,by omega,by omega,by go_num,HAS.o,HBW.o⟩
    case measure=>simp[intOf];omega
   have hlb:decide ((j:Int)<(n:Int))=false:=by simp;omega
   have hlb2:decide (j<n)=false:=by simpa using hlt
   have HA0:=Jh (show axR f m i R=axR 0 m j R from by rw[HAx.o,show n-j=0 by omega]);have HAl:=Jh (allowed25_any A n c m wo (HE.o.sees (Below.sees HBW.o)) (by omega) HOk.o);go_wp2_with fail;refine HAl.o.mono ?_;rintro o w3 ⟨⟨b,rfl,hb⟩,hb3⟩;have HB3:=Jh (bT HBW.o hb3);have HBb:=Jh hb;clear hb hb3;cases b with
   |false=>have HN:=Jh (show axR f m i R=R from by rw[HA0.o,axR,if_neg fun h=>?_];have:=HBb.o.2 h;cases this);go_wp2_with fail;go_ret;exact⟨⟨_,rfl,by rw[HN.o];exact HSS.o.below HB3.o⟩,HB3.o⟩
   |true=>
    have HY:=Jh (show axR f m i R=putP R (loadsOf m) from by rw[HA0.o,axR,if_pos (HBb.o.1 rfl)]);go_upto_region 18 with fail
    go_loopw [12,13] (fun vx vk wr=>∃(k q:Nat) (X:List Int),k<=n/\vk=.int .i64 k/\X=loadsOf (m.take k)/\q=X.length/\Below w3.heap.size w3 wr/\wr.ownsRow w3.heap.size 3 1 vx q (ints X)) (fun _ vk _=>n-(intOf vk).toNat);case atStart=>exact⟨0,0,[],Nat.zero_le _,rfl,rfl,rfl,bR w3,World.ownsRow_nil _ _ _ _⟩
    case round=>
     obtain⟨k,q,X,hk,rfl,hX,hq,hbk,hox⟩:=hrel;obtain⟨wn,rfl⟩:=exE wr;have hq6:q<=6:=by have:=loads_len m k;rw[hq,hX];omega
     have HX:=Jh hX;have HQ:=Jh hq;have HBK:=Jh hbk;have HOX:=Jh hox;obtain⟨AX,cX,rfl,hqc,_⟩:=own_slice hox;clear hX hq hbk hox;by_cases hlk:k<n
     ·have hkb:decide ((k:Int)<(n:Int))=true:=by simp;omega
      have hkb2:decide (k<n)=true:=by simpa using hlk
      have hkn:(k:Int)<(n:Int):=by omega
      have hk0:decide ((k:Int)<0)=false:=by simp
      obtain⟨g,off,ev,rfl,hx,_,hc1,_,hc3⟩:=(HE.o.sees (Below.sees (bT HB3.o HBK.o))).at_ hlk;have HS:=Jh (loads_succ hx);obtain⟨ek,hek⟩:=exE (ev.k);obtain⟨en,hen⟩:=exE (ev.n);rw[<-hek] at hc1 HS;rw[<-hen] at hc3 HS;clear hx hek hen;by_cases h1:ek=1
      ·have h1b:(ek==1)=true:=by simpa using h1
       have HS1:=Jh (show loadsOf (m.take (k+1))=X++[en] from by rw[HS.o,if_pos h1,HX.o]);have HNw:=Jh (heap_alloc_new wn (.cells #[.int .i64 en] 3));have kA:Below wn.heap.size wn (wn.alloc (.cells #[.int .i64 en] 3)):=bA (bR wn);have HOl:=Jh (own_tk (T:=[]) HOX.o (Tk.below kA) (by decide));have HBl:=Jh (bT HBK.o kA);clear h1 kA;go_upto_region 21 with fail
       go_wp2_with (
        at_builtin
        refine wpList_append_rd _ rfl (.tmp 69) (.tmp 75) 32 rfl w3.heap.size 3 i3 _ 1 8 Tryz.underlying32 hi3 hz0 hz1 hz2 rfl (by decide) (.slice AX q cX) q (ints X) rfl HOl.o (some ⟨wn.heap.size,0,none⟩) 1 1 [.int .i64 en] rfl ⟨rfl,fun _=>⟨wn.heap.size,0,rfl,blk_lt HNw.o,fun j u hu=>one_cell HNw.o hu⟩⟩ (by simp[Value.oneCell']) (by unfold maxLen;omega) (by omega) HBl.o.size ?_;intro v7 w7 hown7 hg7
        obtain⟨A7,c7,rfl,_,_⟩:=own_slice hown7;have HO7:=Jh (show w7.ownsRow w3.heap.size 3 1 (.slice A7 (q+1) c7) (q+1) (ints (X++[en])) from by rw[show ints (X++[en])=ints X++[.int .i64 en] from by simp[ints]];exact hown7);have HB7:=Jh (HBl.o.grown hg7 HBl.o.size (fun r e=>(HOl.o.lt r e).1));clear hown7 hg7 hc1 hc3)
       go_roundw;case rel=>exact⟨k+1,q+1,X++[en],by omega,by go_num,HS1.o.symm,by rw[List.length_append,<-HQ.o];rfl,HB7.o,HO7.o⟩
       case measure=>simp[intOf];omega
      have h1b:(ek==1)=false:=by simpa using h1
      have HS1:=Jh (show loadsOf (m.take (k+1))=X from by rw[HS.o,if_neg h1,List.append_nil,HX.o]);clear h1;go_wp2_with fail;go_roundw;case rel=>exact⟨k+1,q,X,by omega,by go_num,HS1.o.symm,HQ.o,HBK.o,HOX.o⟩
      case measure=>simp[intOf];omega
     have hkb:decide ((k:Int)<(n:Int))=false:=by simp;omega
     have hkb2:decide (k<n)=false:=by simpa using hlk
     have HF:=Jh (show X=loadsOf m from by rw[HX.o,List.take_of_length_le (by have:=HE.o.len;omega)]);have HPt:=Jh (put42_any base _ R AX q cX X wn (HSS.o.below (bT HB3.o HBK.o)) (by have h1:=Nat.le_trans (Nat.le_add_right R.length (7^f)) HLen.o;omega) (Nat.le_trans HBase.o (Nat.le_trans HB3.o.size HBK.o.size)) HZ.o (Row.of_own HOX.o) HQ.o hqc (by omega));go_wp2_with fail;refine HPt.o.mono ?_
     rintro o w9 ⟨⟨v9,rfl,hs9⟩,hb9⟩;have HB9:=Jh (bT HB3.o (bT HBK.o hb9));have HS9:=Jh hs9;clear hs9 hb9;go_wp2_with fail;go_ret;exact⟨⟨v9,rfl,by rw[HY.o,<-HF.o];exact HS9.o⟩,HB9.o⟩
def PlayedIs(l:List Ev)(base:Nat)(o:Ending)(w:World):Prop:=∃v R,o=.returned v/\SS w base v R/\Rising R/\∀z,z∈R↔∃xs,playP l xs=some z
theorem axioms22_any(A:Option Addr)(n c:Nat)(l:List Ev)(w:World)(he:IsEvs w A n c l)(hl:Prog l):
  Calls Tryz.prog 22 #[.slice A n c] w fun o w'=>PlayedIs l w.heap.size o w'/\Below w.heap.size w w':=by
 have hn:n<=6:=he.len▸hl.few;have HR:=Jh (right18_any A n c l w he (by omega));have HE:=Jh he;have HP:=Jh hl;clear he hl;go_enter Tryz.func22,Tryz.ntmps22;go_wp2_with fail;refine HR.o.mono ?_;rintro o w2 ⟨⟨b,rfl,hb⟩,hb2⟩;have HB:=Jh hb2;obtain rfl:b=true:=hb.2 HP.o
 have HA:=Jh (axioms46_any w.heap.size n hn n A c l 0 (.slice none 0 0) [] w2 (HE.o.sees (Below.sees hb2)) HP.o.ok (by omega) hb2.size ⟨[],World.ownsRow_nil _ _ _ _,rfl,fun k z h=>by simp at h⟩ (fun z h=>by cases h) (by
  have h1:7^n<=7^6:=Nat.pow_le_pow_right (by omega) hn;have h2:(7:Nat)^6=117649:=by decide
  rw[h2] at h1;simp;omega))
 rw[show((0:Nat):Int)=0 from rfl] at HA;clear hb hb2;go_wp2_with fail;refine HA.o.mono ?_;rintro o w3 ⟨⟨v,rfl,hs⟩,hb3⟩;have HB3:=Jh (bT HB.o hb3);have HS:=Jh (show PlayedIs l w.heap.size (.returned v) w3 from⟨v,_,rfl,hs,axR_rising n l 0 [] List.Pairwise.nil,fun z=>by have h:=axR_plays HP.o z;rwa[HE.o.len] at h⟩);clear hs hb3;go_wp2_with fail;go_ret;exact⟨HS.o,HB3.o⟩
end Go.Proofs.YtnigadeohmlpiaaGreatDoor
