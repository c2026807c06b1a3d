/- Contracts and words: what the axioms let be a memory plays; the outcomes of both are the same; the outcomes that a memory plays are those that the axioms let be. No condition of ours. -/
import Derived.Test.YtnigadeohmlpiaaGreatDoorC25
set_option maxHeartbeats 32000000
set_option maxRecDepth 100000
namespace Go.Proofs.YtnigadeohmlpiaaGreatDoor
theorem run_append{l:List Ev}{s s1:St}{xs ys:List Pk}(h:s.run l xs=some s1):s.run l (xs++ys)=s1.run l ys:=by
 induction xs generalizing s with
 |nil=>obtain rfl:s=s1:=Option.some.inj h;rfl
 |cons x xs ih=>
  obtain⟨s2,h1,h2⟩:=Option.bind_eq_some_iff.1 h;show(s.next l x).bind (fun s'=>s'.run l (xs++ys))=_
  rw[h1];exact ih h2
theorem next_of_due{l:List Ev}{s:St}{h:Int}{i:Nat}{e:Ev}(hd:s.due l h=some i)(he:l[i]?=some e):s.next l ⟨h,false,0⟩=s.step e i:=by
 unfold St.next
 rw[if_neg (by simp)];dsimp only;rw[hd];dsimp only;rw[if_pos rfl,he];rfl
theorem next_of_drain{l:List Ev}{s:St}{hN k:Nat}{M':Mm}(hh:hN<4)(hd:s.m.drain hN k=some M'):s.next l ⟨hN,true,k⟩=some ⟨M',s.done,s.told⟩:=by
 unfold St.next
 rw[if_pos rfl];unfold Mm.drainZ';dsimp only;rw[if_pos ⟨by omega,by omega,by omega⟩,show((hN:Int)).toNat=hN from rfl,show((k:Int)).toNat=k from rfl,hd];rfl
section
variable {m : List Ev}
theorem inv_first(m:List Ev):Inv m (St.first m.length) AS.zero:=by
 have hdn:∀i,i<m.length->(St.first m.length).dn i=false:=fun i hi=>by
  unfold St.dn St.first
  simp[List.getD_eq_getElem?_getD,hi]
 have hlt:∀{i:Nat} {e:Ev},m[i]?=some e->i<m.length:=fun h=>(List.getElem?_eq_some_iff.1 h).1;refine⟨by simp[St.first],by simp[St.first],rfl,rfl,fun i j ei ej hi hj hlt' hh hd=>?_,fun i e he h1=>?_,fun i e he h2 hb=>?_,fun i j ei ej hi hj _ _ _ _ hd=>?_,fun h hh=>?_,fun a ha=>?_⟩
 ·rw[hdn i (hlt hi)] at hd;cases hd
 ·rw[hdn i (hlt he)];simp[AS.zero]
 ·simp[AS.zero] at hb
 ·rw[hdn i (hlt hi)] at hd;cases hd
 ·have h1:bufL m (St.first m.length).dn AS.zero.p h m.length=bufL m (St.first m.length).dn AS.zero.p h 0:=bufL_short (Nat.zero_le _) fun j _ hj=>bufF_none fun e _ _ _ hd=>by rw[hdn j hj] at hd;cases hd
  rw[h1]
  match h,hh with
  |0,_|1,_|2,_|3,_=>rfl
 match a,ha with
 |0,_|1,_|2,_|3,_=>rfl
theorem Inv.catch(hm:EvsOk m)(h:Int){t:AS}:∀(i:Nat) {s:St},Inv m s t->i<=m.length->
  (∀k x,k<i->m[k]?=some x->x.h=h->(x.k=1->t.p.testBit k=true)/\(x.k=3->∀j y,j<k->m[j]?=some y->y.h=h->y.k=2->t.p.testBit j=true))->
  ∃xs s1,s.run m xs=some s1/\Inv m s1 t/\(∀k x,k<i->m[k]?=some x->x.h=h->s1.dn k=true)/\s1.told=s.told/\∀i e,m[i]?=some e->e.k=1->s1.dn i=s.dn i:=by
 intro i;induction i with
 |zero=>intro s I _ _;exact⟨[],s,rfl,I,fun k x hk=>absurd hk (by omega),rfl,fun _ _ _ _=>rfl⟩
 |succ i ih=>
  intro s I hi H;obtain⟨xs,s1,hr,I1,hd1,ht1,hl1⟩:=ih I (by omega) fun k x hk=>H k x (by omega);have him:i<m.length:=by omega
  have he:m[i]?=some m[i]:=List.getElem?_eq_getElem him;obtain⟨e,hee⟩:=exE (m[i]);rw[<-hee] at he;by_cases hdo:s1.dn i=true\/e.h≠h
  ·refine⟨xs,s1,hr,I1,fun k x hk hx hh=>?_,ht1,hl1⟩;rcases Nat.lt_or_ge k i with h1|h1
   ·exact hd1 k x h1 hx hh
   obtain rfl:k=i:=by omega
   rw[he] at hx;obtain rfl:=Option.some.inj hx;rcases hdo with h2|h2
   ·exact h2
   exact absurd hh h2
  have hdn:s1.dn i=false:=by
   cases hc:s1.dn i with
   |false=>rfl
   |true=>exact absurd (.inl hc) hdo
  have hh:e.h=h:=Classical.byContradiction fun hc=>hdo (.inr hc);have hok:=hm.at_ he;have hdue:s1.due m e.h=some i:=St.due_iff.2 ⟨e,he,rfl,hdn,fun j ej hj hx hxh=>hd1 j ej hj hx (hxh.trans hh)⟩;obtain⟨H1,H3⟩:=H i e (by omega) he hh;have h1:e.k≠1:=fun h1=>by rw[I1.ld i e he h1,H1 h1] at hdn;cases hdn
  have hil:i<s1.done.length:=by rw[I1.dl];exact him
  have key:∀(s2:St),s1.step e i=some s2->s2.done=s1.done.set i true->s2.told=s1.told->Inv m s2 t->∃xs s1,s.run m xs=some s1/\Inv m s1 t/\(∀k x,k<i+1->m[k]?=some x->x.h=h->s1.dn k=true)/\s1.told=s.told/\∀i e,m[i]?=some e->e.k=1->s1.dn i=s.dn i:=by
   intro s2 hst hdone htold I2;refine⟨xs++[⟨e.h,false,0⟩],s2,?_,I2,fun k x hk hx hxh=>?_,htold.trans ht1,fun j x hx hk=>?_⟩
   ·rw[run_append hr];show(s1.next m ⟨e.h,false,0⟩).bind (fun s'=>some s')=some s2
    rw[next_of_due hdue he,hst];rfl
   ·unfold St.dn;rw[hdone,dn_set _ hil];rcases Nat.lt_or_ge k i with h2|h2
    ·have:=hd1 k x h2 hx hxh;unfold St.dn at this;rw[this];simp
    simp[show k=i by omega]
   rw[<-hl1 j x hx hk];unfold St.dn;rw[hdone,dn_set _ hil];have:j≠i:=fun e2=>by subst e2;rw[he] at hx;obtain rfl:=Option.some.inj hx;exact h1 hk
   simp[this]
  by_cases h2:e.k=2
  ·refine key ⟨s1.m.store e.h.toNat e.a e.n,s1.done.set i true,s1.told⟩ ?_ rfl rfl (I1.do_store he hok h2 hdue);unfold St.step;rw[if_neg h1,if_pos h2]
  have h3:e.k=3:=by have:=hok.k;omega
  have hem:s1.m.pend.getD e.h.toNat []=[]:=by
   rw[I1.buf_due he hok hdn];cases hb:bufL m s1.dn t.p e.h i with
   |nil=>rfl
   |cons y ys=>
    have hy:y∈bufL m s1.dn t.p e.h i:=by rw[hb];exact List.mem_cons_self
    obtain⟨j,hj,hbj⟩:=bufL_mem.1 hy;obtain⟨x,hx,hxh,hx2,_,hp,_⟩:=bufF_some hbj;rw[H3 h3 j x hj hx (hxh.trans hh) hx2] at hp;cases hp
  refine key ⟨s1.m,s1.done.set i true,s1.told⟩ ?_ rfl rfl (I1.do_fence he hok h3 hdue hem);unfold St.step;rw[if_neg h1,if_neg h2,if_pos hem]
theorem Inv.catch_all(hm:EvsOk m){t:AS}(hall:∀i e,m[i]?=some e->e.acc=true->t.p.testBit i=true):∀(h:Nat) {s:St},Inv m s t->
  ∃xs s1,s.run m xs=some s1/\Inv m s1 t/\(∀k x,m[k]?=some x->x.h<(h:Int)->s1.dn k=true)/\s1.told=s.told:=by
 intro h;induction h with
 |zero=>intro s I;exact⟨[],s,rfl,I,fun k x hx hlt=>absurd (hm.at_ hx).h.1 (by omega),rfl⟩
 |succ h ih=>
  intro s I;obtain⟨xs,s1,hr,I1,hd1,ht1⟩:=ih I;obtain⟨ys,s2,hr2,I2,hd2,ht2,_⟩:=I1.catch hm (h:Int) m.length (Nat.le_refl _) fun k x _ hx _=>⟨fun h1=>hall k x hx (acc_of (.inl h1)),fun _ j y _ hy _ h2=>hall j y hy (acc_of (.inr h2))⟩;refine⟨xs++ys,s2,by rw[run_append hr];exact hr2,I2,fun k x hx hlt=>?_,ht2.trans ht1⟩;by_cases hc:x.h<h
  ·exact(run_told hr2 (hd1 k x hx hc)).1
  exact hd2 k x (List.getElem?_eq_some_iff.1 hx).1 hx (by omega)
theorem canEnd_play(hm:EvsOk m){t:AS}(hc:CanEnd m t):∀{s:St},Inv m s t->(∀i e,m[i]?=some e->e.k=1->s.dn i=true->s.told.getD i 0=e.n)->
  ∃xs s',s.run m xs=some s'/\(∀i,s'.dn i=true)/\s'.told.length=m.length/\∀i e,m[i]?=some e->e.k=1->s'.told.getD i 0=e.n:=by
 induction hc with
 |done t hall=>
  intro s I htl;obtain⟨xs,s1,hr,I1,hd,ht⟩:=I.catch_all hm hall 4;refine⟨xs,s1,hr,fun i=>?_,I1.tl,fun i e he h1=>?_⟩
  ·rcases Nat.lt_or_ge i m.length with h1|h1
   ·exact hd i m[i] (List.getElem?_eq_getElem h1) (by have:=(hm.at_ (List.getElem?_eq_getElem h1)).h;omega)
   unfold St.dn;rw[List.getD_eq_getElem?_getD,List.getElem?_eq_none (by rw[I1.dl];exact h1)];rfl
  rw[ht];refine htl i e he h1 ?_;rw[I.ld i e he h1];exact hall i e he (acc_of (.inl h1))
 |step t t' i e he ha hp hf hc' ih=>
  intro s I htl;obtain⟨hb,hf1,hf2⟩:=free_parts hf;have hb:=free_iff.1 hb;have him:=(List.getElem?_eq_some_iff.1 he).1;have hok:=hm.at_ he;obtain⟨xs,s1,hr,I1,hd1,ht1,hl1⟩:=I.catch hm e.h i (by omega) fun k x hk hx hh=>by
   constructor
   ·intro h1;cases hpk:t.p.testBit k with
    |true=>rfl
    |false=>exact absurd h1 (hb k x hk hx (acc_of (.inl h1)) hpk hh).1
   intro h3 j y hj hy hyh h2;cases hpj:t.p.testBit j with
   |true=>rfl
   |false=>exact absurd hh ((hb j y (by omega) hy (acc_of (.inr h2)) hpj hyh).2.2 k x (by omega) hk hx h3)
  have htl1:∀i e,m[i]?=some e->e.k=1->s1.dn i=true->s1.told.getD i 0=e.n:=fun j x hx hk hd=>by rw[ht1];exact htl j x hx hk (by rw[<-hl1 j x hx hk];exact hd)
  rcases of_acc ha with h1|h2
  ·obtain⟨hv,rfl⟩:=hf1 h1;have hdn:s1.dn i=false:=by rw[I1.ld i e he h1];exact hp
   have hdue:s1.due m e.h=some i:=St.due_iff.2 ⟨e,he,rfl,hdn,fun j ej hj hx hxh=>hd1 j ej hj hx hxh⟩;have hil:i<s1.done.length:=by rw[I1.dl];exact him
   have hit:i<s1.told.length:=by rw[I1.tl];exact him
   have hst:s1.step e i=some ⟨s1.m,s1.done.set i true,s1.told.set i (s1.m.load e.h.toNat e.a.toNat)⟩:=by unfold St.step;rw[if_pos h1]
   obtain⟨ys,s',hr2,hd2,hl2,ht2⟩:=ih (I1.do_load he h1 hdue (s1.m.load e.h.toNat e.a.toNat)) fun j x hx hk hd=>by
    show(s1.told.set i (s1.m.load e.h.toNat e.a.toNat)).getD j 0=_;rw[List.getD_eq_getElem?_getD,List.getElem?_set];by_cases hij:i=j
    ·subst hij;rw[he] at hx;obtain rfl:=Option.some.inj hx;rw[if_pos rfl,if_pos hit,I1.load_eq he hok hdue];exact hv
    rw[if_neg hij,<-List.getD_eq_getElem?_getD];refine htl1 j x hx hk ?_;rw[dn_step hil] at hd;simpa[show¬j=i from fun e=>hij e.symm] using hd
   refine⟨xs++⟨e.h,false,0⟩::ys,s',?_,hd2,hl2,ht2⟩;rw[run_append hr];show(s1.next m ⟨e.h,false,0⟩).bind (fun s'=>s'.run m ys)=some s'
   rw[next_of_due hdue he,hst];exact hr2
  have h21:e.k≠1:=by omega
  obtain rfl:=hf2 h21;obtain⟨xs2,s2,hr2,I2,hdn2,htl2⟩:∃xs2 s2,s.run m xs2=some s2/\Inv m s2 t/\s2.dn i=true/\∀i e,m[i]?=some e->e.k=1->s2.dn i=true->s2.told.getD i 0=e.n:=by
   cases hdn:s1.dn i with
   |true=>exact⟨xs,s1,hr,I1,hdn,htl1⟩
   |false=>
    have hdue:s1.due m e.h=some i:=St.due_iff.2 ⟨e,he,rfl,hdn,fun j ej hj hx hxh=>hd1 j ej hj hx hxh⟩;have hil:i<s1.done.length:=by rw[I1.dl];exact him
    refine⟨xs++[⟨e.h,false,0⟩],⟨s1.m.store e.h.toNat e.a e.n,s1.done.set i true,s1.told⟩,?_,I1.do_store he hok h2 hdue,by rw[dn_step hil];simp,fun j x hx hk hd=>?_⟩
    ·rw[run_append hr];show(s1.next m ⟨e.h,false,0⟩).bind (fun s'=>some s')=_
     rw[next_of_due hdue he];unfold St.step;rw[if_neg h21,if_pos h2];rfl
    refine htl1 j x hx hk ?_;rw[dn_step hil] at hd;have hji:¬j=i:=fun e2=>by subst e2;rw[he] at hx;obtain rfl:=Option.some.inj hx;omega
    simpa[hji] using hd
  obtain⟨hs1,hs2⟩:=I2.stands he hok h2 hdn2 hp;have hno:((bufL m s2.dn t.p e.h i).any fun y=>y.1==e.a)=false:=(Inv.ahead I2).2 fun k x hk hx hx2 _ hpk hh ha=>(hb k x hk hx (acc_of (.inr hx2)) hpk hh).2.1 ⟨h2,ha⟩
  have hdr:s2.m.drain e.h.toNat (bufL m s2.dn t.p e.h i).length=some ⟨s2.m.words.set e.a.toNat e.n,s2.m.pend.set e.h.toNat ((s2.m.pend.getD e.h.toNat []).eraseIdx (bufL m s2.dn t.p e.h i).length)⟩:=by unfold Mm.drain;rw[hs1];dsimp only;rw[hs2,hno,if_neg (by simp)]
  obtain⟨ys,s',hr3,hd3,hl3,ht3⟩:=ih (I2.do_drain he hok h2 hdn2 hp) htl2;refine⟨xs2++⟨(e.h.toNat:Int),true,((bufL m s2.dn t.p e.h i).length:Int)⟩::ys,s',?_,hd3,hl3,ht3⟩;rw[run_append hr2];show(s2.next m _).bind (fun s'=>s'.run m ys)=some s'
  rw[next_of_drain (by have:=hok.h;omega) hdr];exact hr3
end
end Go.Proofs.YtnigadeohmlpiaaGreatDoor
namespace Go.Proofs.YtnigadeohmlpiaaGreatDoor
theorem tell_h(e:Ev)(z:Int):(e.tell z).h=e.h:=rfl
theorem tell_k(e:Ev)(z:Int):(e.tell z).k=e.k:=rfl
theorem tell_a(e:Ev)(z:Int):(e.tell z).a=e.a:=rfl
section
variable {l m : List Ev}
theorem Told'.none(h:Told' l m){i:Nat}(hi:l[i]?=none):m[i]?=none:=by rw[List.getElem?_eq_none_iff] at hi⊢;rw[h.len];exact hi
theorem Told'.back(h:Told' l m){i:Nat}{x:Ev}(hx:m[i]?=some x):∃e,l[i]?=some e/\x=e.tell x.n/\(e.k≠1->x.n=e.n):=by
 cases hl:l[i]?with
 |none=>rw[h.none hl] at hx;cases hx
 |some e=>obtain⟨z,h1,h2,_⟩:=h.at_ i e hl;rw[hx] at h1;obtain rfl:=Option.some.inj h1;exact⟨e,rfl,rfl,h2⟩
theorem step_told{s:St}{e:Ev}{z:Int}(h:e.k≠1->z=e.n)(i:Nat):s.step (e.tell z) i=s.step e i:=by
 unfold St.step;rw[tell_k,tell_h,tell_a];by_cases h1:e.k=1
 ·rw[if_pos h1,if_pos h1]
 rw[if_neg h1,if_neg h1,show(e.tell z).n=e.n from h h1]
theorem due_told(h:Told' l m)(s:St)(x:Int):s.due m x=s.due l x:=by
 unfold St.due;rw[h.len];congr 1
 funext i
 unfold St.at_;cases hl:l[i]?with
 |none=>rw[h.none hl]
 |some e=>obtain⟨z,h1,_⟩:=h.at_ i e hl;rw[h1];rfl
theorem next_same(h:Told' l m)(s:St)(x:Pk):s.next m x=s.next l x:=by
 unfold St.next
 split
 ·rfl
 rw[due_told h];cases hd:s.due l x.h with
 |none=>rfl
 |some i=>
  dsimp only;cases hl:l[i]?with
  |none=>rw[h.none hl]
  |some e=>
   obtain⟨z,h1,h2,_⟩:=h.at_ i e hl;rw[h1];split
   ·exact step_told h2 i
   rfl
theorem run_same(h:Told' l m):∀(xs:List Pk) (s:St),s.run m xs=s.run l xs
 |[],_=>rfl
 |x::xs,s=>by
  show(s.next m x).bind (fun s'=>s'.run m xs)=(s.next l x).bind (fun s'=>s'.run l xs)
  rw[next_same h];cases s.next l x with
  |none=>rfl
  |some s'=>exact run_same h xs s'
def toldL(l:List Ev)(T:List Int):List Int:=(l.zip T).filterMap fun x=>if x.1.k=1 then some x.2 else none
theorem toldL_same:∀{l m:List Ev} {T:List Int},Told' l m->toldL m T=toldL l T:=by
 intro l;induction l with
 |nil=>
  intro m T h;have:=h.len;cases m with
  |nil=>rfl
  |cons=>simp at this
 |cons e l ih=>
  intro m T h;cases m with
  |nil=>have:=h.len;simp at this
  |cons x m=>
   have h':Told' l m:=⟨by have:=h.len;simpa using this,fun i e' he=>h.at_ (i+1) e' he⟩;obtain⟨z,hz,_⟩:=h.at_ 0 e rfl;have hz:x=e.tell z:=by simpa using hz
   cases T with
   |nil=>rfl
   |cons t T=>unfold toldL;rw[List.zip_cons_cons,List.zip_cons_cons,List.filterMap_cons,List.filterMap_cons];have:=ih (T:=T) h';unfold toldL at this;rw[this,hz];rfl
theorem toldL_loads:∀{m:List Ev} {T:List Int},T.length=m.length->((∀i e,m[i]?=some e->e.k=1->T.getD i 0=e.n)↔toldL m T=loadsOf m):=by
 intro m;induction m with
 |nil=>intro T _;exact⟨fun _=>by simp[toldL,loadsOf],fun _ i e h=>by simp at h⟩
 |cons x m ih=>
  intro T hT;cases T with
  |nil=>simp at hT
  |cons t T=>
   have hT:T.length=m.length:=by simpa using hT
   have hc1:toldL (x::m) (t::T)=(if x.k=1 then[t] else[])++toldL m T:=by unfold toldL;rw[List.zip_cons_cons,List.filterMap_cons];by_cases h1:x.k=1<;>simp[h1]
   have hc2:loadsOf (x::m)=(if x.k=1 then[x.n] else[])++loadsOf m:=by unfold loadsOf;rw[List.filterMap_cons];by_cases h1:x.k=1<;>simp[h1]
   rw[hc1,hc2];constructor
   ·intro H;have h1:=(ih hT).1 fun i e he hk=>H (i+1) e he hk;rw[h1];by_cases hx:x.k=1
    ·have:=H 0 x rfl hx;simp at this;simp[hx,this]
    simp[hx]
   intro H;have h9:toldL m T=loadsOf m/\(x.k=1->t=x.n):=by
    by_cases hx:x.k=1
    ·simp[hx] at H;exact⟨H.2,fun _=>H.1⟩
    simp[hx] at H;exact⟨H,fun h=>absurd h hx⟩
   intro i e he hk;cases i with
   |zero=>obtain rfl:x=e:=Option.some.inj he;exact h9.2 hk
   |succ i=>exact(ih hT).2 h9.1 i e he hk
theorem outcome_eq{s:St}(hd:∀i,s.dn i=true):s.outcome l=some (toldL l s.told):=by
 unfold St.outcome;rw[if_pos]
 ·rfl
 rw[List.all_eq_true];intro b hb;obtain⟨i,hi⟩:=List.getElem?_of_mem hb;have:=hd i;unfold St.dn at this;rw[List.getD_eq_getElem?_getD,hi] at this;exact this
theorem outcome_parts{s:St}{z:List Int}(h:s.outcome l=some z):(∀i,s.dn i=true)/\z=toldL l s.told:=by
 unfold St.outcome at h;split at h
 ·rename_i hall;refine⟨fun i=>?_,(Option.some.inj h).symm⟩;unfold St.dn;rw[List.getD_eq_getElem?_getD];cases hi:s.done[i]?with
  |none=>rfl
  |some b=>exact List.all_eq_true.1 hall b (List.mem_of_getElem? hi)
 cases h
theorem run_lens{l:List Ev}(hl:Prog l):∀{xs:List Pk} {s s':St},s.Ok l.length->s.run l xs=some s'->s'.Ok l.length
 |[],s,s',hs,h=>by obtain rfl:s=s':=Option.some.inj h;exact hs
 |x::xs,s,s',hs,h=>by obtain⟨s1,h1,h2⟩:=Option.bind_eq_some_iff.1 h;exact run_lens hl (St.next_ok hl hs h1) h2
theorem canEnd_iff(hl:Prog l)(ht:Told' l m):CanEnd m AS.zero↔∃xs,playP l xs=some (loadsOf m):=by
 have hm:EvsOk m:=told_ok ht hl.ok;constructor
 ·intro hc;obtain⟨xs,s',hr,hd,hlen,htl⟩:=canEnd_play hm hc (inv_first m) (fun i e he _ hd=>by
   have hi:=(List.getElem?_eq_some_iff.1 he).1;unfold St.dn St.first at hd
   simp[List.getD_eq_getElem?_getD,hi] at hd)
  rw[run_same ht,ht.len] at hr;refine⟨xs,?_⟩;unfold playP;rw[hr];show s'.outcome l=_;rw[outcome_eq hd,<-toldL_same ht,(toldL_loads hlen).1 htl]
 rintro⟨xs,hp⟩;unfold playP at hp;obtain⟨s',hr,ho⟩:=Option.bind_eq_some_iff.1 hp;obtain⟨hd,hz⟩:=outcome_parts ho;have hok:=run_lens hl (St.first_ok l.length) hr;rw[<-run_same ht,<-ht.len] at hr;refine play_canEnd hm xs _ s' _ (inv_first m) hr hd ((toldL_loads (by rw[hok.t,ht.len])).2 ?_);rw[toldL_same ht,<-hz]
def tellT(l:List Ev)(T:List Int):List Ev:=(l.zip T).map fun x=>if x.1.k=1 then x.1.tell x.2 else x.1
theorem tellT_at{T:List Int}(hT:T.length=l.length){i:Nat}{e:Ev}(he:l[i]?=some e):(tellT l T)[i]?=some (if e.k=1 then e.tell (T.getD i 0) else e):=by
 have hi:=(List.getElem?_eq_some_iff.1 he).1;unfold tellT;have hT':T[i]?=some (T.getD i 0):=by rw[List.getD_eq_getElem?_getD,List.getElem?_eq_getElem (by omega)];rfl
 rw[List.getElem?_map,List.getElem?_zip_eq_some.2 (show l[i]?=some (e,T.getD i 0).1/\T[i]?=some (e,T.getD i 0).2 from⟨he,hT'⟩)];rfl
theorem tellT_told{T:List Int}(hT:T.length=l.length)(hi:∀z∈T,I32 z):Told' l (tellT l T):=by
 refine⟨by simp[tellT,hT],fun i e he=>?_⟩;rw[tellT_at hT he];have hil:=(List.getElem?_eq_some_iff.1 he).1;by_cases h1:e.k=1
 ·rw[if_pos h1];refine⟨_,rfl,fun h=>absurd h1 h,fun _=>?_⟩;rw[List.getD_eq_getElem?_getD,List.getElem?_eq_getElem (by omega)];exact hi _ (List.getElem_mem _)
 rw[if_neg h1];exact⟨e.n,rfl,fun _=>rfl,id⟩
theorem tellT_loads{T:List Int}:loadsOf (tellT l T)=toldL l T:=by
 unfold loadsOf tellT toldL;rw[List.filterMap_map];congr 1
 funext x
 show(if(if x.1.k=1 then x.1.tell x.2 else x.1).k=1 then some (if x.1.k=1 then x.1.tell x.2 else x.1).n else none)=_
 by_cases h1:x.1.k=1
 ·simp only[if_pos h1,tell_k];rfl
 simp only[if_neg h1]
def Vals(m:List Ev)(a z:Int):Prop:=z=0\/∃x∈m,x.k=2/\x.a=a/\x.n=z
theorem pending_vals{p:Nat}{e:Ev}{z:Int}:∀{k:Nat},pendingP m p e k=some z->Vals m e.a z
 |0,h=>by cases h
 |k+1,h=>by
  rw[pendingP] at h;cases hx:m[k]?with
  |none=>rw[hx] at h;exact pending_vals h
  |some x=>
   rw[hx] at h;dsimp only at h;split at h
   ·rename_i hw;injection h with h
    unfold Ev.waits at hw;simp only[Bool.and_eq_true,beq_iff_eq] at hw;exact .inr ⟨x,List.mem_of_getElem? hx,hw.1.1.2,hw.1.2,h⟩
   exact pending_vals h
theorem canEnd_vals(hm:EvsOk m){t:AS}(hc:CanEnd m t):(∀a:Nat,a<4->Vals m a (t.wd a))->∀i e,m[i]?=some e->e.k=1->t.p.testBit i=false->Vals m e.a e.n:=by
 induction hc with
 |done t hall=>intro _ i e he h1 hp;rw[hall i e he (acc_of (.inl h1))] at hp;cases hp
 |step t t' i e he ha hp hf hc' ih=>
  intro hw;obtain⟨_,hf1,hf2⟩:=free_parts hf;have hok:=hm.at_ he;have hea:=hok.a;have hw':∀a:Nat,a<4->Vals m a (t'.wd a):=by
   intro a ha4;rcases of_acc ha with h1|h2
   ·rw[(hf1 h1).2];exact hw a ha4
   rw[hf2 (by omega),wd_mark,wd_setw _ _ (by omega) _ ha4];split
   ·rename_i h3;exact .inr ⟨e,List.mem_of_getElem? he,h2,by omega,rfl⟩
   exact hw a ha4
  intro j x hx hx1 hxp;by_cases hij:i=j
  ·subst hij;rw[he] at hx;obtain rfl:=Option.some.inj hx;obtain⟨hv,_⟩:=hf1 hx1;rw[<-hv];cases hpd:pendingP m t.p e i with
   |some z=>exact pending_vals hpd
   |none=>have:=hw e.a.toNat (by omega);rw[Int.toNat_of_nonneg hea.1] at this;exact this
  refine ih hw' j x hx hx1 ?_;rw[free_p hf,testBit_or,hxp];simp[hij]
theorem axAll_mem(ht:Told' l m)(hv:∀(i:Nat) (e:Ev),m[i]?=some e->e.k=1->Vals m e.a e.n):∀k:Nat,k<=l.length->m.take k++l.drop k∈axAll l k
 |0,_=>by simp[axAll]
 |k+1,hk=>by
  have ih:=axAll_mem ht hv k (by omega);have hlen:=ht.len;have hl:l[k]?=some l[k]:=List.getElem?_eq_getElem (by omega);obtain⟨e,he⟩:=exE (l[k]);rw[<-he] at hl;obtain⟨z,hz,hz1,_⟩:=ht.at_ k e hl;have hset:∀z',setN (m.take k++l.drop k) k z'=m.take k++e.tell z'::l.drop (k+1):=by
   intro z';rw[List.drop_eq_getElem_cons (by omega),<-he];have hkl:(m.take k).length=k:=by simp;omega
   apply List.ext_getElem?;intro i;rw[setN_at];rcases Nat.lt_trichotomy i k with h1|h1|h1
   ·rw[if_neg (by omega),List.getElem?_append_left (by omega),List.getElem?_append_left (by omega)]
   ·subst h1;rw[if_pos rfl,List.getElem?_append_right (by omega),List.getElem?_append_right (by omega),hkl];simp
   rw[if_neg (by omega),List.getElem?_append_right (by omega),List.getElem?_append_right (by omega),hkl];obtain⟨q,hq⟩:∃q,i-k=q+1:=⟨i-k-1,by omega⟩;rw[hq];simp
  have htake:m.take (k+1)++l.drop (k+1)=m.take k++e.tell z::l.drop (k+1):=by rw[List.take_add_one,hz];simp
  rw[htake,axAll,hl];dsimp only;by_cases h1:e.k=1
  ·rw[if_pos h1,List.mem_flatMap];refine⟨_,ih,?_⟩;unfold toldP;rcases hv k _ hz h1 with h2|⟨x,hx,hx2,hxa,hxn⟩
   ·have h2:z=0:=h2;rw[List.mem_cons];exact .inl (by rw[hset,h2])
   rw[List.mem_cons];refine .inr (List.mem_map.2 ⟨x,List.mem_filter.2 ⟨?_,?_⟩,?_⟩)
   ·obtain⟨j,hj⟩:=List.getElem?_of_mem hx;have hjl:=(List.getElem?_eq_some_iff.1 hj).1;rw[List.mem_append];rcases Nat.lt_or_ge j k with h3|h3
    ·refine .inl (List.mem_of_getElem? (i:=j) ?_);rw[List.getElem?_take,if_pos h3];exact hj
    obtain⟨e',he',h4,h5⟩:=ht.back hj;have hxe:x=e':=by
     rw[h4] at hx2;have h6:e'.k≠1:=by have:e'.k=2:=hx2;omega
     rw[h4,h5 h6];rfl
    refine .inr (List.mem_of_getElem? (i:=j-k) ?_);rw[List.getElem?_drop,show k+(j-k)=j by omega,hxe];exact he'
   ·unfold Ev.storesTo;simp[hx2,hxa];rfl
   rw[hset,hxn];rfl
  rw[if_neg h1];have:z=e.n:=hz1 h1;rw[this,tell_self];have h8:m.take k++e::l.drop (k+1)=m.take k++l.drop k:=by rw[List.drop_eq_getElem_cons (i:=k) (by omega),<-he]
  rw[h8];exact ih
theorem same_outs(hl:Prog l)(z:List Int):(∃xs,playP l xs=some z)↔z∈((axAll l l.length).filter okP).map loadsOf:=by
 constructor
 ·rintro⟨xs,hp⟩;have hp':=hp;unfold playP at hp';obtain⟨s',hr,ho⟩:=Option.bind_eq_some_iff.1 hp';obtain⟨hd,hz⟩:=outcome_parts ho;have hok:=run_lens hl (St.first_ok l.length) hr;have ht:=tellT_told hok.t hok.i;have hzl:z=loadsOf (tellT l s'.told):=by rw[tellT_loads];exact hz
  have hc:=(canEnd_iff hl ht).2 ⟨xs,by rw[<-hzl];exact hp⟩;refine List.mem_map.2 ⟨tellT l s'.told,List.mem_filter.2 ⟨?_,(okP_iff _).2 hc⟩,hzl.symm⟩;have h1:=axAll_mem ht (fun i e he h1=>canEnd_vals (told_ok ht hl.ok) hc (fun a ha=>by
   match a,ha with
   |0,_|1,_|2,_|3,_=>exact .inl rfl) i e he h1 (by simp[AS.zero])) l.length (Nat.le_refl _)
  rw[List.take_of_length_le (by rw[ht.len];exact Nat.le_refl _),List.drop_length,List.append_nil] at h1;exact h1
 intro h;obtain⟨m,hm,rfl⟩:=List.mem_map.1 h;obtain⟨h1,h2⟩:=List.mem_filter.1 hm;exact(canEnd_iff hl (axAll_told (fun x hx=>(hl.ok x hx).n) _ m h1)).1 ((okP_iff _).1 h2)
end
end Go.Proofs.YtnigadeohmlpiaaGreatDoor
