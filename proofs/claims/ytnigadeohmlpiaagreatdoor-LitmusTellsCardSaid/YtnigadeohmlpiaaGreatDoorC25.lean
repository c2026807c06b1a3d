/- Contracts and words: a list of distinct things is no longer than one that holds them all; the memory's steps against the axioms', step by step; loads, stores, fences, drains; what a memory plays the axioms let be, and the other way round. No condition of ours. -/
import Derived.Test.YtnigadeohmlpiaaGreatDoorC01
import Derived.Test.YtnigadeohmlpiaaGreatDoorC17
import Derived.Test.YtnigadeohmlpiaaGreatDoorC22
set_option maxHeartbeats 32000000
set_option maxRecDepth 100000
namespace Go.Proofs.YtnigadeohmlpiaaGreatDoor
theorem nodup_len{α:Type}[DecidableEq α]:∀{L K:List α},L.Nodup->(∀z∈L,z∈K)->L.length<=K.length
 |[],_,_,_=>Nat.zero_le _
 |x::L,K,hn,hs=>by
  obtain⟨h1,h2⟩:=List.nodup_cons.1 hn;have hx:=hs x List.mem_cons_self;have h3:=nodup_len (L:=L) (K:=K.erase x) h2 fun z hz=>by refine(List.mem_erase_of_ne (fun e=>?_)).2 (hs z (List.mem_cons_of_mem _ hz));subst e;exact h1 hz
  rw[List.length_erase_of_mem hx] at h3;have:=List.length_pos_of_mem hx;rw[List.length_cons];omega
end Go.Proofs.YtnigadeohmlpiaaGreatDoor
namespace Go.Proofs.YtnigadeohmlpiaaGreatDoor
def St.dn(s:St)(i:Nat):Bool:=s.done.getD i true
def bufF(m:List Ev)(d:Nat->Bool)(p:Nat)(h:Int)(i:Nat):Option (Int×Int):=
 match m[i]?with
 |some e=>if((e.h==h&&e.k==2)&&(d i&&!p.testBit i))=true then some (e.a,e.n) else none
 |none=>none
def bufL(m:List Ev)(d:Nat->Bool)(p:Nat)(h:Int)(n:Nat):List (Int×Int):=(List.range n).filterMap (bufF m d p h)
structure Inv(m:List Ev)(s:St)(t:AS):Prop where
 dl:s.done.length=m.length
 tl:s.told.length=m.length
 wl:s.m.words.length=4
 pl:s.m.pend.length=4
 pre:∀i j ei ej,m[i]?=some ei->m[j]?=some ej->j<i->ej.h=ei.h->s.dn i=true->s.dn j=true
 ld:∀i e,m[i]?=some e->e.k=1->s.dn i=t.p.testBit i
 st:∀i e,m[i]?=some e->e.k=2->t.p.testBit i=true->s.dn i=true
 fe:∀i j ei ej,m[i]?=some ei->m[j]?=some ej->j<i->ej.h=ei.h->ei.k=3->ej.k=2->s.dn i=true->t.p.testBit j=true
 buf:∀h:Nat,h<4->s.m.pend.getD h []=bufL m s.dn t.p h m.length
 wd:∀a:Nat,a<4->s.m.words.getD a 0=t.wd a
theorem bufF_some{m:List Ev}{d:Nat->Bool}{p:Nat}{h:Int}{i:Nat}{y:Int×Int}(hy:bufF m d p h i=some y):∃e,m[i]?=some e/\e.h=h/\e.k=2/\d i=true/\p.testBit i=false/\y=(e.a,e.n):=by
 unfold bufF at hy;split at hy
 ·rename_i e he;split at hy
  ·rename_i hc;simp only[Bool.and_eq_true,beq_iff_eq,Bool.not_eq_true'] at hc;exact⟨e,he,hc.1.1,hc.1.2,hc.2.1,hc.2.2,(Option.some.inj hy).symm⟩
  cases hy
 cases hy
theorem bufF_of{m:List Ev}{d:Nat->Bool}{p:Nat}{h:Int}{i:Nat}{e:Ev}(he:m[i]?=some e)(h1:e.h=h)(h2:e.k=2)(h3:d i=true)(h4:p.testBit i=false):bufF m d p h i=some (e.a,e.n):=by unfold bufF;rw[he];simp[h1,h2,h3,h4]
theorem bufF_none{m:List Ev}{d:Nat->Bool}{p:Nat}{h:Int}{i:Nat}(hn:∀e,m[i]?=some e->e.h=h->e.k=2->d i=true->p.testBit i=true):bufF m d p h i=none:=by
 cases hb:bufF m d p h i with
 |none=>rfl
 |some y=>obtain⟨e,h1,h2,h3,h4,h5,_⟩:=bufF_some hb;rw[hn e h1 h2 h3 h4] at h5;cases h5
theorem range_split{i n:Nat}(hi:i<n):List.range n=List.range i++i::(List.range (n-i-1)).map (fun j=>i+1+j):=by
 have h1:n=i+(1+(n-i-1)):=by omega
 conv=>lhs;rw[h1,List.range_add,List.range_add]
 simp[List.map_map,Function.comp_def,Nat.add_assoc]
theorem bufL_split{m:List Ev}{d:Nat->Bool}{p:Nat}{h:Int}{i n:Nat}(hi:i<n):bufL m d p h n=bufL m d p h i++((bufF m d p h i).toList++((List.range (n-i-1)).map (fun j=>i+1+j)).filterMap (bufF m d p h)):=by unfold bufL;rw[range_split hi,List.filterMap_append,List.filterMap_cons];cases bufF m d p h i<;>rfl
theorem bufL_congr{m:List Ev}{d d':Nat->Bool}{p p':Nat}{h:Int}{n:Nat}(hc:∀j,j<n->bufF m d p h j=bufF m d' p' h j):bufL m d p h n=bufL m d' p' h n:=by
 unfold bufL;have:∀L:List Nat,(∀j∈L,j<n)->L.filterMap (bufF m d p h)=L.filterMap (bufF m d' p' h):=by
  intro L;induction L with
  |nil=>intro _;rfl
  |cons a L ih=>intro hL;rw[List.filterMap_cons,List.filterMap_cons,hc a (hL a List.mem_cons_self),ih fun j hj=>hL j (List.mem_cons_of_mem _ hj)]
 exact this _ fun j hj=>List.mem_range.1 hj
theorem bufL_short{m:List Ev}{d:Nat->Bool}{p:Nat}{h:Int}{i n:Nat}(hi:i<=n)(hn:∀j,i<=j->j<n->bufF m d p h j=none):bufL m d p h n=bufL m d p h i:=by
 obtain⟨k,rfl⟩:∃k,n=i+k:=⟨n-i,by omega⟩;unfold bufL;rw[List.range_add,List.filterMap_append];have:((List.range k).map (i+·)).filterMap (bufF m d p h)=[]:=by rw[List.filterMap_eq_nil_iff];intro x hx;obtain⟨j,hj,rfl⟩:=List.mem_map.1 hx;exact hn _ (by omega) (by have:=List.mem_range.1 hj;omega)
 rw[this,List.append_nil]
theorem bufL_mem{m:List Ev}{d:Nat->Bool}{p:Nat}{h:Int}{n:Nat}{y:Int×Int}:y∈bufL m d p h n↔∃j,j<n/\bufF m d p h j=some y:=by unfold bufL;rw[List.mem_filterMap];exact⟨fun⟨j,h1,h2⟩=>⟨j,List.mem_range.1 h1,h2⟩,fun⟨j,h1,h2⟩=>⟨j,List.mem_range.2 h1,h2⟩⟩
theorem bufL_at{m:List Ev}{d:Nat->Bool}{p:Nat}{h:Int}:∀{n k:Nat} {y:Int×Int},(bufL m d p h n)[k]?=some y->∃i,i<n/\bufF m d p h i=some y/\(bufL m d p h i).length=k:=by
 intro n;induction n with
 |zero=>intro k y hy;cases hy
 |succ n ih=>
  intro k y hy;have hs:bufL m d p h (n+1)=bufL m d p h n++(bufF m d p h n).toList:=by unfold bufL;rw[List.range_succ,List.filterMap_append,List.filterMap_cons];cases bufF m d p h n<;>rfl
  rw[hs] at hy;rcases Nat.lt_or_ge k (bufL m d p h n).length with h1|h1
  ·rw[List.getElem?_append_left h1] at hy;obtain⟨i,h2,h3,h4⟩:=ih hy;exact⟨i,by omega,h3,h4⟩
  rw[List.getElem?_append_right h1] at hy;cases hb:bufF m d p h n with
  |none=>rw[hb] at hy;cases hy
  |some z=>
   rw[hb] at hy;cases hk:k-(bufL m d p h n).length with
   |zero=>rw[hk] at hy;have:z=y:=Option.some.inj hy;exact⟨n,by omega,this▸hb,by omega⟩
   |succ q=>rw[hk] at hy;cases hy
theorem dn_set(L:List Bool){i:Nat}(hi:i<L.length)(j:Nat):(L.set i true).getD j true=(decide (j=i)||L.getD j true):=by
 rw[List.getD_eq_getElem?_getD,List.getD_eq_getElem?_getD,List.getElem?_set];by_cases h:i=j
 ·subst h;simp[hi]
 rw[if_neg h];simp[show¬j=i from fun e=>h e.symm]
theorem St.due_iff{m:List Ev}{s:St}{h:Int}{i:Nat}:s.due m h=some i↔∃e,m[i]?=some e/\e.h=h/\s.dn i=false/\∀j ej,j<i->m[j]?=some ej->ej.h=h->s.dn j=true:=by
 constructor
 ·intro hd;obtain⟨e,h1,h2,h3⟩:=St.due_parts hd;refine⟨e,h1,h2,h3,fun j ej hj hm hh=>?_⟩;unfold St.due at hd;rw[List.find?_range_eq_some] at hd;have:=hd.2.2 j hj;unfold St.at_ at this;rw[hm] at this;simpa[hh,St.dn] using this
 rintro⟨e,h1,h2,h3,h4⟩;have hi:=(List.getElem?_eq_some_iff.1 h1).1;refine find_range_some hi ?_ (fun j hj=>?_)
 ·unfold St.at_;rw[h1];simpa[h2,St.dn] using h3
 unfold St.at_;have hjl:j<m.length:=by omega
 rw[List.getElem?_eq_getElem hjl];by_cases hh:m[j].h=h
 ·have:=h4 j m[j] hj (List.getElem?_eq_getElem hjl) hh;unfold St.dn at this;rw[this];simp
 simp[hh]
theorem fence_mem{m:List Ev}{i k:Nat}{h:Int}:(segOf m i k).any (Ev.fenceOf h)=true↔∃f e,i<=f/\f<k/\m[f]?=some e/\e.k=3/\e.h=h:=by
 rw[List.any_eq_true];constructor
 ·rintro⟨e,he,hf⟩;obtain⟨j,hj⟩:=List.getElem?_of_mem he;unfold segOf at hj;rw[List.getElem?_take] at hj;split at hj
  ·rename_i hlt;rw[List.getElem?_drop] at hj;unfold Ev.fenceOf at hf;simp only[Bool.and_eq_true,beq_iff_eq] at hf;exact⟨i+j,e,by omega,by omega,hj,hf.1,hf.2⟩
  cases hj
 rintro⟨f,e,h1,h2,h3,h4,h5⟩;refine⟨e,List.mem_of_getElem? (i:=f-i) ?_,by unfold Ev.fenceOf;simp[h4,h5]⟩;unfold segOf;rw[List.getElem?_take,if_pos (by omega),List.getElem?_drop,show i+(f-i)=f by omega];exact h3
theorem free_iff{m:List Ev}{p i:Nat}{e:Ev}:blocked m p i e=false↔∀k x,k<i->m[k]?=some x->x.acc=true->p.testBit k=false->x.h=e.h->x.k≠1/\¬(e.k=2/\x.a=e.a)/\∀f ef,k<=f->f<i->m[f]?=some ef->ef.k=3->ef.h≠e.h:=by
 unfold blocked;rw[List.any_eq_false];constructor
 ·intro H k x hk hx ha hp hh;have h1:=H k (List.mem_range.2 hk);unfold blockedAt at h1;rw[hx] at h1;simp only[ha,hp,Bool.not_false,Bool.and_self,Bool.true_and] at h1;unfold keepsE at h1;have h2:¬((x.k=1\/(e.k=2/\x.a=e.a))\/(segOf m k i).any (Ev.fenceOf x.h)=true):=by
   intro h3;apply h1;rcases h3 with(h3|h3)|h3<;>simp[hk,hh,h3]
   ·right;rw[<-hh];simpa using h3
  refine⟨fun h=>h2 (.inl (.inl h)),fun h=>h2 (.inl (.inr h)),fun f ef h3 h4 h5 h6 h7=>h2 (.inr (fence_mem.2 ⟨f,ef,h3,h4,h5,h6,h7.trans hh.symm⟩))⟩
 intro H k hk;have hk:=List.mem_range.1 hk;unfold blockedAt;split
 ·rename_i x hx;intro hb;simp only[Bool.and_eq_true,Bool.not_eq_true'] at hb;obtain⟨⟨ha,hp⟩,hke⟩:=hb;unfold keepsE at hke;simp only[Bool.and_eq_true,Bool.or_eq_true,decide_eq_true_eq,beq_iff_eq] at hke;obtain⟨⟨_,hh⟩,hke⟩:=hke;obtain⟨h1,h2,h3⟩:=H k x hk hx ha hp hh;rcases hke with(h4|h4)|h4
  ·exact h1 h4
  ·exact h2 h4
  obtain⟨f,ef,h5,h6,h7,h8,h9⟩:=fence_mem.1 h4;exact h3 f ef h5 h6 h7 h8 (h9.trans hh)
 intro h;cases h
end Go.Proofs.YtnigadeohmlpiaaGreatDoor
namespace Go.Proofs.YtnigadeohmlpiaaGreatDoor
def EvsOk(m:List Ev):Prop:=∀e∈m,e.Ok
theorem EvsOk.at_{m:List Ev}(h:EvsOk m){i:Nat}{e:Ev}(he:m[i]?=some e):e.Ok:=h e (List.mem_of_getElem? he)
theorem pending_buf{m:List Ev}{d:Nat->Bool}{p:Nat}{e:Ev}:∀k:Nat,(∀j ej,j<k->m[j]?=some ej->ej.h=e.h->d j=true)->((bufL m d p e.h k).reverse.find? (fun x=>x.1==e.a)).map (·.2)=pendingP m p e k:=by
 intro k;induction k with
 |zero=>intro _;rfl
 |succ k ih=>
  intro hd;have ih:=ih fun j ej hj=>hd j ej (by omega);have hs:bufL m d p e.h (k+1)=bufL m d p e.h k++(bufF m d p e.h k).toList:=by unfold bufL;rw[List.range_succ,List.filterMap_append,List.filterMap_cons];cases bufF m d p e.h k<;>rfl
  rw[hs,List.reverse_append,pendingP];cases hm:m[k]?with
  |none=>
   have hb:bufF m d p e.h k=none:=by unfold bufF;rw[hm]
   rw[hb];simpa using ih
  |some x=>
   dsimp only;cases hb:bufF m d p e.h k with
   |none=>
    have hw:e.waits p k x=false:=by
     cases hw:e.waits p k x with
     |false=>rfl
     |true=>unfold Ev.waits at hw;simp only[Bool.and_eq_true,beq_iff_eq,Bool.not_eq_true'] at hw;rw[bufF_of hm hw.1.1.1 hw.1.1.2 (hd k x (by omega) hm hw.1.1.1) hw.2] at hb;cases hb
    rw[hw];simpa using ih
   |some y=>
    obtain⟨x',h1,h2,h3,h4,h5,h6⟩:=bufF_some hb;rw[hm] at h1;obtain rfl:=Option.some.inj h1;subst h6;by_cases ha:x.a=e.a
    ·have hw:e.waits p k x=true:=by unfold Ev.waits;simp[h2,h3,ha,h5]
     rw[hw];simp[ha]
    have hw:e.waits p k x=false:=by unfold Ev.waits;simp[ha]
    rw[hw];simpa[ha] using ih
section
variable {m : List Ev} {s : St} {t : AS}
theorem Inv.behind(I:Inv m s t){i j:Nat}{e x:Ev}(he:m[i]?=some e)(hn:s.dn i=false)(hx:m[j]?=some x)(hij:i<=j)(hh:x.h=e.h):s.dn j=false:=by
 cases hd:s.dn j with
 |false=>rfl
 |true=>
  rcases Nat.lt_or_ge i j with h1|h1
  ·rw[I.pre j i x e hx he h1 hh.symm hd] at hn;cases hn
  obtain rfl:i=j:=by omega
  rw[hd] at hn;cases hn
theorem Inv.buf_due(I:Inv m s t){i:Nat}{e:Ev}(he:m[i]?=some e)(hok:e.Ok)(hn:s.dn i=false):s.m.pend.getD e.h.toNat []=bufL m s.dn t.p e.h i:=by have hi:=(List.getElem?_eq_some_iff.1 he).1;have h0:=hok.h;rw[I.buf e.h.toNat (by omega),Int.toNat_of_nonneg h0.1];refine bufL_short (by omega) fun j h1 h2=>bufF_none fun x hx hh _ hd=>?_;rw[I.behind he hn hx h1 hh] at hd;cases hd
theorem Inv.load_eq(I:Inv m s t){i:Nat}{e:Ev}(he:m[i]?=some e)(hok:e.Ok)(hd:s.due m e.h=some i):s.m.load e.h.toNat e.a.toNat=(pendingP m t.p e i).getD (t.wd e.a.toNat):=by
 obtain⟨e',h1,_,hn,hb⟩:=St.due_iff.1 hd;rw[he] at h1;obtain rfl:=Option.some.inj h1;have ha:=hok.a;unfold Mm.load;rw[I.buf_due he hok hn,<-pending_buf (d:=s.dn) i (fun j ej hj hm hh=>hb j ej hj hm hh),Int.toNat_of_nonneg ha.1,I.wd _ (by omega)];cases(bufL m s.dn t.p e.h i).reverse.find? (fun x=>x.1==e.a)<;>rfl
theorem Inv.free_load(I:Inv m s t){i:Nat}{e:Ev}(he:m[i]?=some e)(h1:e.k=1)(hd:s.due m e.h=some i):blocked m t.p i e=false:=by
 obtain⟨e',h2,_,hn,hb⟩:=St.due_iff.1 hd;rw[he] at h2;obtain rfl:=Option.some.inj h2;refine free_iff.2 fun k x hk hx ha hp hh=>⟨fun h=>?_,fun h=>?_,fun f ef h3 h4 h5 h6 h7=>?_⟩
 ·have:=I.ld k x hx h;rw[hb k x hk hx hh,hp] at this;cases this
 ·omega
 have hf:=hb f ef h4 h5 h7;by_cases hfk:f=k
 ·subst hfk;rw[hx] at h5;obtain rfl:=Option.some.inj h5;unfold Ev.acc at ha;rw[h6] at ha;cases ha
 by_cases hxk:x.k=2
 ·rw[I.fe f k ef x h5 hx (by omega) (hh.trans h7.symm) h6 hxk hf] at hp;cases hp
 unfold Ev.acc at ha;have hx1:x.k=1:=by
  rcases Bool.or_eq_true_iff.1 ha with h|h
  ·exact beq_iff_eq.1 h
  exact absurd (beq_iff_eq.1 h) hxk
 have:=I.ld k x hx hx1;rw[hb k x hk hx hh,hp] at this;cases this
end
section
variable {m : List Ev} {s : St} {t : AS}
theorem dn_step{s:St}{i:Nat}(hi:i<s.done.length)(M:Mm)(T:List Int)(j:Nat):(⟨M,s.done.set i true,T⟩:St).dn j=(decide (j=i)||s.dn j):=dn_set s.done hi j
theorem dn_same{s:St}(M:Mm)(T:List Int)(j:Nat):(⟨M,s.done,T⟩:St).dn j=s.dn j:=rfl
theorem wd_mark(t:AS)(i a:Nat):(t.mark i).wd a=t.wd a:=rfl
theorem wd_setw(t:AS){a:Nat}(n:Int)(ha:a<4)(b:Nat)(hb:b<4):(t.setw a n).wd b=if b=a then n else t.wd b:=by
 unfold AS.setw AS.wd
 match a,ha,b,hb with
 |0,_,0,_|0,_,1,_|0,_,2,_|0,_,3,_|1,_,0,_|1,_,1,_|1,_,2,_|1,_,3,_|2,_,0,_|2,_,1,_|2,_,2,_|2,_,3,_|3,_,0,_|3,_,1,_|3,_,2,_|3,_,3,_=>rfl
theorem due_parts'{i:Nat}{h:Int}(hd:s.due m h=some i){e:Ev}(he:m[i]?=some e):e.h=h/\s.dn i=false/\∀j ej,j<i->m[j]?=some ej->ej.h=h->s.dn j=true:=by obtain⟨e',h1,h2,h3,h4⟩:=St.due_iff.1 hd;rw[he] at h1;obtain rfl:=Option.some.inj h1;exact⟨h2,h3,h4⟩
theorem Inv.pre_step(I:Inv m s t){i:Nat}{e:Ev}(he:m[i]?=some e)(hd:s.due m e.h=some i)(M:Mm)(T:List Int):∀a b ea eb,m[a]?=some ea->m[b]?=some eb->b<a->eb.h=ea.h->(⟨M,s.done.set i true,T⟩:St).dn a=true->(⟨M,s.done.set i true,T⟩:St).dn b=true:=by
 obtain⟨_,hn,hb⟩:=due_parts' hd he;have hi:i<s.done.length:=by rw[I.dl];exact(List.getElem?_eq_some_iff.1 he).1
 intro a b ea eb ha hb' hlt hh hda;rw[dn_step hi] at hda⊢;by_cases h1:a=i
 ·subst h1;rw[he] at ha;obtain rfl:=Option.some.inj ha;simp[hb b eb hlt hb' hh]
 simp only[h1,decide_false,Bool.false_or] at hda;simp[I.pre a b ea eb ha hb' hlt hh hda]
theorem Inv.do_load(I:Inv m s t){i:Nat}{e:Ev}(he:m[i]?=some e)(h1:e.k=1)(hd:s.due m e.h=some i)(v:Int):Inv m ⟨s.m,s.done.set i true,s.told.set i v⟩ (t.mark i):=by
 have hi:i<s.done.length:=by rw[I.dl];exact(List.getElem?_eq_some_iff.1 he).1
 have hbit:∀j,(t.mark i).p.testBit j=(t.p.testBit j||decide (i=j)):=fun j=>testBit_or t.p i j;refine⟨by simp[I.dl],by simp[I.tl],I.wl,I.pl,I.pre_step he hd _ _,fun j x hx hk=>?_,fun j x hx hk hb=>?_,fun a b ea eb ha hb hlt hh hk3 hk2 hda=>?_,fun h hh=>?_,fun a ha=>by rw[wd_mark];exact I.wd a ha⟩
 ·rw[dn_step hi,hbit,I.ld j x hx hk];by_cases hji:j=i
  ·simp[hji]
  have hij:¬i=j:=fun e=>hji e.symm;simp[hji,hij]
 ·rw[hbit] at hb;rw[dn_step hi];by_cases hji:j=i
  ·simp[hji]
  have hij:¬i=j:=fun e=>hji e.symm;simp only[hij,decide_false,Bool.or_false] at hb;simp[I.st j x hx hk hb]
 ·rw[dn_step hi] at hda;rw[hbit];by_cases hai:a=i
  ·subst hai;rw[he] at ha;obtain rfl:=Option.some.inj ha;omega
  simp only[hai,decide_false,Bool.false_or] at hda;simp[I.fe a b ea eb ha hb hlt hh hk3 hk2 hda]
 rw[I.buf h hh];refine bufL_congr fun j hj=>?_;unfold bufF;by_cases hji:j=i
 ·subst hji;rw[he];simp[h1]
 have hij:¬i=j:=fun e=>hji e.symm;rw[show(⟨s.m,s.done.set i true,s.told.set i v⟩:St).dn j=s.dn j by rw[dn_step hi];simp[hji],hbit];simp[hij]
theorem Inv.do_store(I:Inv m s t){i:Nat}{e:Ev}(he:m[i]?=some e)(hok:e.Ok)(h2:e.k=2)(hd:s.due m e.h=some i):Inv m ⟨s.m.store e.h.toNat e.a e.n,s.done.set i true,s.told⟩ t:=by
 obtain⟨_,hn,hbb⟩:=due_parts' hd he;have him:=(List.getElem?_eq_some_iff.1 he).1;have hi:i<s.done.length:=by rw[I.dl];exact him
 have hnp:t.p.testBit i=false:=by
  cases hp:t.p.testBit i with
  |false=>rfl
  |true=>rw[I.st i e he h2 hp] at hn;cases hn
 refine⟨by simp[I.dl],I.tl,I.wl,by simp[Mm.store,I.pl],I.pre_step he hd _ _,fun j x hx hk=>?_,fun j x hx hk hb=>?_,fun a b ea eb ha hb hlt hh hk3 hk2 hda=>?_,fun h hh=>?_,I.wd⟩
 ·rw[dn_step hi,I.ld j x hx hk];by_cases hji:j=i
  ·subst hji;rw[he] at hx;obtain rfl:=Option.some.inj hx;omega
  simp[hji]
 ·rw[dn_step hi];simp[I.st j x hx hk hb]
 ·rw[dn_step hi] at hda;by_cases hai:a=i
  ·subst hai;rw[he] at ha;obtain rfl:=Option.some.inj ha;omega
  simp only[hai,decide_false,Bool.false_or] at hda;exact I.fe a b ea eb ha hb hlt hh hk3 hk2 hda
 show(s.m.pend.set e.h.toNat (s.m.pend.getD e.h.toNat []++[(e.a,e.n)])).getD h []=_;have h0:=hok.h;have hsame:∀j,j≠i->bufF m s.dn t.p h j=bufF m (⟨s.m.store e.h.toNat e.a e.n,s.done.set i true,s.told⟩:St).dn t.p h j:=fun j hji=>by unfold bufF;rw[show(⟨s.m.store e.h.toNat e.a e.n,s.done.set i true,s.told⟩:St).dn j=s.dn j by rw[dn_step hi];simp[hji]]
 by_cases hhe:e.h.toNat=h
 ·have hhz:e.h=(h:Int):=by omega
  rw[List.getD_eq_getElem?_getD,List.getElem?_set,if_pos hhe,if_pos (by rw[I.pl];omega),Option.getD_some,I.buf_due he hok hn];have hz:∀j,i<j->j<m.length->bufF m (⟨s.m.store e.h.toNat e.a e.n,s.done.set i true,s.told⟩:St).dn t.p h j=none:=fun j h3 h4=>by rw[<-hsame j (by omega)];refine bufF_none fun x hx hxh _ hdx=>?_;rw[I.behind he hn hx (by omega) (hxh.trans hhz.symm)] at hdx;cases hdx
  rw[bufL_short (i:=i+1) (n:=m.length) (by omega) (fun j h3 h4=>hz j (by omega) h4)];have hs:bufL m (⟨s.m.store e.h.toNat e.a e.n,s.done.set i true,s.told⟩:St).dn t.p h (i+1)=bufL m (⟨s.m.store e.h.toNat e.a e.n,s.done.set i true,s.told⟩:St).dn t.p h i++(bufF m (⟨s.m.store e.h.toNat e.a e.n,s.done.set i true,s.told⟩:St).dn t.p h i).toList:=by
   unfold bufL;rw[List.range_succ,List.filterMap_append,List.filterMap_cons];cases bufF m (⟨s.m.store e.h.toNat e.a e.n,s.done.set i true,s.told⟩:St).dn t.p h i<;>rfl
  rw[hs,bufF_of he hhz h2 (by rw[dn_step hi];simp) hnp,hhz];rw[bufL_congr (fun j hj=>hsame j (by omega))];rfl
 rw[List.getD_eq_getElem?_getD,List.getElem?_set,if_neg hhe,<-List.getD_eq_getElem?_getD,I.buf h hh];refine bufL_congr fun j hj=>?_;by_cases hji:j=i
 ·subst hji;unfold bufF;rw[he];have:¬e.h=(h:Int):=by omega
  simp[this]
 exact hsame j hji
theorem Inv.do_fence(I:Inv m s t){i:Nat}{e:Ev}(he:m[i]?=some e)(hok:e.Ok)(h3:e.k=3)(hd:s.due m e.h=some i)(hem:s.m.pend.getD e.h.toNat []=[]):Inv m ⟨s.m,s.done.set i true,s.told⟩ t:=by
 obtain⟨_,hn,hbb⟩:=due_parts' hd he;have him:=(List.getElem?_eq_some_iff.1 he).1;have hi:i<s.done.length:=by rw[I.dl];exact him
 refine⟨by simp[I.dl],I.tl,I.wl,I.pl,I.pre_step he hd _ _,fun j x hx hk=>?_,fun j x hx hk hb=>?_,fun a b ea eb ha hb hlt hh hk3 hk2 hda=>?_,fun h hh=>?_,I.wd⟩
 ·rw[dn_step hi,I.ld j x hx hk];by_cases hji:j=i
  ·subst hji;rw[he] at hx;obtain rfl:=Option.some.inj hx;omega
  simp[hji]
 ·rw[dn_step hi];simp[I.st j x hx hk hb]
 ·rw[dn_step hi] at hda;by_cases hai:a=i
  ·subst hai;rw[he] at ha;obtain rfl:=Option.some.inj ha;cases hp:t.p.testBit b with
   |true=>rfl
   |false=>rw[I.buf_due he hok hn] at hem;have:(eb.a,eb.n)∈bufL m s.dn t.p e.h a:=bufL_mem.2 ⟨b,hlt,bufF_of hb hh hk2 (hbb b eb hlt hb hh) hp⟩;rw[hem] at this;cases this
  simp only[hai,decide_false,Bool.false_or] at hda;exact I.fe a b ea eb ha hb hlt hh hk3 hk2 hda
 rw[I.buf h hh];refine bufL_congr fun j hj=>?_;by_cases hji:j=i
 ·subst hji;unfold bufF;rw[he];simp[h3]
 unfold bufF;rw[show(⟨s.m,s.done.set i true,s.told⟩:St).dn j=s.dn j by rw[dn_step hi];simp[hji]]
end
end Go.Proofs.YtnigadeohmlpiaaGreatDoor
namespace Go.Proofs.YtnigadeohmlpiaaGreatDoor
section
variable {m : List Ev} {s : St} {t : AS}
theorem Inv.do_drain(I:Inv m s t){i:Nat}{e:Ev}(he:m[i]?=some e)(hok:e.Ok)(h2:e.k=2)(hd:s.dn i=true)(hp:t.p.testBit i=false):
  Inv m ⟨⟨s.m.words.set e.a.toNat e.n,s.m.pend.set e.h.toNat ((s.m.pend.getD e.h.toNat []).eraseIdx (bufL m s.dn t.p e.h i).length)⟩,s.done,s.told⟩ ((t.setw e.a.toNat e.n).mark i):=by
 have him:=(List.getElem?_eq_some_iff.1 he).1;have h0:=hok.h;have ha0:=hok.a;have hpp:((t.setw e.a.toNat e.n).mark i).p=t.p|||2^i:=by show(t.setw e.a.toNat e.n).p|||2^i=_;rw[setw_p]
 have hbit:∀j,((t.setw e.a.toNat e.n).mark i).p.testBit j=(t.p.testBit j||decide (i=j)):=fun j=>by rw[hpp];exact testBit_or t.p i j
 have hF:∀h j,j≠i->bufF m s.dn t.p h j=bufF m s.dn ((t.setw e.a.toNat e.n).mark i).p h j:=fun h j hji=>by have hij:¬i=j:=fun e=>hji e.symm;unfold bufF;rw[hbit];simp[hij]
 refine⟨I.dl,I.tl,by simp[I.wl],by simp[I.pl],I.pre,fun j x hx hk=>?_,fun j x hx hk hb=>?_,fun a b ea eb ha hb hlt hh hk3 hk2 hda=>?_,fun h hh=>?_,fun a ha=>?_⟩
 ·rw[hbit];have:=I.ld j x hx hk;by_cases hij:i=j
  ·subst hij;rw[he] at hx;obtain rfl:=Option.some.inj hx;omega
  simp only[hij,decide_false,Bool.or_false];exact this
 ·rw[hbit] at hb;by_cases hij:i=j
  ·exact hij▸hd
  simp only[hij,decide_false,Bool.or_false] at hb;exact I.st j x hx hk hb
 ·rw[hbit];have:=I.fe a b ea eb ha hb hlt hh hk3 hk2 hda;simp[this]
 ·show(s.m.pend.set e.h.toNat ((s.m.pend.getD e.h.toNat []).eraseIdx (bufL m s.dn t.p e.h i).length)).getD h []=bufL m s.dn _ h m.length;by_cases hhe:e.h.toNat=h
  ·have hhz:e.h=(h:Int):=by omega
   rw[List.getD_eq_getElem?_getD,List.getElem?_set,if_pos hhe,if_pos (by rw[I.pl];omega),Option.getD_some,hhe,I.buf h hh,hhz,bufL_split him,bufL_split him];rw[bufF_of he hhz h2 hd hp,bufF_none (p:=((t.setw e.a.toNat e.n).mark i).p) (i:=i) (fun x _ _ _ _=>by rw[hbit];simp)];rw[<-bufL_congr (fun j hj=>hF h j (by omega))]
   have h9:∀L:List Nat,(∀j∈L,j≠i)->L.filterMap (bufF m s.dn t.p h)=L.filterMap (bufF m s.dn ((t.setw e.a.toNat e.n).mark i).p h):=by
    intro L;induction L with
    |nil=>intro _;rfl
    |cons a L ih=>intro hL;rw[List.filterMap_cons,List.filterMap_cons,hF h a (hL a List.mem_cons_self),ih fun j hj=>hL j (List.mem_cons_of_mem _ hj)]
   rw[<-h9 _ (fun j hj=>by obtain⟨q,_,rfl⟩:=List.mem_map.1 hj;omega)];rw[List.eraseIdx_append_of_length_le (Nat.le_refl _)];simp
  rw[List.getD_eq_getElem?_getD,List.getElem?_set,if_neg hhe,<-List.getD_eq_getElem?_getD,I.buf h hh];refine bufL_congr fun j hj=>?_;by_cases hji:j=i
  ·subst hji;unfold bufF;rw[he];have:¬e.h=(h:Int):=by omega
   simp[this]
  exact hF h j hji
 show(s.m.words.set e.a.toNat e.n).getD a 0=_;rw[wd_mark,wd_setw _ _ (by omega) _ ha,List.getD_eq_getElem?_getD,List.getElem?_set];by_cases hea:e.a.toNat=a
 ·rw[if_pos hea,if_pos (by rw[I.wl];omega),if_pos hea.symm];rfl
 rw[if_neg hea,if_neg (fun h=>hea h.symm),<-List.getD_eq_getElem?_getD];exact I.wd a ha
theorem Inv.stands(I:Inv m s t){i:Nat}{e:Ev}(he:m[i]?=some e)(hok:e.Ok)(h2:e.k=2)(hd:s.dn i=true)(hp:t.p.testBit i=false):
  (s.m.pend.getD e.h.toNat [])[(bufL m s.dn t.p e.h i).length]?=some (e.a,e.n)/\(s.m.pend.getD e.h.toNat []).take (bufL m s.dn t.p e.h i).length=bufL m s.dn t.p e.h i:=by
 have him:=(List.getElem?_eq_some_iff.1 he).1;have h0:=hok.h;rw[I.buf e.h.toNat (by omega),Int.toNat_of_nonneg h0.1,bufL_split him,bufF_of he rfl h2 hd hp];constructor
 ·rw[List.getElem?_append_right (Nat.le_refl _)];simp
 simp
theorem Inv.ahead(_I:Inv m s t){i:Nat}{e:Ev}:((bufL m s.dn t.p e.h i).any fun y=>y.1==e.a)=false↔∀k x,k<i->m[k]?=some x->x.k=2->s.dn k=true->t.p.testBit k=false->x.h=e.h->x.a≠e.a:=by
 rw[List.any_eq_false];constructor
 ·intro H k x hk hx h2 hd hp hh ha;have:=H (x.a,x.n) (bufL_mem.2 ⟨k,hk,bufF_of hx hh h2 hd hp⟩);simp[ha] at this
 intro H y hy;obtain⟨k,hk,hb⟩:=bufL_mem.1 hy;obtain⟨x,h1,h2,h3,h4,h5,rfl⟩:=bufF_some hb;simpa using H k x hk h1 h3 h4 h5 h2
theorem Inv.free_store(I:Inv m s t){i:Nat}{e:Ev}(he:m[i]?=some e)(hd:s.dn i=true)(hno:((bufL m s.dn t.p e.h i).any fun y=>y.1==e.a)=false):blocked m t.p i e=false:=by
 refine free_iff.2 fun k x hk hx ha hp hh=>?_;have hdk:s.dn k=true:=I.pre i k e x he hx hk hh hd;have hk1:x.k≠1:=fun h=>by have:=I.ld k x hx h;rw[hdk,hp] at this;cases this
 have hk2:x.k=2:=by
  unfold Ev.acc at ha;rcases Bool.or_eq_true_iff.1 ha with h|h
  ·exact absurd (beq_iff_eq.1 h) hk1
  exact beq_iff_eq.1 h
 refine⟨hk1,fun h=>(Inv.ahead I).1 hno k x hk hx hk2 hdk hp hh h.2,fun f ef h3 h4 h5 h6 h7=>?_⟩;by_cases hfk:f=k
 ·subst hfk;rw[hx] at h5;obtain rfl:=Option.some.inj h5;omega
 rw[I.fe f k ef x h5 hx (by omega) (hh.trans h7.symm) h6 hk2 (I.pre i f e ef he h5 h4 h7 hd)] at hp;cases hp
theorem free_load_eq{i:Nat}{e:Ev}(hb:blocked m t.p i e=false)(h1:e.k=1)(hv:(pendingP m t.p e i).getD (t.wd e.a.toNat)=e.n):freeP m t i e=some (t.mark i):=by unfold freeP;rw[hb,if_neg (by simp),if_pos h1,if_pos hv]
theorem free_store_eq{i:Nat}{e:Ev}(hb:blocked m t.p i e=false)(h2:e.k=2):freeP m t i e=some ((t.setw e.a.toNat e.n).mark i):=by unfold freeP;rw[hb,if_neg (by simp),if_neg (by omega)]
theorem free_parts{i:Nat}{e:Ev}{t':AS}(h:freeP m t i e=some t'):blocked m t.p i e=false/\(e.k=1->(pendingP m t.p e i).getD (t.wd e.a.toNat)=e.n/\t'=t.mark i)/\(e.k≠1->t'=(t.setw e.a.toNat e.n).mark i):=by
 unfold freeP at h;split at h
 ·cases h
 rename_i hb;refine⟨by simpa using hb,fun h1=>?_,fun h1=>?_⟩
 ·rw[if_pos h1] at h;split at h
  ·rename_i hv;exact⟨hv,(Option.some.inj h).symm⟩
  cases h
 rw[if_neg h1] at h;exact(Option.some.inj h).symm
theorem acc_of{e:Ev}(h:e.k=1\/e.k=2):e.acc=true:=by unfold Ev.acc;rcases h with h|h<;>simp[h]
theorem of_acc{e:Ev}(h:e.acc=true):e.k=1\/e.k=2:=by
 unfold Ev.acc at h;rcases Bool.or_eq_true_iff.1 h with h|h
 ·exact .inl (beq_iff_eq.1 h)
 exact .inr (beq_iff_eq.1 h)
theorem canEnd_stores(m:List Ev):∀(c:Nat) (t:AS),leftN m t.p<=c->(∀i e,m[i]?=some e->e.k=1->t.p.testBit i=true)->CanEnd m t:=by
 intro c;induction c with
 |zero=>
  intro t hc _;refine .done t fun i e he ha=>?_;cases hp:t.p.testBit i with
  |true=>rfl
  |false=>have:=left_lt he ha hp;omega
 |succ c ih=>
  intro t hc hl;by_cases hall:∀i e,m[i]?=some e->e.acc=true->t.p.testBit i=true
  ·exact .done t hall
  --the first one that is left
  have hex:∃i,∃e,m[i]?=some e/\e.acc=true/\t.p.testBit i=false:=by
   refine Classical.byContradiction fun hno=>hall fun i e he ha=>?_;cases hp:t.p.testBit i with
   |true=>rfl
   |false=>exact absurd ⟨i,e,he,ha,hp⟩ hno
  obtain⟨i,⟨e,he,ha,hp⟩,hmin⟩:∃i,(∃e,m[i]?=some e/\e.acc=true/\t.p.testBit i=false)/\∀j,j<i->¬∃e,m[j]?=some e/\e.acc=true/\t.p.testBit j=false:=by
   obtain⟨i,hi⟩:=hex;induction i using Nat.strongRecOn with
   |_ i ihi=>
    by_cases h:∃j,j<i/\∃e,m[j]?=some e/\e.acc=true/\t.p.testBit j=false
    ·obtain⟨j,hj,h⟩:=h;exact ihi j hj h
    exact⟨i,hi,fun j hj hx=>h ⟨j,hj,hx⟩⟩
  have h2:e.k=2:=by
   rcases of_acc ha with h|h
   ·rw[hl i e he h] at hp;cases hp
   exact h
  have hb:blocked m t.p i e=false:=free_iff.2 fun k x hk hx ha hp _=>absurd ⟨x,hx,ha,hp⟩ (hmin k hk);have hf:=free_store_eq hb h2;have hlt:=left_lt he ha hp;rw[<-free_p hf] at hlt;refine .step t _ i e he ha hp hf (ih _ (by omega) fun j x hx hk=>?_);rw[free_p hf,testBit_or,hl j x hx hk];rfl
end
section
variable {m : List Ev}
theorem next_drain{l:List Ev}{s s':St}{x:Pk}(hx:x.d=true)(h:s.next l x=some s'):∃hN kN:Nat,x.h=hN/\x.w=kN/\hN<4/\∃M',s.m.drain hN kN=some M'/\s'=⟨M',s.done,s.told⟩:=by
 unfold St.next at h
 rw[if_pos hx] at h;obtain⟨M',hM,rfl⟩:=Option.map_eq_some_iff.1 h;unfold Mm.drainZ' at hM;split at hM
 ·rename_i hc;exact⟨x.h.toNat,x.w.toNat,by omega,by omega,by omega,M',hM,rfl⟩
 cases hM
theorem next_event{l:List Ev}{s s':St}{x:Pk}(hx:x.d=false)(h:s.next l x=some s'):∃i e,s.due l x.h=some i/\l[i]?=some e/\e.h=x.h/\x.w=0/\s.step e i=some s':=by
 unfold St.next at h
 rw[if_neg (by simp[hx])] at h;cases hd:s.due l x.h with
 |none=>rw[hd] at h;cases h
 |some i=>
  rw[hd] at h;dsimp only at h;split at h
  ·rename_i hw;obtain⟨e,he,hst⟩:=Option.bind_eq_some_iff.1 h;obtain⟨e',h1,h2,_⟩:=St.due_iff.1 hd;rw[he] at h1;obtain rfl:=Option.some.inj h1;exact⟨i,e,rfl,he,h2,hw,hst⟩
  cases h
theorem next_told{l:List Ev}{s s':St}{x:Pk}(h:s.next l x=some s'){i:Nat}(hd:s.dn i=true):s'.dn i=true/\s'.told.getD i 0=s.told.getD i 0:=by
 cases hx:x.d with
 |true=>obtain⟨_,_,_,_,_,M',_,rfl⟩:=next_drain hx h;exact⟨hd,rfl⟩
 |false=>
  obtain⟨j,e,hdue,he,_,_,hst⟩:=next_event hx h;obtain⟨_,_,_,hn,_⟩:=St.due_iff.1 hdue;have hij:i≠j:=fun e=>by subst e;rw[hd] at hn;cases hn
  have hjl:j<s.done.length:=by
   unfold St.dn at hn;rw[List.getD_eq_getElem?_getD] at hn;rcases Nat.lt_or_ge j s.done.length with h1|h1
   ·exact h1
   rw[List.getElem?_eq_none h1] at hn;cases hn
  have h9:∀M T,(⟨M,s.done.set j true,T⟩:St).dn i=true:=fun M T=>by rw[dn_step hjl,hd];simp
  unfold St.step at hst;split at hst
  ·injection hst with hst
   subst hst;refine⟨h9 _ _,?_⟩;show(s.told.set j _).getD i 0=_;rw[List.getD_eq_getElem?_getD,List.getElem?_set,if_neg (fun e=>hij e.symm),<-List.getD_eq_getElem?_getD]
  split at hst
  ·injection hst with hst
   subst hst;exact⟨h9 _ _,rfl⟩
  split at hst
  ·injection hst with hst
   subst hst;exact⟨h9 _ _,rfl⟩
  cases hst
theorem run_told{l:List Ev}:∀{xs:List Pk} {s s':St},s.run l xs=some s'->∀{i:Nat},s.dn i=true->s'.dn i=true/\s'.told.getD i 0=s.told.getD i 0
 |[],s,s',h,i,hd=>by obtain rfl:s=s':=Option.some.inj h;exact⟨hd,rfl⟩
 |x::xs,s,s',h,i,hd=>by obtain⟨s1,h1,h2⟩:=Option.bind_eq_some_iff.1 h;obtain⟨h3,h4⟩:=next_told h1 hd;obtain⟨h5,h6⟩:=run_told h2 h3;exact⟨h5,h6.trans h4⟩
theorem play_canEnd(hm:EvsOk m):∀(xs:List Pk) (s s':St) (t:AS),Inv m s t->s.run m xs=some s'->(∀i,s'.dn i=true)->(∀i e,m[i]?=some e->e.k=1->s'.told.getD i 0=e.n)->CanEnd m t:=by
 intro xs;induction xs with
 |nil=>intro s s' t I h hdn _;obtain rfl:s=s':=Option.some.inj h;exact canEnd_stores m _ t (Nat.le_refl _) fun i e he h1=>by rw[<-I.ld i e he h1];exact hdn i
 |cons x xs ih=>
  intro s s' t I h hdn htl;obtain⟨s1,hn,hr⟩:=Option.bind_eq_some_iff.1 h;cases hx:x.d with
  |true=>
   obtain⟨hN,kN,_,_,h4,M',hdr,rfl⟩:=next_drain hx hn;obtain⟨y,hy,hM'⟩:=Mm.drain_parts hdr;have hy':=hy;rw[I.buf hN h4] at hy';obtain⟨i,hi,hb,hlen⟩:=bufL_at hy';obtain⟨e,he,hh,h2,hd,hp,rfl⟩:=bufF_some hb;have hok:=hm.at_ he;have hhN:e.h.toNat=hN:=by omega
   obtain⟨hs1,hs2⟩:=I.stands he hok h2 hd hp;rw[hh,hlen] at hs2;have hno:((bufL m s.dn t.p e.h i).any fun y=>y.1==e.a)=false:=by
    unfold Mm.drain at hdr;rw[hy] at hdr;dsimp only at hdr;split at hdr
    ·cases hdr
    rename_i hc;rw[show((hN:Int)).toNat=hN from rfl] at hs2;rw[hs2] at hc;rw[hh];exact(Bool.not_eq_true _).mp hc
   have hf:=free_store_eq (I.free_store he hd hno) h2;refine .step t _ i e he (acc_of (.inr h2)) hp hf (ih _ s' _ ?_ hr hdn htl);have:=I.do_drain he hok h2 hd hp;rw[hh,hlen] at this;rw[hM'];exact this
  |false=>
   obtain⟨i,e,hdue,he,hh,_,hst⟩:=next_event hx hn;rw[<-hh] at hdue;have hok:=hm.at_ he;have him:i<s.done.length:=by rw[I.dl];exact(List.getElem?_eq_some_iff.1 he).1
   have hit:i<s.told.length:=by rw[I.tl];exact(List.getElem?_eq_some_iff.1 he).1
   have hk:=hok.k;unfold St.step at hst;split at hst
   ·rename_i h1;injection hst with hst
    subst hst;have hdn1:(⟨s.m,s.done.set i true,s.told.set i (s.m.load e.h.toNat e.a.toNat)⟩:St).dn i=true:=by rw[dn_step him];simp
    have hv:s.m.load e.h.toNat e.a.toNat=e.n:=by rw[<-htl i e he h1,(run_told hr hdn1).2];show _=(s.told.set i (s.m.load e.h.toNat e.a.toNat)).getD i 0;rw[List.getD_eq_getElem?_getD,List.getElem?_set];simp[hit]
    have hf:=free_load_eq (I.free_load he h1 hdue) h1 ((I.load_eq he hok hdue).symm.trans hv);have hp:t.p.testBit i=false:=by rw[<-I.ld i e he h1];exact(due_parts' hdue he).2.1
    exact .step t _ i e he (acc_of (.inl h1)) hp hf (ih _ s' _ (I.do_load he h1 hdue _) hr hdn htl)
   split at hst
   ·rename_i h2;injection hst with hst
    subst hst;exact ih _ s' _ (I.do_store he hok h2 hdue) hr hdn htl
   split at hst
   ·rename_i hem;injection hst with hst
    subst hst;exact ih _ s' _ (I.do_fence he hok (by omega) hdue hem) hr hdn htl
   cases hst
end
end Go.Proofs.YtnigadeohmlpiaaGreatDoor
