/- Contracts and words: events, a memory, a program's state, and how they go on; a memory that has been stored to, or drained, may be; a program's states, and how they go on; a program's state goes on to one that may be. No condition of ours. -/
set_option maxHeartbeats 32000000
set_option maxRecDepth 100000
namespace Go.Proofs.YtnigadeohmlpiaaGreatDoor
structure Ev where
 h:Int
 k:Int
 a:Int
 n:Int
structure Mm where
 words:List Int
 pend:List (List (Int×Int))
def I32(z:Int):Prop:=-2147483648<=z/\z<=2147483647
structure Mm.Ok(M:Mm):Prop where
 lw:M.words.length=4
 lp:M.pend.length=4
 nw:∀z∈M.words,I32 z
 few:∀p∈M.pend,p.length<=8
 ent:∀p∈M.pend,∀x∈p,0<=x.1/\x.1<4/\I32 x.2
def Mm.zero:Mm:=⟨[0,0,0,0],[[],[],[],[]]⟩
theorem Mm.zero_ok:Mm.zero.Ok:=by
 refine⟨rfl,rfl,?_,?_,?_⟩
 ·intro z hz;simp[Mm.zero] at hz;subst hz;exact⟨by omega,by omega⟩
 ·intro p hp;simp[Mm.zero] at hp;subst hp;simp
 intro p hp x hx;simp[Mm.zero] at hp;subst hp;cases hx
def Mm.load(M:Mm)(h a:Nat):Int:=
 match(M.pend.getD h []).reverse.find? (fun x=>x.1==(a:Int)) with
 |some x=>x.2
 |none=>M.words.getD a 0
def Mm.store(M:Mm)(h:Nat)(a n:Int):Mm:=⟨M.words,M.pend.set h (M.pend.getD h []++[(a,n)])⟩
def Mm.drain(M:Mm)(h k:Nat):Option Mm:=
 match(M.pend.getD h [])[k]?with
 |none=>none
 |some x=>if((M.pend.getD h []).take k).any (fun y=>y.1==x.1) then none else some ⟨M.words.set x.1.toNat x.2,M.pend.set h ((M.pend.getD h []).eraseIdx k)⟩
end Go.Proofs.YtnigadeohmlpiaaGreatDoor
namespace Go.Proofs.YtnigadeohmlpiaaGreatDoor
theorem Mm.store_ok{M:Mm}(hM:M.Ok){h:Nat}{a:Nat}{n:Int}(ha:a<4)(hn:I32 n)(hl:(M.pend.getD h []).length<8):(M.store h a n).Ok:=by
 have key:∀p∈M.pend.set h (M.pend.getD h []++[((a:Int),n)]),p∈M.pend\/p=M.pend.getD h []++[((a:Int),n)]:=fun p hp=>(List.mem_or_eq_of_mem_set hp);have hd:M.pend.getD h []∈M.pend\/M.pend.getD h []=[]:=by
  rw[List.getD_eq_getElem?_getD];cases hx:M.pend[h]?with
  |none=>exact .inr rfl
  |some p=>exact .inl (List.mem_of_getElem? hx)
 refine⟨hM.lw,by simp[Mm.store,hM.lp],hM.nw,fun p hp=>?_,fun p hp x hx=>?_⟩
 ·rcases key p hp with h1|rfl
  ·exact hM.few p h1
  rw[List.length_append];show _+1<=8;omega
 rcases key p hp with h1|rfl
 ·exact hM.ent p h1 x hx
 rcases List.mem_append.1 hx with h2|h2
 ·rcases hd with h3|h3
  ·exact hM.ent _ h3 x h2
  rw[h3] at h2;cases h2
 simp at h2;subst h2;exact⟨by simp,by show(a:Int)<4;omega,hn⟩
end Go.Proofs.YtnigadeohmlpiaaGreatDoor
namespace Go.Proofs.YtnigadeohmlpiaaGreatDoor
structure Ev.Ok(e:Ev):Prop where
 h:0<=e.h/\e.h<4
 k:1<=e.k/\e.k<=3
 a:0<=e.a/\e.a<4
 n:I32 e.n
 f:e.k=3->e.a=0/\e.n=0
structure Prog(l:List Ev):Prop where
 few:l.length<=6
 ok:∀e∈l,e.Ok
 odd:∀e∈l,e.k=1->e.n=0
structure St where
 m:Mm
 done:List Bool
 told:List Int
def St.first(n:Nat):St:=⟨.zero,List.replicate n false,List.replicate n 0⟩
structure St.Ok(n:Nat)(s:St):Prop where
 m:s.m.Ok
 d:s.done.length=n
 t:s.told.length=n
 i:∀z∈s.told,I32 z
 p:∀q∈s.m.pend,q.length<=s.done.count true
theorem St.first_ok(n:Nat):(St.first n).Ok n:=by
 refine⟨Mm.zero_ok,by simp[St.first],by simp[St.first],?_,?_⟩
 ·intro z hz;have:=List.eq_of_mem_replicate hz;subst this;exact⟨by omega,by omega⟩
 intro q hq;have:q=[]:=by simpa[St.first,Mm.zero] using hq
 subst this;exact Nat.zero_le _
def St.at_(l:List Ev)(s:St)(h:Int)(i:Nat):Bool:=((l[i]?.map fun e=>e.h==h).getD false)&&(s.done.getD i true==false)
def St.due(l:List Ev)(s:St)(h:Int):Option Nat:=(List.range l.length).find? (s.at_ l h)
theorem find_range_some{n i:Nat}{p:Nat->Bool}(hi:i<n)(hp:p i=true)(hn:∀j,j<i->p j=false):(List.range n).find? p=some i:=by
 rw[List.find?_eq_some_iff_append];refine⟨hp,List.range i,(List.range (n-i-1)).map (fun j=>i+1+j),?_,fun a ha=>by simp[hn a (List.mem_range.1 ha)]⟩;have h1:n=i+(1+(n-i-1)):=by omega
 conv=>lhs;rw[h1,List.range_add,List.range_add]
 simp[List.map_map,Function.comp_def,Nat.add_assoc]
theorem find_range_none{n:Nat}{p:Nat->Bool}(hn:∀j,j<n->p j=false):(List.range n).find? p=none:=by rw[List.find?_eq_none];intro j hj;simp[hn j (List.mem_range.1 hj)]
theorem find_range_lt{n i:Nat}{p:Nat->Bool}(h:(List.range n).find? p=some i):i<n/\p i=true:=
 ⟨List.mem_range.1 (List.mem_of_find?_eq_some h),List.find?_some h⟩
structure Pk where
 h:Int
 d:Bool
 w:Int
def Mm.drainZ'(M:Mm)(h k:Int):Option Mm:=if 0<=h/\h<4/\0<=k then M.drain h.toNat k.toNat else none
def St.step(s:St)(e:Ev)(i:Nat):Option St:=
 if e.k=1 then some ⟨s.m,s.done.set i true,s.told.set i (s.m.load e.h.toNat e.a.toNat)⟩
 else if e.k=2 then some ⟨s.m.store e.h.toNat e.a e.n,s.done.set i true,s.told⟩
 else if s.m.pend.getD e.h.toNat []=[] then some ⟨s.m,s.done.set i true,s.told⟩ else none
def St.next(l:List Ev)(s:St)(x:Pk):Option St:=
 if x.d then(s.m.drainZ' x.h x.w).map (fun m=>⟨m,s.done,s.told⟩)
 else match s.due l x.h with
  |none=>none
  |some i=>if x.w=0 then(l[i]?).bind (fun e=>s.step e i) else none
def St.outcome(l:List Ev)(s:St):Option (List Int):=
 if s.done.all id then some ((l.zip s.told).filterMap fun x=>if x.1.k=1 then some x.2 else none) else none
end Go.Proofs.YtnigadeohmlpiaaGreatDoor
namespace Go.Proofs.YtnigadeohmlpiaaGreatDoor
theorem i32_zero:I32 0:=⟨by omega,by omega⟩
theorem getD_mem{α:Type}{L:List (List α)}{h:Nat}:L.getD h []∈L\/L.getD h []=[]:=by
 rw[List.getD_eq_getElem?_getD];cases hx:L[h]?with
 |none=>exact .inr rfl
 |some p=>exact .inl (List.mem_of_getElem? hx)
theorem mem_eraseIdx'{α:Type}{p:List α}{k:Nat}{x:α}(h:x∈p.eraseIdx k):x∈p:=(List.eraseIdx_sublist p k).mem h
theorem Mm.drain_parts{M M':Mm}{h k:Nat}(hd:M.drain h k=some M'):∃x,(M.pend.getD h [])[k]?=some x/\M'=⟨M.words.set x.1.toNat x.2,M.pend.set h ((M.pend.getD h []).eraseIdx k)⟩:=by
 unfold Mm.drain at hd;cases hx:(M.pend.getD h [])[k]?with
 |none=>rw[hx] at hd;cases hd
 |some x=>
  rw[hx] at hd;dsimp only at hd;split at hd
  ·cases hd
  exact⟨x,rfl,(Option.some.inj hd).symm⟩
theorem Mm.drain_ok{M M':Mm}{h k:Nat}(hM:M.Ok)(hd:M.drain h k=some M'):M'.Ok:=by
 obtain⟨x,hx,rfl⟩:=Mm.drain_parts hd;have hmem:x∈M.pend.getD h []:=List.mem_of_getElem? hx;have hin:M.pend.getD h []∈M.pend:=by
  rcases getD_mem (L:=M.pend) (h:=h) with h1|h1
  ·exact h1
  rw[h1] at hmem;cases hmem
 refine⟨by simp[hM.lw],by simp[hM.lp],fun z hz=>?_,fun p hp=>?_,fun p hp y hy=>?_⟩
 ·rcases List.mem_or_eq_of_mem_set hz with h1|rfl
  ·exact hM.nw z h1
  exact(hM.ent _ hin _ hmem).2.2
 ·rcases List.mem_or_eq_of_mem_set hp with h1|rfl
  ·exact hM.few p h1
  exact Nat.le_trans (List.eraseIdx_sublist _ _).length_le (hM.few _ hin)
 rcases List.mem_or_eq_of_mem_set hp with h1|rfl
 ·exact hM.ent p h1 y hy
 exact hM.ent _ hin y (mem_eraseIdx' hy)
theorem St.drain_ok{n:Nat}{s:St}{M':Mm}{h k:Nat}(hs:s.Ok n)(hd:s.m.drain h k=some M'):(⟨M',s.done,s.told⟩:St).Ok n:=by
 refine⟨Mm.drain_ok hs.m hd,hs.d,hs.t,hs.i,fun q hq=>?_⟩;obtain⟨x,hx,rfl⟩:=Mm.drain_parts hd;rcases List.mem_or_eq_of_mem_set hq with h1|rfl
 ·exact hs.p q h1
 rcases getD_mem (L:=s.m.pend) (h:=h) with h1|h1
 ·exact Nat.le_trans (List.eraseIdx_sublist _ _).length_le (hs.p _ h1)
 rw[h1];exact Nat.zero_le _
theorem count_set{L:List Bool}{i:Nat}(hi:L[i]?=some false):(L.set i true).count true=L.count true+1:=by
 induction L generalizing i with
 |nil=>cases hi
 |cons b L ih=>
  cases i with
  |zero=>
   have:b=false:=by simpa using hi
   subst this;simp
  |succ i=>have h:=ih (i:=i) (by simpa using hi);rw[List.set_cons_succ,List.count_cons,List.count_cons,h];omega
theorem Mm.load_i32{M:Mm}(hM:M.Ok)(h a:Nat):I32 (M.load h a):=by
 unfold Mm.load;split
 ·rename_i x hx;have hm:=List.mem_of_find?_eq_some hx;rw[List.mem_reverse] at hm;rcases getD_mem (L:=M.pend) (h:=h) with h1|h1
  ·exact(hM.ent _ h1 _ hm).2.2
  rw[h1] at hm;cases hm
 rw[List.getD_eq_getElem?_getD];cases hx:M.words[a]?with
 |none=>exact i32_zero
 |some z=>exact hM.nw z (List.mem_of_getElem? hx)
theorem St.due_parts{l:List Ev}{s:St}{h:Int}{i:Nat}(hd:s.due l h=some i):∃e,l[i]?=some e/\e.h=h/\s.done.getD i true=false:=by obtain⟨h1,h2⟩:=find_range_lt hd;unfold St.at_ at h2;rw[Bool.and_eq_true,beq_iff_eq,List.getElem?_eq_getElem h1] at h2;exact⟨l[i],List.getElem?_eq_getElem h1,by simpa using h2.1,h2.2⟩
theorem getD_false{L:List Bool}{i:Nat}(h:L.getD i true=false):L[i]?=some false:=by
 rw[List.getD_eq_getElem?_getD] at h;cases hx:L[i]?with
 |none=>rw[hx] at h;cases h
 |some b=>rw[hx] at h;rw[show b=false from h]
theorem St.few{n i:Nat}{s:St}(hs:s.Ok n)(hn:n<=6)(hi:s.done[i]?=some false)(h:Nat):(s.m.pend.getD h []).length<6:=by
 have h1:=count_set hi;have h2:(s.done.set i true).count true<=6:=Nat.le_trans (List.count_le_length) (by rw[List.length_set,hs.d];exact hn);rcases getD_mem (L:=s.m.pend) (h:=h) with h3|h3
 ·have:=hs.p _ h3;omega
 rw[h3];simp
theorem St.step_ok{l:List Ev}{s s':St}{e:Ev}{i:Nat}(hl:Prog l)(hs:s.Ok l.length)(he:l[i]?=some e)(hd:s.done.getD i true=false)(hst:s.step e i=some s'):s'.Ok l.length:=by
 have hd':=getD_false hd;have hmem:e∈l:=List.mem_of_getElem? he;have hc:=count_set hd';have hok:=hl.ok e hmem;have hpc:∀q∈s.m.pend,q.length<=(s.done.set i true).count true:=fun q hq=>by have:=hs.p q hq;omega
 unfold St.step at hst;split at hst
 ·cases hst;refine⟨hs.m,by simp[hs.d],by simp[hs.t],fun z hz=>?_,hpc⟩;rcases List.mem_or_eq_of_mem_set hz with h1|rfl
  ·exact hs.i z h1
  exact Mm.load_i32 hs.m _ _
 split at hst
 ·cases hst;have hfew:=St.few hs hl.few hd' e.h.toNat;refine⟨?_,by simp[hs.d],hs.t,hs.i,fun q hq=>?_⟩
  ·have:=Mm.store_ok (M:=s.m) hs.m (h:=e.h.toNat) (a:=e.a.toNat) (n:=e.n) (by have:=hok.a;omega) hok.n (by omega);rwa[Int.toNat_of_nonneg hok.a.1] at this
  rcases List.mem_or_eq_of_mem_set hq with h1|rfl
  ·exact hpc q h1
  rw[List.length_append];show _+1<=_;rcases getD_mem (L:=s.m.pend) (h:=e.h.toNat) with h3|h3
  ·have:=hs.p _ h3;rw[hc];omega
  rw[h3,hc];exact Nat.succ_le_succ (Nat.zero_le _)
 split at hst
 ·cases hst;exact⟨hs.m,by simp[hs.d],hs.t,hs.i,hpc⟩
 cases hst
theorem St.next_ok{l:List Ev}{s s':St}{x:Pk}(hl:Prog l)(hs:s.Ok l.length)(h:s.next l x=some s'):s'.Ok l.length:=by
 unfold St.next at h
 split at h
 ·obtain⟨M',hM,rfl⟩:=Option.map_eq_some_iff.1 h;unfold Mm.drainZ' at hM;split at hM
  ·exact St.drain_ok hs hM
  cases hM
 cases hd:s.due l x.h with
 |none=>rw[hd] at h;cases h
 |some i=>
  rw[hd] at h;dsimp only at h;split at h
  ·obtain⟨e,he,hst⟩:=Option.bind_eq_some_iff.1 h;obtain⟨_,_,_,hdn⟩:=St.due_parts hd;exact St.step_ok hl hs he hdn hst
  cases h
end Go.Proofs.YtnigadeohmlpiaaGreatDoor
