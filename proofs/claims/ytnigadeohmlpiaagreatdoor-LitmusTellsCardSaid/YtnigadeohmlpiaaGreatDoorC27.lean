/- Contracts and words: keys tell clean states apart; what an explorer finds. No condition of ours. -/
import Derived.Test.YtnigadeohmlpiaaGreatDoorC26
set_option maxHeartbeats 32000000
set_option maxRecDepth 100000
namespace Go.Proofs.YtnigadeohmlpiaaGreatDoor
def digs(L:List UInt8):Nat:=L.foldl (fun a c=>a*10+(c.toNat-48)) 0
theorem digs_snoc(L:List UInt8)(c:UInt8):digs (L++[c])=digs L*10+(c.toNat-48):=by simp[digs]
theorem dig_nat{d:Nat}(h:d<10):(UInt8.ofNat (48+d)).toNat=48+d:=by rw[UInt8.toNat_ofNat'];omega
theorem dec_digs:∀u:Nat,digs (Lib.decDigits u)=u:=by
 intro u;induction u using Nat.strongRecOn with
 |_ u ih=>
  rw[Lib.decDigits];split
  ·rename_i h;have:=dig_nat h;simp[digs];omega
  rename_i h;rw[digs_snoc,ih (u/10) (by omega),dig_nat (Nat.mod_lt _ (by omega))];omega
theorem dec_chars:∀u:Nat,∀c∈Lib.decDigits u,48<=c.toNat/\c.toNat<=57:=by
 intro u;induction u using Nat.strongRecOn with
 |_ u ih=>
  intro c hc;rw[Lib.decDigits] at hc;split at hc
  ·rename_i h;have:=dig_nat h;rw[List.mem_singleton] at hc;subst hc;omega
  rename_i h;rcases List.mem_append.1 hc with h1|h1
  ·exact ih (u/10) (by omega) c h1
  rw[List.mem_singleton] at h1;subst h1;have:=dig_nat (Nat.mod_lt u (show 10>0 by omega));omega
theorem dec_ne(u:Nat):Lib.decDigits u≠[]:=by rw[Lib.decDigits];split<;>simp
theorem itoa_chars(z:Int):∀c∈Lib.itoa z,c.toNat=45\/(48<=c.toNat/\c.toNat<=57):=by
 intro c hc;unfold Lib.itoa at hc;split at hc
 ·rcases List.mem_cons.1 hc with rfl|h
  ·exact .inl rfl
  exact .inr (dec_chars _ c h)
 exact .inr (dec_chars _ c hc)
theorem itoa_ne(z:Int):Lib.itoa z≠[]:=by
 unfold Lib.itoa;split
 ·simp
 exact dec_ne _
theorem itoa_ne_minus(z:Int):Lib.itoa z≠[45]:=by
 unfold Lib.itoa;split
 ·intro h;injection h with _ h
  exact dec_ne _ h
 intro h;have:=dec_chars z.toNat 45 (by rw[h];simp);have h45:(45:UInt8).toNat=45:=rfl;omega
theorem itoa_inj{y z:Int}(h:Lib.itoa y=Lib.itoa z):y=z:=by
 have h45:(45:UInt8).toNat=45:=rfl;unfold Lib.itoa at h;split at h<;>split at h
 ·injection h with _ h
  have:=congrArg digs h;rw[dec_digs,dec_digs] at this;omega
 ·have:=dec_chars z.toNat 45 (by rw[<-h];simp);omega
 ·have:=dec_chars y.toNat 45 (by rw[h];simp);omega
 have:=congrArg digs h;rw[dec_digs,dec_digs] at this;omega
theorem word_cut:∀{w v r q:List UInt8},(32:UInt8)∉w->(32:UInt8)∉v->w++32::r=v++32::q->w=v/\r=q
 |[],[],r,q,_,_,h=>by
  injection h with _ h
  exact⟨rfl,h⟩
 |[],b::v,r,q,_,h2,h=>by
  injection h with h _
  exact absurd (h▸List.mem_cons_self) h2
 |a::w,[],r,q,h1,_,h=>by
  injection h with h _
  exact absurd (h▸List.mem_cons_self) h1
 |a::w,b::v,r,q,h1,h2,h=>by
  injection h with h3 h4
  obtain⟨h5,h6⟩:=word_cut (fun h=>h1 (List.mem_cons_of_mem _ h)) (fun h=>h2 (List.mem_cons_of_mem _ h)) h4;exact⟨by rw[h3,h5],h6⟩
theorem itoa_32(z:Int):(32:UInt8)∉Lib.itoa z:=fun h=>by have h32:(32:UInt8).toNat=32:=rfl;have:=itoa_chars z 32 h;omega
theorem numB_cut{y z:Int}{r q:List UInt8}(h:numB y++r=numB z++q):y=z/\r=q:=by unfold numB at h;rw[List.append_assoc,List.append_assoc] at h;obtain⟨h1,h2⟩:=word_cut (itoa_32 y) (itoa_32 z) h;exact⟨itoa_inj h1,h2⟩
theorem numB_head(z:Int)(r:List UInt8):∃c t,numB z++r=c::t/\c≠124:=by
 have h124:(124:UInt8).toNat=124:=rfl;cases h:Lib.itoa z with
 |nil=>exact absurd h (itoa_ne z)
 |cons c t=>refine⟨c,t++[32]++r,by unfold numB;rw[h];rfl,fun e=>?_⟩;have:=itoa_chars z c (by rw[h];exact List.mem_cons_self);rw[e] at this;omega
def SamePair(x y:Bool×Int):Prop:=x.1=y.1/\(x.1=true->x.2=y.2)
theorem doneB_cut{x y:Bool×Int}{r q:List UInt8}(h:doneB x++r=doneB y++q):SamePair x y/\r=q:=by
 obtain⟨b,u⟩:=x;obtain⟨d,v⟩:=y;have h45:(32:UInt8)∉[(45:UInt8)]:=by decide
 cases b<;>cases d
 ·have h:(45:UInt8)::32::r=45::32::q:=h;injection h with _ h
  injection h with _ h
  exact⟨⟨rfl,fun h=>by cases h⟩,h⟩
 ·have h:[(45:UInt8)]++32::r=numB v++q:=h;unfold numB at h;rw[List.append_assoc] at h;obtain⟨h1,_⟩:=word_cut h45 (itoa_32 v) h;exact absurd h1.symm (itoa_ne_minus v)
 ·have h:numB u++r=[(45:UInt8)]++32::q:=h;unfold numB at h;rw[List.append_assoc] at h;obtain⟨h1,_⟩:=word_cut (itoa_32 u) h45 h;exact absurd h1 (itoa_ne_minus u)
 have h:numB u++r=numB v++q:=h;obtain⟨h1,h2⟩:=numB_cut h;exact⟨⟨rfl,fun _=>h1⟩,h2⟩
theorem dones_cut:∀{L K:List (Bool×Int)} {r q:List UInt8},L.length=K.length->L.flatMap doneB++r=K.flatMap doneB++q->(∀i:Nat,∀x y,L[i]?=some x->K[i]?=some y->SamePair x y)/\r=q
 |[],[],r,q,_,h=>⟨fun i x y h=>by simp at h,h⟩
 |[],_::_,_,_,hl,_=>by simp at hl
 |_::_,[],_,_,hl,_=>by simp at hl
 |x::L,y::K,r,q,hl,h=>by
  rw[List.flatMap_cons,List.flatMap_cons,List.append_assoc,List.append_assoc] at h;obtain⟨h1,h2⟩:=doneB_cut h;obtain⟨h3,h4⟩:=dones_cut (by simpa using hl) h2;refine⟨fun i u v hu hv=>?_,h4⟩;cases i with
  |zero=>obtain rfl:x=u:=Option.some.inj hu;obtain rfl:y=v:=Option.some.inj hv;exact h1
  |succ i=>exact h3 i u v hu hv
theorem nums_cut:∀{L K:List Int} {r q:List UInt8},L.length=K.length->L.flatMap numB++r=K.flatMap numB++q->L=K/\r=q
 |[],[],_,_,_,h=>⟨rfl,h⟩
 |[],_::_,_,_,hl,_=>by simp at hl
 |_::_,[],_,_,hl,_=>by simp at hl
 |x::L,y::K,r,q,hl,h=>by rw[List.flatMap_cons,List.flatMap_cons,List.append_assoc,List.append_assoc] at h;obtain⟨h1,h2⟩:=numB_cut h;obtain⟨h3,h4⟩:=nums_cut (by simpa using hl) h2;exact⟨by rw[h1,h3],h4⟩
def Barred(r:List UInt8):Prop:=r=[]\/∃t,r=124::t
theorem ents_cut:∀{L K:List (Int×Int)} {r q:List UInt8},Barred r->Barred q->L.flatMap entB++r=K.flatMap entB++q->L=K/\r=q
 |[],[],_,_,_,_,h=>⟨rfl,h⟩
 |[],y::K,r,q,hr,_,h=>by
  rw[List.flatMap_cons,List.append_assoc] at h;unfold entB at h;rw[List.append_assoc] at h;obtain⟨c,t,h1,h2⟩:=numB_head y.1 (numB y.2++(K.flatMap entB++q));unfold entB at h1;rw[h1] at h;have h:r=c::t:=h;rcases hr with rfl|⟨t',rfl⟩
  ·cases h
  injection h with h _
  exact absurd h.symm h2
 |x::L,[],r,q,_,hq,h=>by
  rw[List.flatMap_cons,List.append_assoc] at h;unfold entB at h;rw[List.append_assoc] at h;obtain⟨c,t,h1,h2⟩:=numB_head x.1 (numB x.2++(L.flatMap entB++r));unfold entB at h1;rw[h1] at h;have h:c::t=q:=h;rcases hq with rfl|⟨t',rfl⟩
  ·cases h
  injection h with h _
  exact absurd h h2
 |x::L,y::K,r,q,hr,hq,h=>by
  rw[List.flatMap_cons,List.flatMap_cons,List.append_assoc,List.append_assoc] at h;have h:numB x.1++(numB x.2++(L.flatMap entB++r))=numB y.1++(numB y.2++(K.flatMap entB++q)):=by unfold entB at h⊢;simpa[List.append_assoc] using h
  obtain⟨h1,h2⟩:=numB_cut h;obtain⟨h3,h4⟩:=numB_cut h2;obtain⟨h5,h6⟩:=ents_cut hr hq h4;exact⟨by rw[h5,Prod.ext h1 h3],h6⟩
theorem pends_cut:∀{L K:List (List (Int×Int))},L.length=K.length->L.flatMap pendB=K.flatMap pendB->L=K
 |[],[],_,_=>rfl
 |[],_::_,hl,_=>by simp at hl
 |_::_,[],hl,_=>by simp at hl
 |x::L,y::K,hl,h=>by
  have hbar:∀M:List (List (Int×Int)),Barred (M.flatMap pendB):=fun M=>by
   cases M with
   |nil=>exact .inl rfl
   |cons a M=>exact .inr ⟨_,by rw[List.flatMap_cons];unfold pendB;rfl⟩
  rw[List.flatMap_cons,List.flatMap_cons] at h;have h:(124:UInt8)::(x.flatMap entB++L.flatMap pendB)=124::(y.flatMap entB++K.flatMap pendB):=h;injection h with _ h
  obtain⟨h1,h2⟩:=ents_cut (hbar L) (hbar K) h;rw[h1,pends_cut (by simpa using hl) h2]
structure St.Clean(n:Nat)(s:St):Prop where
 ok:s.Ok n
 cl:∀i,s.dn i=false->s.told.getD i 0=0
theorem stKey_inj{n:Nat}{s u:St}(hs:s.Clean n)(hu:u.Clean n)(h:keyB s=keyB u):s=u:=by
 unfold keyB at h;rw[List.append_assoc,List.append_assoc] at h;obtain⟨h1,h2⟩:=dones_cut (by simp[hs.ok.d,hs.ok.t,hu.ok.d,hu.ok.t]) h;obtain⟨h3,h4⟩:=nums_cut (by rw[hs.ok.m.lw,hu.ok.m.lw]) h2;have h5:=pends_cut (by rw[hs.ok.m.lp,hu.ok.m.lp]) h4;have hpair:∀i,i<n->SamePair (s.done.getD i true,s.told.getD i 0) (u.done.getD i true,u.told.getD i 0):=fun i hi=>by
  have e:∀v:St,v.Ok n->(v.done.zip v.told)[i]?=some (v.done.getD i true,v.told.getD i 0):=fun v hv=>by rw[List.getElem?_zip_eq_some];have g1:=hv.d;have g2:=hv.t;rw[List.getD_eq_getElem?_getD,List.getD_eq_getElem?_getD,List.getElem?_eq_getElem (show i<v.done.length by omega),List.getElem?_eq_getElem (show i<v.told.length by omega)];exact⟨rfl,rfl⟩
  exact h1 i _ _ (e s hs.ok) (e u hu.ok)
 have hdone:s.done=u.done:=by
  apply List.ext_getElem?;intro i;rcases Nat.lt_or_ge i n with hi|hi
  ·have:=(hpair i hi).1;have g1:=hs.ok.d;have g2:=hu.ok.d;simp only[List.getD_eq_getElem?_getD,List.getElem?_eq_getElem (show i<s.done.length by omega),List.getElem?_eq_getElem (show i<u.done.length by omega),Option.getD_some] at this;rw[List.getElem?_eq_getElem (show i<s.done.length by omega),List.getElem?_eq_getElem (show i<u.done.length by omega),this]
  rw[List.getElem?_eq_none (by rw[hs.ok.d];exact hi),List.getElem?_eq_none (by rw[hu.ok.d];exact hi)]
 have htold:s.told=u.told:=by
  apply List.ext_getElem?;intro i;rcases Nat.lt_or_ge i n with hi|hi
  ·have hp:=hpair i hi;have g1:=hs.ok.t;have g2:=hu.ok.t;have:s.told.getD i 0=u.told.getD i 0:=by
    cases hd:s.dn i with
    |true=>exact hp.2 hd
    |false=>rw[hs.cl i hd,hu.cl i];unfold St.dn at hd⊢;rw[<-hdone];exact hd
   simp only[List.getD_eq_getElem?_getD,List.getElem?_eq_getElem (show i<s.told.length by omega),List.getElem?_eq_getElem (show i<u.told.length by omega),Option.getD_some] at this;rw[List.getElem?_eq_getElem (show i<s.told.length by omega),List.getElem?_eq_getElem (show i<u.told.length by omega),this]
  rw[List.getElem?_eq_none (by rw[hs.ok.t];exact hi),List.getElem?_eq_none (by rw[hu.ok.t];exact hi)]
 obtain⟨⟨a,b⟩,c,d⟩:=s;obtain⟨⟨a',b'⟩,c',d'⟩:=u;simp only at h3 h5 hdone htold;subst h3;subst h5;subst hdone;subst htold;rfl
theorem first_clean(n:Nat):(St.first n).Clean n:=⟨St.first_ok n,fun i _=>by simp[St.first,List.getD_eq_getElem?_getD,List.getElem?_replicate];split<;>rfl⟩
theorem next_clean{l:List Ev}{s s':St}{x:Pk}(hl:Prog l)(hs:s.Clean l.length)(h:s.next l x=some s'):s'.Clean l.length:=by
 refine⟨St.next_ok hl hs.ok h,fun i hi=>?_⟩;have hsi:s.dn i=false:=by
  cases hd:s.dn i with
  |false=>rfl
  |true=>rw[(next_told h hd).1] at hi;cases hi
 cases hx:x.d with
 |true=>obtain⟨_,_,_,_,_,M',_,rfl⟩:=next_drain hx h;exact hs.cl i hsi
 |false=>
  obtain⟨j,e,hdue,he,_,_,hst⟩:=next_event hx h;have hjl:j<s.done.length:=by rw[hs.ok.d];exact(List.getElem?_eq_some_iff.1 he).1
  unfold St.step at hst;split at hst
  ·injection hst with hst
   subst hst;rw[dn_step hjl] at hi;have hij:¬i=j:=fun e=>by simp[e] at hi
   show(s.told.set j _).getD i 0=0;rw[List.getD_eq_getElem?_getD,List.getElem?_set,if_neg (fun e=>hij e.symm),<-List.getD_eq_getElem?_getD];exact hs.cl i hsi
  split at hst
  ·injection hst with hst
   subst hst;exact hs.cl i hsi
  split at hst
  ·injection hst with hst
   subst hst;exact hs.cl i hsi
  cases hst
end Go.Proofs.YtnigadeohmlpiaaGreatDoor
namespace Go.Proofs.YtnigadeohmlpiaaGreatDoor
theorem cand_all{l:List Ev}{s s':St}{p:Pk}(hl:Prog l)(h:s.next l p=some s'):p∈mayK l s (candK s 4):=by
 unfold mayK;rw[List.mem_filter];refine⟨?_,by rw[h];rfl⟩;unfold candK;rw[List.mem_flatMap];cases hd:p.d with
 |true=>obtain⟨hN,kN,h1,h2,h4,M',hdr,_⟩:=next_drain hd h;obtain⟨y,hy,_⟩:=Mm.drain_parts hdr;have hk:=(List.getElem?_eq_some_iff.1 hy).1;refine⟨hN,List.mem_range.2 h4,?_⟩;unfold candH;rw[List.mem_cons];refine .inr (List.mem_map.2 ⟨kN,List.mem_range.2 hk,?_⟩);obtain⟨ph,pd,pw⟩:=p;simp only at h1 h2 hd;rw[h1,h2,hd]
 |false=>obtain⟨i,e,hdue,he,hh,hw,_⟩:=next_event hd h;have hok:=(hl.ok e (List.mem_of_getElem? he)).h;refine⟨p.h.toNat,List.mem_range.2 (by omega),?_⟩;unfold candH;rw[List.mem_cons];refine .inl ?_;obtain⟨ph,pd,pw⟩:=p;simp only at hh hw hd;rw[hw,hd];simp only[Pk.mk.injEq,and_true];show ph=((ph.toNat:Nat):Int);omega
structure SeenOk(l:List Ev)(stop:List Int→Bool)(S:List (List UInt8))(F:List (List Int))(u:St):Prop where
 cl:u.Clean l.length
 out:∀z,u.outcome l=some z→stop z=false∧z∈F
 on:u.outcome l=none→∀p u',u.next l p=some u'→keyB u'∈S
theorem SeenOk.mono{l:List Ev}{stop:List Int→Bool}{S S':List (List UInt8)}{F F':List (List Int)}{u:St}(h:SeenOk l stop S F u)(hS:∀k∈S,k∈S')(hF:∀z∈F,z∈F'):SeenOk l stop S' F' u:=
 ⟨h.cl,fun z hz=>⟨(h.out z hz).1,hF z (h.out z hz).2⟩,fun h0 p u' hn=>hS _ (h.on h0 p u' hn)⟩
structure NoneOk(l:List Ev)(stop:List Int→Bool)(s:St)(x y:XS):Prop where
 grow:∀k∈x.S,k∈y.S
 new:∀k∈y.S,k∉x.S→∃u xs,k=keyB u∧s.run l xs=some u∧SeenOk l stop y.S y.F u
 keep:∀z∈x.F,z∈y.F
 f:∀z∈y.F,z∈x.F∨∃u xs,s.run l xs=some u∧u.outcome l=some z
 p:y.P=x.P
def SomeOk(l:List Ev)(stop:List Int→Bool)(s:St)(x y:XS):Prop:=∃ys u z,s.run l ys=some u∧u.outcome l=some z∧stop z=true∧y.P=x.P++ys
theorem NoneOk.refl(l:List Ev)(stop:List Int→Bool)(s:St)(x:XS):NoneOk l stop s x x:=⟨fun _ h=>h,fun _ h h'=>absurd h h',fun _ h=>h,fun _ h=>.inl h,rfl⟩
theorem NoneOk.trans{l:List Ev}{stop:List Int→Bool}{s:St}{x y z:XS}(h:NoneOk l stop s x y)(g:NoneOk l stop s y z):NoneOk l stop s x z:=by
 refine⟨fun k hk=>g.grow k (h.grow k hk),fun k hk hx=>?_,fun k hk=>g.keep k (h.keep k hk),fun v hv=>?_,g.p.trans h.p⟩
 ·by_cases hy:k∈y.S
  ·obtain⟨u,xs,h1,h2,h3⟩:=h.new k hy hx;exact⟨u,xs,h1,h2,h3.mono g.grow g.keep⟩
  exact g.new k hk hy
 rcases g.f v hv with h1|h1
 ·exact h.f v h1
 exact .inr h1
theorem NoneOk.ahead{l:List Ev}{stop:List Int→Bool}{s s':St}{p:Pk}{x y:XS}{P P':List Pk}(hn:s.next l p=some s')(h:NoneOk l stop s' ⟨x.S,x.F,P⟩ y)(hP:P'=x.P):NoneOk l stop s x ⟨y.S,y.F,P'⟩:=by
 refine⟨h.grow,fun k hk hx=>?_,h.keep,fun z hz=>?_,hP⟩
 ·obtain⟨u,xs,h1,h2,h3⟩:=h.new k hk hx;refine⟨u,p::xs,h1,?_,h3⟩;show(s.next l p).bind (fun s'=>s'.run l xs)=some u
  rw[hn];exact h2
 rcases h.f z hz with h1|⟨u,xs,h1,h2⟩
 ·exact .inl h1
 refine .inr ⟨u,p::xs,?_,h2⟩;show(s.next l p).bind (fun s'=>s'.run l xs)=some u
 rw[hn];exact h1
section
variable {l : List Ev} {stop : List Int → Bool}
theorem fold_ok{D:St→XS→Bool×XS}{s:St}(hD:∀p s' x,s.next l p=some s'→((D s' x).1=false→NoneOk l stop s' x (D s' x).2∧keyB s'∈(D s' x).2.S)∧((D s' x).1=true→SomeOk l stop s' x (D s' x).2)):
  ∀(L:List Pk) (x:XS),((L.foldl (stepX D l s) (false,x)).1=false→NoneOk l stop s x (L.foldl (stepX D l s) (false,x)).2∧∀p∈L,∀s',s.next l p=some s'→keyB s'∈(L.foldl (stepX D l s) (false,x)).2.S)∧
   ((L.foldl (stepX D l s) (false,x)).1=true→SomeOk l stop s x (L.foldl (stepX D l s) (false,x)).2):=by
 intro L;induction L with
 |nil=>intro x;exact⟨fun _=>⟨NoneOk.refl _ _ _ _,fun p hp=>absurd hp (by simp)⟩,fun h=>by cases h⟩
 |cons p L ih=>
  intro x;rw[List.foldl_cons];cases hn:s.next l p with
  |none=>
   have:stepX D l s (false,x) p=(false,x):=by simp[stepX,hn]
   rw[this];refine⟨fun h=>⟨((ih x).1 h).1,fun q hq s' hs'=>?_⟩,(ih x).2⟩;rcases List.mem_cons.1 hq with rfl|hq
   ·rw[hn] at hs';cases hs'
   exact((ih x).1 h).2 q hq s' hs'
  |some s'=>
   obtain⟨hD1,hD2⟩:=hD p s' ⟨x.S,x.F,x.P++[p]⟩ hn;cases hb:(D s' ⟨x.S,x.F,x.P++[p]⟩).1 with
   |true=>
    rw[step_yes hn hb,show D s' ⟨x.S,x.F,x.P++[p]⟩=(true,(D s' ⟨x.S,x.F,x.P++[p]⟩).2) from Prod.ext hb rfl,fold_true];refine⟨(fun h=>by cases h),fun _=>?_⟩;obtain⟨ys,u,z,h1,h2,h3,h4⟩:=hD2 hb;refine⟨p::ys,u,z,?_,h2,h3,by rw[h4];simp⟩;show(s.next l p).bind (fun s'=>s'.run l ys)=some u
    rw[hn];exact h1
   |false=>
    obtain⟨hN,hkey⟩:=hD1 hb;rw[step_no hn hb];have hA:=hN.ahead (x:=x) (P':=(D s' ⟨x.S,x.F,x.P++[p]⟩).2.P.dropLast) hn (by rw[hN.p];simp);have ih':=ih ⟨(D s' ⟨x.S,x.F,x.P++[p]⟩).2.S,(D s' ⟨x.S,x.F,x.P++[p]⟩).2.F,(D s' ⟨x.S,x.F,x.P++[p]⟩).2.P.dropLast⟩;refine⟨fun h=>?_,fun h=>?_⟩
    ·obtain⟨g1,g2⟩:=ih'.1 h;refine⟨hA.trans g1,fun q hq s'' hs''=>?_⟩;rcases List.mem_cons.1 hq with rfl|hq
     ·rw[hn] at hs'';obtain rfl:=Option.some.inj hs'';exact g1.grow _ hkey
     exact g2 q hq s'' hs''
    obtain⟨ys,u,z,h1,h2,h3,h4⟩:=ih'.2 h;exact⟨ys,u,z,h1,h2,h3,by rw[h4,hA.p]⟩
theorem dfs_ok(hl:Prog l):∀(f:Nat) (s:St) (x:XS),s.Clean l.length→s.meas<f→((dfs l stop f s x).1=false→NoneOk l stop s x (dfs l stop f s x).2∧keyB s∈(dfs l stop f s x).2.S)∧((dfs l stop f s x).1=true→SomeOk l stop s x (dfs l stop f s x).2):=by
 intro f;induction f with
 |zero=>intro s x _ h;omega
 |succ f ih=>
  intro s x hs hf;rw[dfs];by_cases hin:keyB s∈x.S
  ·rw[if_pos hin];exact⟨fun _=>⟨NoneOk.refl _ _ _ _,hin⟩,fun h=>by cases h⟩
  rw[if_neg hin];cases ho:s.outcome l with
  |some z=>
   refine⟨fun h=>⟨⟨fun k hk=>List.mem_cons_of_mem _ hk,fun k hk hx=>?_,fun v hv=>List.mem_append_left _ hv,fun v hv=>?_,rfl⟩,List.mem_cons_self⟩,fun h=>?_⟩
   ·rcases List.mem_cons.1 hk with rfl|hk
    ·refine⟨s,[],rfl,rfl,hs,fun z' hz'=>?_,fun h0=>by rw[ho] at h0;cases h0⟩;rw[ho] at hz';obtain rfl:=Option.some.inj hz';exact⟨h,by simp⟩
    exact absurd hk hx
   ·rcases List.mem_append.1 hv with h1|h1
    ·exact .inl h1
    rw[List.mem_singleton] at h1;subst h1;exact .inr ⟨s,[],rfl,ho⟩
   exact⟨[],s,z,rfl,ho,h,by simp⟩
  |none=>
   have hfold:=fold_ok (l:=l) (stop:=stop) (D:=dfs l stop f) (s:=s) (fun p s' x' hn=>ih s' x' (next_clean hl hs hn) (by have:=next_meas hn;omega)) (mayK l s (candK s 4)) ⟨keyB s::x.S,x.F,x.P⟩;refine⟨fun h=>?_,fun h=>?_⟩
   ·obtain⟨g1,g2⟩:=hfold.1 h;refine⟨⟨fun k hk=>g1.grow k (List.mem_cons_of_mem _ hk),fun k hk hx=>?_,g1.keep,g1.f,g1.p⟩,g1.grow _ List.mem_cons_self⟩;by_cases hks:k=keyB s
    ·exact⟨s,[],hks,rfl,hs,(fun z hz=>by rw[ho] at hz;cases hz),fun _ p u' hu=>g2 p (cand_all hl hu) u' hu⟩
    exact g1.new k hk (fun hc=>(List.mem_cons.1 hc).elim hks hx)
   exact hfold.2 h
theorem next_ended{s s':St}{p:Pk}{z:List Int}(ho:s.outcome l=some z)(h:s.next l p=some s'):s'.outcome l=some z:=by
 obtain⟨hd,hz⟩:=outcome_parts ho;cases hx:p.d with
 |true=>obtain⟨_,_,_,_,_,M',_,rfl⟩:=next_drain hx h;exact ho
 |false=>obtain⟨j,e,hdue,he,_,_,hst⟩:=next_event hx h;obtain⟨_,_,_,hn,_⟩:=St.due_iff.1 hdue;rw[hd j] at hn;cases hn
theorem found_all(hl:Prog l){y:XS}(h:NoneOk l stop (St.first l.length) ⟨[],[],[]⟩ y)(h0:keyB (St.first l.length)∈y.S):∀(xs:List Pk) (u:St),(St.first l.length).run l xs=some u→u.Clean l.length∧(SeenOk l stop y.S y.F u∨∃z,u.outcome l=some z∧stop z=false∧z∈y.F):=by
 have key:∀u:St,u.Clean l.length→keyB u∈y.S→SeenOk l stop y.S y.F u:=fun u hu hk=>by obtain⟨v,_,h1,_,h3⟩:=h.new _ hk (by simp);rw[stKey_inj hu h3.cl h1];exact h3
 intro xs
 suffices H:∀(xs:List Pk) (s u:St),s.Clean l.length→(SeenOk l stop y.S y.F s∨∃z,s.outcome l=some z∧stop z=false∧z∈y.F)→s.run l xs=some u→u.Clean l.length∧(SeenOk l stop y.S y.F u∨∃z,u.outcome l=some z∧stop z=false∧z∈y.F) by intro u hu;exact H xs _ u (first_clean _) (.inl (key _ (first_clean _) h0)) hu
 intro xs;induction xs with
 |nil=>intro s u hs hg hr;obtain rfl:s=u:=Option.some.inj hr;exact⟨hs,hg⟩
 |cons p xs ih=>
  intro s u hs hg hr;obtain⟨s',hn,hr⟩:=Option.bind_eq_some_iff.1 hr;refine ih s' u (next_clean hl hs hn) ?_ hr;rcases hg with hg|⟨z,h1,h2,h3⟩
  ·cases ho:s.outcome l with
   |some z=>exact .inr ⟨z,next_ended ho hn,(hg.out z ho).1,(hg.out z ho).2⟩
   |none=>exact .inl (key s' (next_clean hl hs hn) (hg.on ho p s' hn))
  exact .inr ⟨z,next_ended h1 hn,h2,h3⟩
theorem found_out(hl:Prog l){y:XS}(h:NoneOk l stop (St.first l.length) ⟨[],[],[]⟩ y)(h0:keyB (St.first l.length)∈y.S){xs:List Pk}{z:List Int}(hp:playP l xs=some z):stop z=false∧z∈y.F:=by
 unfold playP at hp;obtain⟨u,hr,ho⟩:=Option.bind_eq_some_iff.1 hp;rcases(found_all hl h h0 xs u hr).2 with h1|⟨z',h1,h2,h3⟩
 ·exact h1.out z ho
 rw[ho] at h1;obtain rfl:=Option.some.inj h1;exact⟨h2,h3⟩
end
theorem first_meas(n:Nat):(St.first n).meas=2*n:=by simp[St.meas,St.first,Mm.zero]
theorem plays_found{l:List Ev}(hl:Prog l){stop:List Int→Bool}(hs:∀z,stop z=false){f:Nat}(hf:2*l.length<f):
  (dfs l stop f (St.first l.length) ⟨[],[],[]⟩).1=false∧∀z,z∈(dfs l stop f (St.first l.length) ⟨[],[],[]⟩).2.F↔∃xs,playP l xs=some z:=by
 obtain⟨h1,h2⟩:=dfs_ok (stop:=stop) hl f (St.first l.length) ⟨[],[],[]⟩ (first_clean _) (by rw[first_meas];exact hf)
 have hb:(dfs l stop f (St.first l.length) ⟨[],[],[]⟩).1=false:=by
  cases hb:(dfs l stop f (St.first l.length) ⟨[],[],[]⟩).1 with
  |false=>rfl
  |true=>obtain⟨_,_,z,_,_,h3,_⟩:=h2 hb;rw[hs z] at h3;cases h3
 obtain⟨h3,h4⟩:=h1 hb;refine⟨hb,fun z=>⟨fun hz=>?_,fun⟨xs,hp⟩=>(found_out hl h3 h4 hp).2⟩⟩;rcases h3.f z hz with h5|⟨u,xs,h5,h6⟩
 ·cases h5
 exact⟨xs,by unfold playP;rw[h5];exact h6⟩
theorem script_found{l:List Ev}(hl:Prog l){stop:List Int→Bool}{want:List Int}(hs:∀z,stop z=true↔z=want){f:Nat}(hf:2*l.length<f):
  ((dfs l stop f (St.first l.length) ⟨[],[],[]⟩).1=true→playP l (dfs l stop f (St.first l.length) ⟨[],[],[]⟩).2.P=some want)∧((dfs l stop f (St.first l.length) ⟨[],[],[]⟩).1=false→∀xs,playP l xs≠some want):=by
 obtain⟨h1,h2⟩:=dfs_ok (stop:=stop) hl f (St.first l.length) ⟨[],[],[]⟩ (first_clean _) (by rw[first_meas];exact hf)
 constructor
 ·intro hb;obtain⟨ys,u,z,h3,h4,h5,h6⟩:=h2 hb;rw[h6];unfold playP;show((St.first l.length).run l ys).bind _=_
  rw[h3,←(hs z).1 h5];exact h4
 intro hb xs hp;obtain⟨h3,h4⟩:=h1 hb;have:=(found_out hl h3 h4 hp).1;rw[(hs want).2 rfl] at this;cases this
theorem some_outcome{l:List Ev}(hl:Prog l):∃xs z,playP l xs=some z:=by
 suffices H:∀(c:Nat) (s:St),s.Ok l.length→s.meas≤c→∃xs u z,s.run l xs=some u∧u.outcome l=some z by obtain⟨xs,u,z,h1,h2⟩:=H _ _ (St.first_ok l.length) (Nat.le_refl _);exact⟨xs,z,by unfold playP;rw[h1];exact h2⟩
 intro c;induction c using Nat.strongRecOn with
 |_ c ih=>
  intro s hs hc;have go:∀p s',s.next l p=some s'→∃xs u z,s.run l xs=some u∧u.outcome l=some z:=fun p s' hn=>by
   have hlt:=next_meas hn;obtain⟨xs,u,z,h1,h2⟩:=ih s'.meas (by omega) s' (St.next_ok hl hs hn) (Nat.le_refl _);refine⟨p::xs,u,z,?_,h2⟩;show(s.next l p).bind (fun s'=>s'.run l xs)=some u
   rw[hn];exact h1
  by_cases hpend:∃h,h<4∧s.m.pend.getD h []≠[]
  ·obtain⟨h,h4,hne⟩:=hpend;cases hp:s.m.pend.getD h [] with
   |nil=>exact absurd hp hne
   |cons y ys=>refine go ⟨h,true,(0:Nat)⟩ _ (next_of_drain h4 (M':=⟨s.m.words.set y.1.toNat y.2,s.m.pend.set h ys⟩) ?_);unfold Mm.drain;rw[hp];rfl
  cases ho:s.outcome l with
  |some z=>exact⟨[],s,z,rfl,ho⟩
  |none=>
   have hex:∃i,s.dn i=false:=by
    refine Classical.byContradiction fun hno=>?_;have:∀i,s.dn i=true:=fun i=>by
     cases hd:s.dn i with
     |true=>rfl
     |false=>exact absurd ⟨i,hd⟩ hno
    rw[outcome_eq this] at ho;cases ho
   obtain⟨i,hi,hmin⟩:∃i,s.dn i=false∧∀j,j<i→s.dn j=true:=by
    obtain⟨i,hi⟩:=hex;induction i using Nat.strongRecOn with
    |_ i ihi=>
     by_cases h:∃j,j<i∧s.dn j=false
     ·obtain⟨j,hj,h⟩:=h;exact ihi j hj h
     exact⟨i,hi,fun j hj=>by
      cases hd:s.dn j with
      |true=>rfl
      |false=>exact absurd ⟨j,hj,hd⟩ h⟩
   have hil:i<l.length:=by
    rcases Nat.lt_or_ge i l.length with h|h
    ·exact h
    unfold St.dn at hi;rw[List.getD_eq_getElem?_getD,List.getElem?_eq_none (by rw[hs.d];exact h)] at hi;cases hi
   have he:l[i]?=some l[i]:=List.getElem?_eq_getElem hil;have hok:=(hl.ok _ (List.mem_of_getElem? he)).h;have hdue:s.due l l[i].h=some i:=St.due_iff.2 ⟨_,he,rfl,hi,fun j ej hj _ _=>hmin j hj⟩;have hem:s.m.pend.getD l[i].h.toNat []=[]:=Classical.byContradiction fun hne=>hpend ⟨_,by omega,hne⟩;have hst:∃s',s.step l[i] i=some s':=by
    unfold St.step;split
    ·exact⟨_,rfl⟩
    split
    ·exact⟨_,rfl⟩
    exact⟨_,rfl⟩
   obtain⟨s',hst⟩:=hst;exact go ⟨l[i].h,false,0⟩ s' (by rw[next_of_due hdue he];exact hst)
end Go.Proofs.YtnigadeohmlpiaaGreatDoor
