/- Contracts and words: whether all accesses that are left can be placed; whether all accesses that are left can be placed; whether events have an order that the axioms let be. No condition of ours. -/
import Derived.Test.YtnigadeohmlpiaaGreatDoorC13
set_option maxHeartbeats 32000000
set_option maxRecDepth 100000
namespace Go.Proofs.YtnigadeohmlpiaaGreatDoor
open Go.RowKit
inductive CanEnd(l:List Ev):AS->Prop
 |done (s:AS):(∀i e,l[i]?=some e->e.acc=true->s.p.testBit i=true)->CanEnd l s
 |step (s s':AS) (i:Nat) (e:Ev):l[i]?=some e->e.acc=true->s.p.testBit i=false->freeP l s i e=some s'->CanEnd l s'->CanEnd l s
theorem free_p{l:List Ev}{s s':AS}{i:Nat}{e:Ev}(h:freeP l s i e=some s'):s'.p=s.p|||2^i:=by
 unfold freeP at h;split at h
 ·cases h
 split at h
 ·split at h
  ·cases h;rfl
  cases h
 cases h;show(s.setw _ _).p|||2^i=_;rw[setw_p]
theorem setw_ok{s:AS}(hs:s.Ok)(a:Nat){n:Int}(hn:I32 n):(s.setw a n).Ok:=by
 unfold AS.setw;split
 ·exact⟨hs.p,hn,hs.w1,hs.w2,hs.w3⟩
 ·exact⟨hs.p,hs.w0,hn,hs.w2,hs.w3⟩
 ·exact⟨hs.p,hs.w0,hs.w1,hn,hs.w3⟩
 exact⟨hs.p,hs.w0,hs.w1,hs.w2,hn⟩
theorem or_lt{p i:Nat}(hp:p<256)(hi:i<8):p|||2^i<256:=Nat.or_lt_two_pow (n:=8) hp (Nat.pow_lt_pow_right (by omega) hi)
theorem mark_ok{s:AS}(hs:s.Ok){i:Nat}(hi:i<8):(s.mark i).Ok:=⟨or_lt hs.p hi,hs.w0,hs.w1,hs.w2,hs.w3⟩
theorem free_ok{l:List Ev}{s s':AS}{i:Nat}{e:Ev}(hs:s.Ok)(hi:i<8)(he:e.Ok)(h:freeP l s i e=some s'):s'.Ok:=by
 unfold freeP at h;split at h
 ·cases h
 split at h
 ·split at h
  ·cases h;exact mark_ok hs hi
  cases h
 cases h;exact mark_ok (setw_ok hs _ he.n) hi
def leftN(l:List Ev)(p:Nat):Nat:=(List.range l.length).countP fun i=>((l[i]?.map Ev.acc).getD false)&&!p.testBit i
theorem testBit_or(p i j:Nat):(p|||2^i).testBit j=(p.testBit j||decide (i=j)):=by rw[Nat.testBit_or,Nat.testBit_two_pow]
theorem countP_lt{α:Type}{L:List α}{f g:α->Bool}(hfg:∀x∈L,g x=true->f x=true){a:α}(ha:a∈L)(h1:f a=true)(h2:g a=false):L.countP g<L.countP f:=by
 induction L with
 |nil=>cases ha
 |cons x L ih=>
  have hmono:L.countP g<=L.countP f:=List.countP_mono_left fun y hy=>hfg y (List.mem_cons_of_mem _ hy);rw[List.countP_cons,List.countP_cons];rcases List.mem_cons.1 ha with rfl|ha
  ·rw[h1,h2];simp;omega
  have:=ih (fun y hy=>hfg y (List.mem_cons_of_mem _ hy)) ha;have h3:=hfg x List.mem_cons_self;cases hg:g x
  ·simp;split<;>omega
  rw[h3 hg];simp;omega
theorem left_lt{l:List Ev}{p i:Nat}{e:Ev}(he:l[i]?=some e)(ha:e.acc=true)(hp:p.testBit i=false):leftN l (p|||2^i)<leftN l p:=by
 unfold leftN;refine countP_lt (a:=i) (fun j _ hj=>?_) (List.mem_range.2 (List.getElem?_eq_some_iff.1 he).1) ?_ ?_
 ·rw[testBit_or] at hj;simp at hj⊢;exact⟨hj.1,hj.2.1⟩
 ·simp[he,ha,hp]
 rw[testBit_or];simp
theorem left_le(l:List Ev)(p:Nat):leftN l p<=l.length:=by have:=List.countP_le_length (p:=fun i=>((l[i]?.map Ev.acc).getD false)&&!p.testBit i) (l:=List.range l.length);rwa[List.length_range] at this
def callsN:Nat->Nat
 |0=>1
 |f+1=>1+8*callsN f
end Go.Proofs.YtnigadeohmlpiaaGreatDoor
namespace Go.Proofs.YtnigadeohmlpiaaGreatDoor
open Go.RowKit
attribute [local go_sem] Oper.semAt_some
def IsDead(w:World)(bm n:Nat)(l:List Ev):Prop:=
 ∃D:DataW Unit,w.ownsMap Tryz.prog 121 (plainElem Tryz.prog 3) bm n D/\∀(s:AS) kl,s.Ok->keyOf Tryz.prog 121 (asV s)=some kl->Maps.has D kl=true->¬CanEnd l s
theorem grown_below{w w':World}(h:Below w.heap.size w w')(row:Option Nat):w.grownBy w' row:=⟨h.os,h.tape,h.output,h.size,fun k hk _=>h.block k hk⟩
theorem grown_sees{w w':World}{bm:Nat}{es:Array MapEntry}{ck:Nat}(h:w.grownBy w' (some bm))(hm:w.heap[bm]?=some (.map es ck)):Sees w w':=
 ⟨h.size,fun k cur e fz _ _ _ hk=>(h.block k (blk_lt hk) (fun e1=>by
  injection e1 with e1
  subst e1;rw[hm] at hk;cases hk)).trans hk⟩
theorem grown_at{w w':World}{bm k:Nat}{o:Obj}(h:w.grownBy w' (some bm))(hk:w.heap[k]?=some o)(hne:k≠bm):w'.heap[k]?=some o:=(h.block k (blk_lt hk) (fun e=>hne (by injection e))).trans hk
theorem dead_map{w:World}{bm n:Nat}{l:List Ev}(h:IsDead w bm n l):∃es ck,w.heap[bm]?=some (.map es ck):=by obtain⟨D,⟨es,ck,h1,_⟩,_⟩:=h;exact⟨es,ck,h1⟩
theorem IsDead.mono{w:World}{bm n n':Nat}{l:List Ev}(h:IsDead w bm n l)(hn:n<=n'):IsDead w bm n' l:=by obtain⟨D,h1,h2⟩:=h;exact⟨D,h1.mono hn,h2⟩
theorem IsDead.below{w w':World}{bm n:Nat}{l:List Ev}(h:IsDead w bm n l)(hb:Below w.heap.size w w'):IsDead w' bm n l:=by obtain⟨D,h1,h2⟩:=h;exact⟨D,h1.kept (grown_below hb none) (by simp),h2⟩
theorem asV_inj{s s':AS}(h:asV s=asV s'):s=s':=by
 obtain⟨p,a,b,c,d⟩:=s;obtain⟨p',a',b',c',d'⟩:=s';unfold asV asC at h;simp only[Value.agg.injEq] at h;have h:=congrArg Array.toList h;simp only[List.cons.injEq,Value.int.injEq,true_and,and_true] at h;obtain⟨h1,h2,h3,h4,h5⟩:=h;have:p=p':=by omega
 subst this h2 h3 h4 h5;rfl
theorem key_inj{s s':AS}{kl:Lit}(h:keyOf Tryz.prog 121 (asV s)=some kl)(h':keyOf Tryz.prog 121 (asV s')=some kl):s=s':=asV_inj (law121.inj h h')
def subN:Nat->Nat
 |0=>0
 |f+1=>callsN f
theorem callsN_sub(f:Nat):callsN f=1+8*subN f:=by cases f<;>rfl
theorem not_end{l:List Ev}{s:AS}{i0:Nat}{e0:Ev}(h0:l[i0]?=some e0)(ha:e0.acc=true)(hp:s.p.testBit i0=false)(h:∀i e s',l[i]?=some e->e.acc=true->s.p.testBit i=false->freeP l s i e=some s'->¬CanEnd l s'):¬CanEnd l s:=by
 intro hc;cases hc with
 |done _ hd=>rw[hd i0 e0 h0 ha] at hp;cases hp
 |step _ s' i e h1 h2 h3 h4 h5=>exact h i e s' h1 h2 h3 h4 h5
def SearchIs(l:List Ev)(s:AS)(o:Ending):Prop:=∃b,o=.returned (.bool b)/\(b=true↔CanEnd l s)
def DoneP(l:List Ev)(p k:Nat):Prop:=∀i e,i<k->l[i]?=some e->e.acc=true->p.testBit i=true
def NoneP(l:List Ev)(s:AS)(k:Nat):Prop:=∀i e s',i<k->l[i]?=some e->e.acc=true->s.p.testBit i=false->freeP l s i e=some s'->¬CanEnd l s'
theorem search_any(px bm:Nat)(A:Option Addr)(m c:Nat)(l:List Ev)(hlen:l.length=m)(hm:m<=8)(hok:∀e∈l,e.Ok)(hpm:px≠bm):∀(f:Nat) (s:AS) (n:Nat) (w:World),leftN l s.p<=f->f<=8->s.Ok->n+callsN f<=1000000000000->IsEvs w A m c l->w.heap[px]?=some (.cells #[.slice A m c,.map (some bm)] 117)->IsDead w bm n l->
  Calls Tryz.prog 73 #[.pointer (some ⟨px,0,none⟩),asV s] w fun o w'=>SearchIs l s o/\w.grownBy w' (some bm)/\IsDead w' bm (n+callsN f) l:=by
 intro f;induction f using Nat.strongRecOn with
 |_ f ih=>
 intro s n w hleft hf8 hs hn he hp hd;obtain⟨p,y0,y1,y2,y3⟩:=s;have HIH:=Jh ih;clear ih;obtain⟨D,hown,hdead⟩:=hd;obtain⟨kl,hkl⟩:=key121 _ hs;obtain⟨es,ck,hmap,hfit⟩:=hown;have hown:w.ownsMap Tryz.prog 121 (plainElem Tryz.prog 3) bm n D:=⟨es,ck,hmap,hfit⟩;obtain⟨W,hW⟩:=exE (w.alloc (.cells #[.int .u64 p,.int .i64 y0,.int .i64 y1,.int .i64 y2,.int .i64 y3] 121));obtain⟨b3,hb3⟩:=exE (w.heap.size)
 have kW:Below w.heap.size w W:=hW▸bA (bR w);have HB:=Jh kW;have HP:=Jh (blk_below kW hp);have H3:=Jh (show W.heap[b3]?=some (.cells #[.int .u64 p,.int .i64 y0,.int .i64 y1,.int .i64 y2,.int .i64 y3] 121) by rw[hW,hb3];exact heap_alloc_new w _);have HE:=Jh (he.sees (Below.sees kW));have HM:=Jh (blk_below kW hmap);have HO:=Jh (hown.kept (grown_below kW none) (by simp));have HDd:=Jh hdead
 have HK:=Jh hkl;have HS:=Jh hs;have HN:=Jh hn;have HLf:=Jh hleft;have hbm:bm≠b3:=by have:=blk_lt hmap;omega
 have HOk:=Jh hok;have HLen:=Jh hlen;have HF:=Jh hf8;clear he hp hown hdead hkl hmap hfit hs hn hleft hok hlen kW hf8;obtain⟨hs9,hhas⟩:=exE (Maps.has D kl);have HH:=Jh hhas;clear hhas;show Calls Tryz.prog 73 #[.pointer (some ⟨px,0,none⟩),.agg #[.int .u64 p,.int .i64 y0,.int .i64 y1,.int .i64 y2,.int .i64 y3]] w _;dsimp only at*;go_enter Tryz.func73,Tryz.ntmps73;go_wp2_with fail;rw[<-hb3,<-hW]
 clear hW hb3;have hq:∀(k:Nat) (l:Nat->Bool) (wx:World),Below W.heap.size W wx->Below W.heap.size W wx:=fun _ _ _ h=>h;have rr:∀(wx:World),wx=wx:=fun _=>rfl
 refine wp_region_det (by kernel_rfl) (fun f=>(⟨#[Value.pointer (some ⟨px,0,none⟩),Value.agg #[Value.int IntKind.u64 (p:Int),.int .i64 y0,.int .i64 y1,.int .i64 y2,.int .i64 y3],undef,Value.pointer (some ⟨b3,0,none⟩),Value.bool false,f 9,f 10,undef,undef,undef,undef,undef,f 6,f 0,f 1,f 2,f 3,f 4,f 5,f 7,f 8,undef,undef,undef,undef,undef,undef,undef,undef,undef,undef,undef,undef,undef,undef,undef,undef,undef,undef,undef,undef,undef,undef,undef,undef,undef,undef,undef,undef,undef,undef,undef,undef,undef,undef,undef,undef,undef,undef,undef,undef,undef,undef,undef,undef],[]⟩:Act)) (fun(iv:Nat) (lv:Nat->Bool) (fv:Nat->Value) (wx:World)=>match iv with|0=>fv 0=.pointer (some ⟨px,0,none⟩)|1=>fv 1=.pointer (some ⟨px,0,none⟩)|2=>fv 2=.pointer (some ⟨px,1,none⟩)|3=>fv 3=.map (some bm)|4=>fv 4=.agg #[.int .u64 p,.int .i64 y0,.int .i64 y1,.int .i64 y2,.int .i64 y3]|5=>∃v9,(fv 5)=.tuple #[v9,.bool hs9]|6=>∃v9,(fv 6)=.tuple #[v9,.bool hs9]|7=>True|8=>fv 8=.bool hs9|9=>True|10=>fv 10=.bool hs9|_=>True) (fun _ wx=>Below W.heap.size W wx) (fun _ w1 w2=>w1=w2) (by kernel_rfl) (fun k=>match k with|_=>undef) rfl ?keep (bD (bR W)) ?steps ?fin
 case keep=>
  intro iv j hij hd l f f' w1 w2 hf hR
  match j with
  |0|1|2|3|4|8|10=>exact fun h=>(hf _ (Ne.symm hij)).trans h
  |5=>intro h;have h:∃v9,(f 5)=.tuple #[v9,.bool hs9]:=h;show∃v9,(f' 5)=.tuple #[v9,.bool hs9];rw[hf 5 (Ne.symm hij)];exact h
  |6=>intro h;have h:∃v9,(f 6)=.tuple #[v9,.bool hs9]:=h;show∃v9,(f' 6)=.tuple #[v9,.bool hs9];rw[hf 6 (Ne.symm hij)];exact h
  |7=>intro h;have h:True:=h;show True;exact trivial
  |9=>intro h;have h:True:=h;show True;exact trivial
  |_+11=>exact id
 case steps=>
  refine fun iv hiv=>stepsOf_at (k:=0) (n:=11) ?_ iv (Nat.zero_le _) (by rw[Nat.zero_add];exact hiv);refine stepsOf_cons (k:=0) (n:=10) ?_ ?_
  ·refine stepOf_run (at0) [] (by kernel_rfl) (fun _ _=>rfl) (fun f wq l hl hun hdn hS hd K' hK=>?_);clear hd;have HK9:=Jh hK;clear hK;go_simp;exact HK9.o _ _ _ rfl rfl (hq 0 l _ hS) (rr _)
  refine stepsOf_cons (k:=1) (n:=9) ?_ ?_
  ·refine stepOf_run (atS (at0)) [0] (by kernel_rfl) (fun _ _=>rfl) (fun f wq l hl hun hdn hS hd K' hK=>?_);obtain⟨e0,-⟩:=hd;have e0:f 0=_:=e0;have HK9:=Jh hK;clear hK;simp only[e0];go_simp;exact HK9.o _ _ _ (by simp only[e0];rfl) rfl (hq 1 l _ hS) (rr _)
  refine stepsOf_cons (k:=2) (n:=8) ?_ ?_
  ·refine stepOf_run (atS (atS (at0))) [1] (by kernel_rfl) (fun _ _=>rfl) (fun f wq l hl hun hdn hS hd K' hK=>?_);obtain⟨e1,-⟩:=hd;have e1:f 1=_:=e1;have HK9:=Jh hK;clear hK;simp only[e1];go_simp;exact HK9.o _ _ _ (by simp only[e1];rfl) rfl (hq 2 l _ hS) (rr _)
  refine stepsOf_cons (k:=3) (n:=7) ?_ ?_
  ·refine stepOf_run (atS (atS (atS (at0)))) [2] (by kernel_rfl) (fun _ _=>rfl) (fun f wq l hl hun hdn hS hd K' hK=>?_);obtain⟨e2,-⟩:=hd;have e2:f 2=_:=e2;have HK9:=Jh hK;clear hK;obtain⟨r0,r1,_⟩:=cells2 (blk_below hS HP.o);simp only[e2];go_simp;exact HK9.o _ _ _ (by simp only[e2];rfl) rfl hS rfl
  refine stepsOf_cons (k:=4) (n:=6) ?_ ?_
  ·refine stepOf_run (atS (atS (atS (atS (at0))))) [] (by kernel_rfl) (fun _ _=>rfl) (fun f wq l hl hun hdn hS hd K' hK=>?_);clear hd;have HK9:=Jh hK;clear hK;obtain⟨s0,s1,s2,s3,s4,_⟩:=cells5 (blk_below hS H3.o);go_simp;exact HK9.o _ _ _ rfl rfl hS rfl
  refine stepsOf_cons (k:=5) (n:=5) ?_ ?_
  ·refine stepOf_run (atS (atS (atS (atS (atS (at0)))))) [3,4] (by kernel_rfl) (fun _ _=>rfl) (fun f wq l hl hun hdn hS hd K' hK=>?_);obtain⟨e3,e4,-⟩:=hd;have e3:f 3=_:=e3;have e4:f 4=_:=e4;have HK9:=Jh hK;clear hK
   obtain⟨v,ps,hrun,hv⟩:=(HO.o.kept (grown_below hS none) (by simp)).look_ok law121 Tryz.underlying115 (z:=.int .i64 0) (by rfl) (zd:=.lit (.int .i64 0)) (zp:=[]) (plainElem_int Tryz.underlying3 (by decide)) HK.o;rw[<-HH.o] at hrun;have hrun:(Instr.lookup 115 (.map (some bm)) (.agg #[.int .u64 p,.int .i64 y0,.int .i64 y1,.int .i64 y2,.int .i64 y3]) true).run Tryz.prog wq=_:=hrun;clear hv
   simp only[e3,e4];go_simp;exact HK9.o _ _ _ (by simp only[e3,e4];rfl) ⟨_,rfl⟩ hS rfl
  refine stepsOf_cons (k:=6) (n:=4) ?_ ?_
  ·refine stepOf_run (atS (atS (atS (atS (atS (atS (at0))))))) [5] (by kernel_rfl) (fun _ _=>rfl) (fun f wq l hl hun hdn hS hd K' hK=>?_);obtain⟨e5,-⟩:=hd;have e5:∃v9,(f 5)=.tuple #[v9,.bool hs9]:=e5;have HK9:=Jh hK;clear hK;obtain⟨v,hv⟩:=e5;simp only[hv];go_simp;exact HK9.o _ _ _ (by simp only[hv];rfl) ⟨_,rfl⟩ hS rfl
  refine stepsOf_cons (k:=7) (n:=3) ?_ ?_
  ·refine stepOf_run (atS (atS (atS (atS (atS (atS (atS (at0)))))))) [6] (by kernel_rfl) (fun _ _=>rfl) (fun f wq l hl hun hdn hS hd K' hK=>?_);obtain⟨e6,-⟩:=hd;have e6:∃v9,(f 6)=.tuple #[v9,.bool hs9]:=e6;have HK9:=Jh hK;clear hK;obtain⟨v,hv⟩:=e6;simp only[hv];go_simp;exact HK9.o _ _ _ (by simp only[hv];rfl) trivial hS rfl
  refine stepsOf_cons (k:=8) (n:=2) ?_ ?_
  ·refine stepOf_run (atS (atS (atS (atS (atS (atS (atS (atS (at0))))))))) [6] (by kernel_rfl) (fun _ _=>rfl) (fun f wq l hl hun hdn hS hd K' hK=>?_);obtain⟨e6,-⟩:=hd;have e6:∃v9,(f 6)=.tuple #[v9,.bool hs9]:=e6;have HK9:=Jh hK;clear hK;obtain⟨v,hv⟩:=e6;simp only[hv];go_simp;exact HK9.o _ _ _ (by simp only[hv];rfl) rfl hS rfl
  refine stepsOf_cons (k:=9) (n:=1) ?_ ?_
  ·refine stepOf_run (atS (atS (atS (atS (atS (atS (atS (atS (atS (at0)))))))))) [5,6,7] (by kernel_rfl) (fun _ _=>rfl) (fun f wq l hl hun hdn hS hd K' hK=>?_);obtain⟨e5,e6,e7,-⟩:=hd;have e5:∃v9,(f 5)=.tuple #[v9,.bool hs9]:=e5;have e6:∃v9,(f 6)=.tuple #[v9,.bool hs9]:=e6;have e7:True:=e7;have HK9:=Jh hK;clear hK;clear e5 e6 e7;go_simp;exact HK9.o (f 7) _ _ rfl trivial hS rfl
  refine stepsOf_cons (k:=10) (n:=0) ?_ ?_
  ·refine stepOf_run (atS (atS (atS (atS (atS (atS (atS (atS (atS (atS (at0))))))))))) [5,6,7,8,9] (by kernel_rfl) (fun _ _=>rfl) (fun f wq l hl hun hdn hS hd K' hK=>?_);obtain⟨e5,e6,e7,e8,e9,-⟩:=hd;have e5:∃v9,(f 5)=.tuple #[v9,.bool hs9]:=e5;have e6:∃v9,(f 6)=.tuple #[v9,.bool hs9]:=e6;have e7:True:=e7;have e8:f 8=_:=e8;have e9:True:=e9;have HK9:=Jh hK;clear hK;clear e5 e6 e7 e9;simp only[e8]
   go_simp;exact HK9.o _ _ _ (by simp only[e8];rfl) rfl (hq 10 l _ hS) (rr _)
  exact trivial
 case fin=>
  intro fo W1 lo hl hall hS;have a0:fo 0=_:=hall 0 (by decide);have a1:fo 1=_:=hall 1 (by decide);have a2:fo 2=_:=hall 2 (by decide);have a3:fo 3=_:=hall 3 (by decide);have a4:fo 4=_:=hall 4 (by decide);have a5:∃v9,(fo 5)=.tuple #[v9,.bool hs9]:=hall 5 (by decide);have a6:∃v9,(fo 6)=.tuple #[v9,.bool hs9]:=hall 6 (by decide);have a7:True:=hall 7 (by decide);have a8:fo 8=_:=hall 8 (by decide)
  have a9:True:=hall 9 (by decide);have a10:fo 10=_:=hall 10 (by decide);clear hall;rw[a10];clear a0 a1 a2 a3 a4 a5 a6 a7 a8 a9 a10 hl;have k1:Below W.heap.size W W1:=hS;have HB1:=Jh (bT HB.o k1);have HP1:=Jh (blk_below k1 HP.o);have H31:=Jh (blk_below k1 H3.o);have HE1:=Jh (HE.o.sees (Below.sees k1));have HM1:=Jh (blk_below k1 HM.o);have HO1:=Jh (HO.o.kept (grown_below k1 none) (by simp))
  clear k1 hS;cases hs9
  ·obtain⟨r0,r1,_⟩:=cells2 HP1.o;go_wp2_with fail;go_loopw [7,27] (fun vl vi wr=>∃(k:Nat) (left:Bool) (n9:Nat),k<=m/\vi=.int .i64 k/\vl=.bool left/\(left=false->DoneP l p k)/\(left=true->∃i e,l[i]?=some e/\e.acc=true/\p.testBit i=false)/\NoneP l ⟨p,y0,y1,y2,y3⟩ k/\W1.grownBy wr (some bm)/\IsDead wr bm n9 l/\n9+(8-k)*subN f+1<=n+callsN f) (fun _ vi _=>m-(intOf vi).toNat)
   case atStart=>exact⟨0,false,n,Nat.zero_le _,rfl,rfl,fun _ i e h=>absurd h (Nat.not_lt_zero _),(fun h=>by cases h),fun i e s' h=>absurd h (Nat.not_lt_zero _),grown_below (bR W1) _,⟨D,HO1.o,HDd.o⟩,(by rw[callsN_sub];omega)⟩
   case round=>
    obtain⟨k,left,n9,hk,rfl,rfl,hd1,hd2,hnone,hg,hdead,hn9⟩:=hrel;have HD1:=Jh hd1;have HD2:=Jh hd2;have HNo:=Jh hnone;have HG:=Jh hg;have HDe:=Jh hdead;have HN9:=Jh hn9;have HPr:=Jh (grown_at hg HP1.o hpm);have H3r:=Jh (grown_at hg H31.o hbm.symm);have HEr:=Jh (HE1.o.sees (grown_sees hg HM1.o));clear hd1 hd2 hnone hg hdead hn9 r0 r1;by_cases hlt:k<m
    ·have hlb:decide ((k:Int)<(m:Int))=true:=by simp;omega
     have hkm:(k:Int)<(m:Int):=by omega
     have hk0:decide ((k:Int)<0)=false:=by simp
     obtain⟨ge,oe,e,hA,hek,hc0,hc1,hc2,hc3⟩:=HEr.o.at_ hlt;subst hA;obtain⟨W2,hW2⟩:=exE (wr.alloc (.cells #[.int .i64 e.h,.int .i64 e.k,.int .i64 e.a,.int .i64 e.n] 44));obtain⟨b9,hb9⟩:=exE (wr.heap.size);have k2:Below wr.heap.size wr W2:=hW2▸bA (bR wr);have H92:=Jh (show W2.heap[b9]?=some (.cells #[.int .i64 e.h,.int .i64 e.k,.int .i64 e.a,.int .i64 e.n] 44) by rw[hW2,hb9];exact heap_alloc_new wr _)
     have HK2:=Jh k2;have HEk:=Jh hek;have HAc:=Jh (isAccess_any e W2);unfold evV at HAc;obtain⟨q1,hq1⟩:=exE (e.acc);rw[<-hq1] at HAc;have HQ1:=Jh hq1;go_upto_region 8 with fail
     rw[<-hW2,<-hb9];clear hc0 hc1 hc2 hc3 k2 hW2 hb9 hek hq1;obtain⟨q0,q2,q3,q4,_⟩:=cells4 H92.o;go_wp2_with fail;refine HAc.o.mono ?_;rintro o w3 ⟨rfl,hb3⟩;have HK3:=Jh (bT HK2.o hb3);clear hb3 q0 q2 q3 q4;have HG3:=Jh (HG.o.trans (grown_below HK3.o _));have HDe3:=Jh (HDe.o.below HK3.o);have HP3:=Jh (blk_below HK3.o HPr.o);have H33:=Jh (blk_below HK3.o H3r.o);obtain⟨s0,s1,s2,s3,s4,_⟩:=cells5 H33.o
     cases q1
     ·have hnn:n9+(8-(k+1))*subN f+1<=n+callsN f:=by have h1:=HN9.o;have h2:(8-(k+1))*subN f<=(8-k)*subN f:=Nat.mul_le_mul_right _ (by omega);omega
      have HD1x:=Jh (show left=false->DoneP l p (k+1) from fun hl i e' hi he' ha=>by
       rcases Nat.lt_or_ge i k with h1|h1
       ·exact HD1.o hl i e' h1 he' ha
       obtain rfl:i=k:=by omega
       obtain rfl:e'=e:=Option.some.inj (he'.symm.trans HEk.o);rw[<-HQ1.o] at ha;cases ha)
      have HNox:=Jh (show NoneP l ⟨p,y0,y1,y2,y3⟩ (k+1) from fun i e' s' hi he' ha hb hf=>by
       rcases Nat.lt_or_ge i k with h1|h1
       ·exact HNo.o i e' s' h1 he' ha hb hf
       obtain rfl:i=k:=by omega
       obtain rfl:e'=e:=Option.some.inj (he'.symm.trans HEk.o);rw[<-HQ1.o] at ha;cases ha)
      have HNN:=Jh hnn;clear hnn;go_wp2_with fail;go_roundw;case rel=>exact⟨k+1,left,n9,by omega,by go_num,rfl,HD1x.o,HD2.o,HNox.o,HG3.o,HDe3.o,HNN.o⟩
      case measure=>simp[intOf];omega
     have hsh:=bit_set (j:=k) HS.o.p;dsimp only at hsh;cases hbit:p.testBit k
     ·rw[hbit] at hsh;have HBit:=Jh hbit;clear hbit;have HD2x:=Jh (show∃i e,l[i]?=some e/\e.acc=true/\p.testBit i=false from⟨k,e,HEk.o,HQ1.o.symm,HBit.o⟩);have HFr:=Jh (free_any px bm (some ⟨ge,oe,none⟩) m c k l e ⟨p,y0,y1,y2,y3⟩ w3 (HEr.o.sees (Below.sees HK3.o)) (by omega) HEk.o (HOk.o e (List.mem_of_getElem? HEk.o)) HP3.o HS.o.p)
      have HFr:=Jh (show Calls Tryz.prog 102 #[.pointer (some ⟨px,0,none⟩),.agg #[.int .u64 p,.int .i64 y0,.int .i64 y1,.int .i64 y2,.int .i64 y3],.int .i64 k] w3 _ from HFr.o);go_wp2_with fail;refine HFr.o.mono ?_;rintro o w4 ⟨rfl,hb4⟩;have HK4:=Jh (bT HK3.o hb4);have HG4:=Jh (HG3.o.trans (grown_below hb4 _));have HDe4:=Jh (HDe3.o.below hb4);have HP4:=Jh (blk_below hb4 HP3.o);clear hb4 s0 s1 s2 s3 s4
      cases hfr:freeP l ⟨p,y0,y1,y2,y3⟩ k e with
      |none=>
       have hnn:n9+(8-(k+1))*subN f+1<=n+callsN f:=by have h1:=HN9.o;have h2:(8-(k+1))*subN f<=(8-k)*subN f:=Nat.mul_le_mul_right _ (by omega);omega
       have HNox:=Jh (show NoneP l ⟨p,y0,y1,y2,y3⟩ (k+1) from fun i e' s' hi he' ha hb hf=>by
        rcases Nat.lt_or_ge i k with h1|h1
        ·exact HNo.o i e' s' h1 he' ha hb hf
        obtain rfl:i=k:=by omega
        obtain rfl:e'=e:=Option.some.inj (he'.symm.trans HEk.o);rw[hfr] at hf;cases hf)
       have HNN:=Jh hnn;clear hnn hfr;obtain⟨s0,s1,s2,s3,s4,_⟩:=cells5 (heap_alloc_new w4 (.cells #[.int .u64 p,.int .i64 y0,.int .i64 y1,.int .i64 y2,.int .i64 y3] 121));unfold freeV asV asC;dsimp only;go_wp2_with fail;go_roundw;case rel=>exact⟨k+1,true,n9,by omega,by go_num,rfl,(fun h=>by cases h),fun _=>HD2x.o,HNox.o,HG4.o.trans (grown_below (bA (bR w4)) _),HDe4.o.below (bA (bR w4)),HNN.o⟩
       case measure=>simp[intOf];omega
      |some s2=>
       have HFe:=Jh hfr;have hlt2:leftN l s2.p<leftN l p:=by rw[free_p hfr];exact left_lt HEk.o HQ1.o.symm HBit.o
       have hs2:=free_ok HS.o (by omega) (HOk.o e (List.mem_of_getElem? HEk.o)) hfr;obtain⟨f1,rfl⟩:∃f1,f=f1+1:=⟨f-1,by have:=HLf.o;omega⟩;obtain⟨W5,hW5⟩:=exE (w4.alloc (.cells (asC s2) 121));have k5:Below w4.heap.size w4 W5:=hW5▸bA (bR w4)
       have HCl:=Jh (HIH.o f1 (by omega) s2 n9 W5 (by have:=HLf.o;omega) (by have:=HF.o;omega) hs2 (by have h1:=HN9.o;have h2:=HN.o;have h3:subN (f1+1)<=(8-k)*subN (f1+1):=Nat.le_mul_of_pos_left _ (by omega);have h4:subN (f1+1)=callsN f1:=rfl;omega) (HEr.o.sees (Below.sees (bT HK4.o k5))) (blk_below k5 HP4.o) (HDe4.o.below k5));have hnn:n9+callsN f1+(8-(k+1))*subN (f1+1)+1<=n+callsN (f1+1):=by
        have h1:=HN9.o;have h2:(8-(k+1))*subN (f1+1)+subN (f1+1)<=(8-k)*subN (f1+1):=by rw[<-Nat.succ_mul];exact Nat.mul_le_mul_right _ (by omega)
        have h4:subN (f1+1)=callsN f1:=rfl;omega
       have HNN:=Jh hnn;have HG5:=Jh (HG4.o.trans (grown_below k5 _));clear hfr hlt2 hs2 hnn k5;obtain⟨p2,x0,x1,x2,x3⟩:=s2;unfold freeV asV asC at*;dsimp only at*;obtain⟨s0,s1,s2,s3,s4,_⟩:=cells5 (heap_alloc_new w4 (.cells #[.int .u64 p2,.int .i64 x0,.int .i64 x1,.int .i64 x2,.int .i64 x3] 121));rw[<-hW5] at s0 s1 s2 s3 s4;go_upto_region 11 with fail
       rw[<-hW5];clear hW5;go_wp2_with fail;refine HCl.o.mono ?_;rintro o w6 ⟨⟨b,rfl,hbc⟩,hg6,hde6⟩;have HG6:=Jh (HG5.o.trans hg6);have HDe6:=Jh hde6;have HBc:=Jh hbc;clear hg6 hde6 hbc s0 s1 s2 s3 s4;cases b
       ·skip
        have HNox:=Jh (show NoneP l ⟨p,y0,y1,y2,y3⟩ (k+1) from fun i e' s' hi he' ha hb hf=>by
         rcases Nat.lt_or_ge i k with h1|h1
         ·exact HNo.o i e' s' h1 he' ha hb hf
         obtain rfl:i=k:=by omega
         obtain rfl:e'=e:=Option.some.inj (he'.symm.trans HEk.o);obtain rfl:=Option.some.inj (hf.symm.trans HFe.o);exact fun hc=>absurd (HBc.o.2 hc) (by simp))
        go_wp2_with fail;go_roundw;case rel=>exact⟨k+1,true,n9+callsN f1,by omega,by go_num,rfl,(fun h=>by cases h),fun _=>HD2x.o,HNox.o,HG6.o,HDe6.o,HNN.o⟩
        case measure=>simp[intOf];omega
       have HCE:=Jh (CanEnd.step ⟨p,y0,y1,y2,y3⟩ _ k e HEk.o HQ1.o.symm HBit.o HFe.o (HBc.o.1 rfl));go_wp2_with fail;go_ret;exact⟨⟨true,rfl,fun _=>HCE.o,fun _=>rfl⟩,(grown_below HB1.o _).trans HG6.o,HDe6.o.mono (by have:=HNN.o;omega)⟩
     rw[hbit] at hsh;have HBit:=Jh hbit;clear hbit;have hnn:n9+(8-(k+1))*subN f+1<=n+callsN f:=by have h1:=HN9.o;have h2:(8-(k+1))*subN f<=(8-k)*subN f:=Nat.mul_le_mul_right _ (by omega);omega
     have HD1x:=Jh (show left=false->DoneP l p (k+1) from fun hl i e' hi he' ha=>by
      rcases Nat.lt_or_ge i k with h1|h1
      ·exact HD1.o hl i e' h1 he' ha
      obtain rfl:i=k:=by omega
      obtain rfl:e'=e:=Option.some.inj (he'.symm.trans HEk.o);exact HBit.o)
     have HNox:=Jh (show NoneP l ⟨p,y0,y1,y2,y3⟩ (k+1) from fun i e' s' hi he' ha hb hf=>by
      rcases Nat.lt_or_ge i k with h1|h1
      ·exact HNo.o i e' s' h1 he' ha hb hf
      obtain rfl:i=k:=by omega
      obtain rfl:e'=e:=Option.some.inj (he'.symm.trans HEk.o);exact absurd (HBit.o.symm.trans hb) (by simp))
     have HNN:=Jh hnn;clear hnn;go_wp2_with fail;go_roundw;case rel=>exact⟨k+1,left,n9,by omega,by go_num,rfl,HD1x.o,HD2.o,HNox.o,HG3.o,HDe3.o,HNN.o⟩
     case measure=>simp[intOf];omega
    have hlb:decide ((k:Int)<(m:Int))=false:=by simp;omega
    obtain rfl:k=m:=by omega
    cases left
    ·have HCE:=Jh (CanEnd.done ⟨p,y0,y1,y2,y3⟩ (fun i e hi ha=>HD1.o rfl i e (by have:=(List.getElem?_eq_some_iff.1 hi).1;have:=HLen.o;omega) hi ha));go_wp2_with fail;go_ret;exact⟨⟨true,rfl,fun _=>HCE.o,fun _=>rfl⟩,(grown_below HB1.o _).trans HG.o,HDe.o.mono (by have:=HN9.o;omega)⟩
    obtain⟨i0,e0,hi0,ha0,hb0⟩:=HD2.o rfl;have HCN:=Jh (show¬CanEnd l ⟨p,y0,y1,y2,y3⟩ from not_end hi0 ha0 hb0 (fun i e s' hi=>HNo.o i e s' (by have:=(List.getElem?_eq_some_iff.1 hi).1;have:=HLen.o;omega) hi));clear hi0 ha0 hb0;obtain⟨D9,hown9,hdead9⟩:=HDe.o;have HO9:=Jh hown9;have HD9:=Jh hdead9;clear hown9 hdead9;go_wp2_with fail
    have hq:∀(k:Nat) (l:Nat->Bool) (wx:World),(((l 5)=false->Below wr.heap.size wr wx)/\((l 5)=true->wr.grownBy wx (some bm)/\wx.ownsMap Tryz.prog 121 (plainElem Tryz.prog 3) bm (n9+1) (D9.put kl (.lit (.int .i64 1)))))->(if k=5 then True else(((decide (5=k)||l 5)=false->Below wr.heap.size wr wx)/\((decide (5=k)||l 5)=true->wr.grownBy wx (some bm)/\wx.ownsMap Tryz.prog 121 (plainElem Tryz.prog 3) bm (n9+1) (D9.put kl (.lit (.int .i64 1)))))):=fun k l wx h=>by
     split
     ·trivial
     rename_i hk;have e:decide (5=k)=false:=by simp;omega
     rw[e,Bool.false_or];exact h
    have rr:∀(wx:World),wx=wx:=fun _=>rfl
    refine wp_region_det (by kernel_rfl) (fun f=>(⟨#[Value.pointer (some ⟨px,0,none⟩),Value.agg #[Value.int IntKind.u64 (p:Int),.int .i64 y0,.int .i64 y1,.int .i64 y2,.int .i64 y3],undef,Value.pointer (some ⟨b3,0,none⟩),u4,fo 9,Value.bool false,Value.bool true,u8,u9,u10,u11,fo 6,fo 0,fo 1,fo 2,fo 3,fo 4,fo 5,fo 7,fo 8,Value.bool false,Value.pointer (some ⟨px,0,none⟩),Value.pointer (some ⟨px,0,none⟩),Value.pointer (some ⟨px,0,none⟩),Value.slice A k c,.int .i64 (k:Int),.int .i64 (k:Int),Value.bool false,u29,u30,u31,u32,u33,u34,u35,u36,u37,u38,u39,u40,u41,u42,u43,u44,u45,u46,u47,u48,u49,u50,u51,u52,u53,u54,u55,u56,Value.bool true,f 0,f 1,f 2,f 3,f 4,undef,undef],[]⟩:Act)) (fun(iv:Nat) (lv:Nat->Bool) (fv:Nat->Value) (wx:World)=>match iv with|0=>fv 0=.pointer (some ⟨px,0,none⟩)|1=>fv 1=.pointer (some ⟨px,0,none⟩)|2=>fv 2=.pointer (some ⟨px,1,none⟩)|3=>fv 3=.map (some bm)|4=>fv 4=.agg #[.int .u64 p,.int .i64 y0,.int .i64 y1,.int .i64 y2,.int .i64 y3]|5=>True|_=>True) (fun lv wx=>((lv 5)=false->Below wr.heap.size wr wx)/\((lv 5)=true->wr.grownBy wx (some bm)/\wx.ownsMap Tryz.prog 121 (plainElem Tryz.prog 3) bm (n9+1) (D9.put kl (.lit (.int .i64 1))))) (fun _ w1 _=>w1=w1) (by kernel_rfl) (fun k=>match k with|_=>undef) rfl ?keep ⟨fun _=>bD (bR wr),(fun h=>by cases h)⟩ ?steps ?fin
    case keep=>
     intro iv j hij hd l f f' w1 w2 hf hR
     match j with
     |0|1|2|3|4=>exact fun h=>(hf _ (Ne.symm hij)).trans h
     |5=>intro h;have h:True:=h;show True;exact trivial
     |_+6=>exact id
    case steps=>
     refine fun iv hiv=>stepsOf_at (k:=0) (n:=6) ?_ iv (Nat.zero_le _) (by rw[Nat.zero_add];exact hiv);refine stepsOf_cons (k:=0) (n:=5) ?_ ?_
     ·refine stepOf_run (at0) [] (by kernel_rfl) (fun _ _=>rfl) (fun f wq l hl hun hdn hS hd K' hK=>?_);clear hd;have HK9:=Jh hK;clear hK;go_simp;exact HK9.o _ _ _ rfl rfl (hq 0 l _ hS) (rr _)
     refine stepsOf_cons (k:=1) (n:=4) ?_ ?_
     ·refine stepOf_run (atS (at0)) [0] (by kernel_rfl) (fun _ _=>rfl) (fun f wq l hl hun hdn hS hd K' hK=>?_);obtain⟨e0,-⟩:=hd;have e0:f 0=_:=e0;have HK9:=Jh hK;clear hK;simp only[e0];go_simp;exact HK9.o _ _ _ (by simp only[e0];rfl) rfl (hq 1 l _ hS) (rr _)
     refine stepsOf_cons (k:=2) (n:=3) ?_ ?_
     ·refine stepOf_run (atS (atS (at0))) [1] (by kernel_rfl) (fun _ _=>rfl) (fun f wq l hl hun hdn hS hd K' hK=>?_);obtain⟨e1,-⟩:=hd;have e1:f 1=_:=e1;have HK9:=Jh hK;clear hK;simp only[e1];go_simp;exact HK9.o _ _ _ (by simp only[e1];rfl) rfl (hq 2 l _ hS) (rr _)
     refine stepsOf_cons (k:=3) (n:=2) ?_ ?_
     ·refine stepOf_run (atS (atS (atS (at0)))) [2] (by kernel_rfl) (fun _ _=>rfl) (fun f wq l hl hun hdn hS hd K' hK=>?_);obtain⟨e2,-⟩:=hd;have e2:f 2=_:=e2;have HK9:=Jh hK;clear hK;have hB:=hS.1 (hun 5 (of_decide_eq_true (by kernel_rfl)));obtain⟨r0,r1,_⟩:=cells2 (blk_below hB HPr.o);simp only[e2];go_simp;exact HK9.o _ _ _ (by simp only[e2];rfl) rfl (hq 3 l _ hS) rfl
     refine stepsOf_cons (k:=4) (n:=1) ?_ ?_
     ·refine stepOf_run (atS (atS (atS (atS (at0))))) [] (by kernel_rfl) (fun _ _=>rfl) (fun f wq l hl hun hdn hS hd K' hK=>?_);clear hd;have HK9:=Jh hK;clear hK;have hB:=hS.1 (hun 5 (of_decide_eq_true (by kernel_rfl)));obtain⟨s0,s1,s2,s3,s4,_⟩:=cells5 (blk_below hB H3r.o);go_simp;exact HK9.o _ _ _ rfl rfl (hq 4 l _ hS) rfl
     refine stepsOf_cons (k:=5) (n:=0) ?_ ?_
     ·refine stepOf_run (atS (atS (atS (atS (atS (at0)))))) [3,4] (by kernel_rfl) (fun _ _=>rfl) (fun f wq l hl hun hdn hS hd K' hK=>?_);obtain⟨e3,e4,-⟩:=hd;have e3:f 3=_:=e3;have e4:f 4=_:=e4;have HK9:=Jh hK;clear hK;have hB:=hS.1 hl
      obtain⟨w9,hrun,ho9,hg9⟩:=(HO9.o.kept (grown_below hB none) (by simp)).update law121 Tryz.underlying115 (by have:=HN9.o;have:=HN.o;unfold maxLen;omega) HK.o (val:=.int .i64 1) (plainElem_int Tryz.underlying3 (by decide));have hrun:(Instr.mapUpdate 115 (.map (some bm)) (.agg #[.int .u64 p,.int .i64 y0,.int .i64 y1,.int .i64 y2,.int .i64 y3]) (.int .i64 1)).run Tryz.prog wq=_:=hrun
      have HG9:=Jh (And.intro ho9 ((grown_below hB (some bm)).trans hg9));clear ho9 hg9 hB;simp only[e3,e4];go_simp;exact HK9.o undef _ _ (by simp only[e3,e4];rfl) trivial ⟨(fun h=>by simp at h),fun _=>⟨HG9.o.2,HG9.o.1⟩⟩ rfl
     exact trivial
    case fin=>
     intro fp wz lp hl hall hS;clear hall;obtain⟨hgz,hoz⟩:=hS.2 (hl 5 (by decide));have HGz:=Jh hgz;have HOz:=Jh hoz;clear hl hS hgz hoz;go_wp2_with fail;go_ret;refine⟨⟨false,rfl,(fun h=>by cases h),fun hc=>absurd hc HCN.o⟩,((grown_below HB1.o _).trans HG.o).trans HGz.o,D9.put kl (.lit (.int .i64 1)),HOz.o.mono (by have:=HN9.o;omega),fun s9 kl9 hs9 hk9 hh9=>?_⟩;by_cases hkk:kl9=kl
     ·subst hkk;have h:=key_inj hk9 HK.o;rw[h];exact HCN.o
     rw[Maps.has_put_other hkk] at hh9;exact HD9.o s9 kl9 hs9 hk9 hh9
  have HNC:=Jh (HDd.o _ _ HS.o HK.o HH.o.symm);go_wp2_with fail;go_ret;exact⟨⟨false,rfl,by simpa using HNC.o⟩,grown_below HB1.o _,D,HO1.o.mono (Nat.le_add_right _ _),HDd.o⟩
end Go.Proofs.YtnigadeohmlpiaaGreatDoor
namespace Go.Proofs.YtnigadeohmlpiaaGreatDoor
open Go.RowKit
attribute [local go_sem] Oper.semAt_some
def AS.zero:AS:=⟨0,0,0,0,0⟩
theorem AS.zero_ok:AS.zero.Ok:=⟨by decide,i32_zero,i32_zero,i32_zero,i32_zero⟩
theorem allowed_any(A:Option Addr)(n c:Nat)(l:List Ev)(w:World)(he:IsEvs w A n c l)(hn:n<=8)(hok:∀e∈l,e.Ok):
  Calls Tryz.prog 45 #[.slice A n c] w fun o w'=>SearchIs l AS.zero o/\Below w.heap.size w w':=by
 obtain⟨bm,hbm⟩:=exE (w.heap.size);obtain⟨px,hpx⟩:=exE (bm+1);obtain⟨W1,hW1⟩:=exE (w.alloc (.map #[] 0));obtain⟨W,hW⟩:=exE (W1.alloc (.cells #[.slice A n c,.map (some bm)] 117));have s1:W1.heap.size=bm+1:=by rw[hW1,World.size_alloc,hbm]
 have k1:Below W1.heap.size W1 W:=hW▸bA (bR W1);have kW:Below w.heap.size w W:=bT (hW1▸bA (bR w)) k1;have hown:W1.ownsMap Tryz.prog 121 (plainElem Tryz.prog 3) bm 0 (.map []:DataW Unit):=by rw[hW1,hbm];exact World.ownsMap_made w _ _ _
 have HD:=Jh (show IsDead W bm 0 l from⟨.map [],hown.kept (grown_below k1 none) (by simp),fun s kl _ _ h=>absurd h (by simp[Maps.has])⟩);have HP:=Jh (show W.heap[px]?=some (.cells #[.slice A n c,.map (some bm)] 117) by rw[hW,hpx,<-s1];exact heap_alloc_new W1 _);have HB:=Jh kW;have HE:=Jh (he.sees (Below.sees kW));have HR:=Jh (axRight_yes A n c l W HE.o hn hok)
 have hWW:W=(w.alloc (.map #[] 0)).alloc (.cells #[.slice A n c,.map (some bm)] 117):=by rw[hW,hW1]
 have HLen:=Jh he.len;have HOk:=Jh hok;have HNe:=Jh (show px≠bm by omega);have HL:=Jh (show w.heap.size<=bm by omega);clear hown k1 kW he hok hW hW1;have hmm:=@run_makeMap Tryz.prog;go_enter Tryz.func45,Tryz.ntmps45;go_wp2_with fail;rw[<-hbm,<-hpx,<-hWW];clear hbm hpx hWW s1 hmm;refine HR.o.mono ?_;rintro o w2 ⟨rfl,hb2⟩;have HB2:=Jh hb2
 have HCl:=Jh (search_any px bm A n c l HLen.o hn HOk.o HNe.o 8 AS.zero 0 w2 (Nat.le_trans (left_le l _) (by have:=HLen.o;omega)) (Nat.le_refl _) AS.zero_ok (by decide) (HE.o.sees (Below.sees hb2)) (blk_below hb2 HP.o) (HD.o.below hb2));have HCl:=Jh (show Calls Tryz.prog 73 #[.pointer (some ⟨px,0,none⟩),.agg #[.int .u64 0,.int .i64 0,.int .i64 0,.int .i64 0,.int .i64 0]] w2 _ from HCl.o);clear hb2
 go_wp2_with fail;refine HCl.o.mono ?_;rintro o w3 ⟨⟨b,rfl,hb⟩,hg,_⟩;have HG:=Jh hg;have HBb:=Jh hb;clear hg hb;go_wp2_with fail;go_ret;exact⟨⟨b,rfl,HBb.o⟩,(bT HB.o HB2.o).grown HG.o (bT HB.o HB2.o).size (fun j hj=>by cases hj;exact HL.o)⟩
end Go.Proofs.YtnigadeohmlpiaaGreatDoor
