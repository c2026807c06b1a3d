/- Contracts and words: the document's search for an order and the program's let the same lists be; Words for the walks that let loads tell something else. No condition of ours. -/
import Derived.Test.YtnigadeohmlpiaaGreatDoorC34
import Derived.Test.YtnigadeohmlpiaaGreatDoorC26
set_option maxHeartbeats 32000000
set_option maxRecDepth 100000
namespace Go.Proofs.YtnigadeohmlpiaaGreatDoor
variable {l : List Ev}
def place1(l:List Ev)(t:AS)(i:Nat):AS:=match l[i]?with
 |some e=>if e.k=1 then t.mark i else(t.setw e.a.toNat e.n).mark i
 |none=>t
def stOf(l:List Ev)(xs:List Nat):AS:=xs.foldl (place1 l) AS.zero
theorem stOf_snoc(xs:List Nat)(i:Nat):stOf l (xs++[i])=place1 l (stOf l xs) i:=by unfold stOf;rw[List.foldl_append];rfl
theorem place1_p{i:Nat}{e:Ev}(h:l[i]?=some e)(t:AS)(j:Nat):(place1 l t i).p.testBit j=(t.p.testBit j||decide (i=j)):=by
 unfold place1;rw[h];dsimp only;split
 ·exact testBit_or _ _ _
 rw[<-testBit_or];show(((t.setw _ _).p)|||2^i).testBit j=_;rw[setw_p]
theorem snoc_ind{α:Type}{P:List α->Prop}(h0:P [])(h1:∀xs x,P xs->P (xs++[x]))(xs:List α):P xs:=by
 have:∀ys:List α,P ys.reverse:=fun ys=>by
  induction ys with
  |nil=>exact h0
  |cons y ys ih=>rw[List.reverse_cons];exact h1 _ _ ih
 have:=this xs.reverse;rwa[List.reverse_reverse] at this
def Accs(l:List Ev)(xs:List Nat):Prop:=∀j∈xs,∃e,l[j]?=some e/\e.acc=true
theorem stOf_p:∀{xs:List Nat},Accs l xs->∀j,(stOf l xs).p.testBit j=decide (j∈xs):=by
 intro xs;induction xs using snoc_ind with
 |h0=>intro _ j;show(0:Nat).testBit j=_;simp
 |h1 xs i ih=>intro ha j;obtain⟨e,he,_⟩:=ha i (by simp);rw[stOf_snoc,place1_p he,ih (fun k hk=>ha k (by simp[hk]))];by_cases h1:j∈xs<;>by_cases h2:i=j<;>simp[h1,h2,eq_comm]
def wdL(l:List Ev)(a:Int)(n:Int)(xs:List Nat):Int:=xs.foldl (fun n j=>match l[j]?with
 |some y=>if y.k=2/\y.a=a then y.n else n
 |none=>n) n
theorem stOf_wd(hm:EvsOk l){a:Nat}(ha:a<4):∀{xs:List Nat},Accs l xs->(stOf l xs).wd a=wdL l a 0 xs:=by
 intro xs;induction xs using snoc_ind with
 |h0=>
  intro _;show AS.zero.wd a=0
  match a,ha with
  |0,_=>rfl
  |1,_=>rfl
  |2,_=>rfl
  |3,_=>rfl
 |h1 xs i ih=>
  intro hacc;obtain⟨e,he,hea⟩:=hacc i (by simp);have hok:=hm.at_ he;have hi:=ih (fun k hk=>hacc k (by simp[hk]));rw[stOf_snoc];unfold wdL;rw[List.foldl_append];show _=(match l[i]?with
   |some y=>if y.k=2/\y.a=a then y.n else wdL l a 0 xs
   |none=>wdL l a 0 xs)
  unfold place1;rw[he];dsimp only;obtain⟨h1,h2⟩:=hok.a;rcases of_acc hea with hk|hk
  ·rw[if_pos hk,wd_mark,hi,if_neg (by omega)]
  rw[if_neg (by omega),wd_mark,wd_setw _ _ (by omega) _ ha,hi];by_cases haa:e.a=a
  ·rw[if_pos (by omega),if_pos ⟨hk,haa⟩]
  rw[if_neg (by omega),if_neg (by omega)]
def Hit(l:List Ev)(i:Nat)(x:Ev)(j:Nat):Prop:=∃y,l[j]?=some y/\y.k=2/\y.a=x.a/\j<i/\y.h=x.h
theorem valStep_false{i j:Nat}{x:Ev}{n:Int}:(Hit l i x j->∃y,l[j]?=some y/\valStep l i x (false,n) j=(false,y.n))/\(¬Hit l i x j->valStep l i x (false,n) j=(false,n)):=by
 unfold valStep;constructor
 ·rintro⟨y,h1,h2,h3,h4,h5⟩;refine⟨y,h1,?_⟩;rw[h1];unfold valHit;simp[h2,h3,h4,h5]
 intro hn;cases hy:l[j]?with
 |none=>simp
 |some y=>
  have:valHit false i x j y=false:=by
   cases hv:valHit false i x j y with
   |false=>rfl
   |true=>unfold valHit at hv;simp only[Bool.false_or,Bool.and_eq_true,beq_iff_eq,decide_eq_true_eq] at hv;exact absurd ⟨y,hy,hv.1.1,hv.1.2,hv.2.1,hv.2.2⟩ hn
  simp[this]
theorem val_none{i:Nat}{x:Ev}:∀{zs:List Nat} {n:Int},(∀j∈zs,¬Hit l i x j)->zs.foldl (valStep l i x) (false,n)=(false,n)
 |[],_,_=>rfl
 |z::zs,n,h=>by rw[List.foldl_cons,valStep_false.2 (h z (by simp))];exact val_none fun j hj=>h j (by simp[hj])
theorem val_fst{i:Nat}{x:Ev}:∀{zs:List Nat} {n:Int},(zs.foldl (valStep l i x) (false,n)).1=false
 |[],_=>rfl
 |z::zs,n=>by rw[List.foldl_cons];show(zs.foldl (valStep l i x) (false,_)).1=false;exact val_fst
theorem val_some{i j:Nat}{x y:Ev}{ps bs:List Nat}{n:Int}(hj:l[j]?=some y)(hh:Hit l i x j)(hb:∀k∈bs,¬Hit l i x k):(ps++j::bs).foldl (valStep l i x) (false,n)=(false,y.n):=by rw[List.foldl_append,List.foldl_cons];obtain⟨m,hm⟩:∃m,ps.foldl (valStep l i x) (false,n)=(false,m):=⟨_,Prod.ext val_fst rfl⟩;rw[hm];obtain⟨y',h1,h2⟩:=(valStep_false (n:=m)).1 hh;rw[hj] at h1;cases h1;rw[h2];exact val_none hb
theorem val_true{i:Nat}{x:Ev}:∀{xs:List Nat} {n:Int},i∉xs->xs.foldl (valStep l i x) (true,n)=(true,wdL l x.a n xs)
 |[],_,_=>rfl
 |z::xs,n,h=>by
  have hz:z≠i:=fun e=>h (by simp[e]);have h1:valStep l i x (true,n) z=(true,match l[z]?with
   |some y=>if y.k=2/\y.a=x.a then y.n else n
   |none=>n):=by
   unfold valStep;cases l[z]?with
   |none=>simp[hz]
   |some y=>unfold valHit;by_cases hk:y.k=2<;>by_cases ha:y.a=x.a<;>simp[hz,hk,ha]
  rw[List.foldl_cons,h1];exact val_true fun hm=>h (by simp[hm])
theorem val_self{i:Nat}{x:Ev}{n:Int}(hx:l[i]?=some x)(h1:x.k=1):valStep l i x (true,n) i=(false,n):=by unfold valStep;rw[hx];unfold valHit;simp[h1]
theorem pending_none{p:Nat}{x:Ev}:∀{k:Nat},pendingP l p x k=none->∀(j:Nat) (y:Ev),j<k->l[j]?=some y->x.waits p j y=false
 |0,_,j,y,h,_=>absurd h (by omega)
 |k+1,hp,j,y,h,hy=>by
  unfold pendingP at hp;cases hk:l[k]?with
  |none=>
   rw[hk] at hp;by_cases hjk:j=k
   ·subst hjk;rw[hk] at hy;cases hy
   exact pending_none hp j y (by omega) hy
  |some e=>
   rw[hk] at hp;dsimp only at hp;cases hw:x.waits p k e with
   |true=>rw[hw] at hp;cases hp
   |false=>
    rw[hw] at hp;by_cases hjk:j=k
    ·subst hjk;rw[hk] at hy;cases hy;exact hw
    exact pending_none hp j y (by omega) hy
theorem pending_some{p:Nat}{x:Ev}{z:Int}:∀{k:Nat},pendingP l p x k=some z->∃j y,j<k/\l[j]?=some y/\x.waits p j y=true/\y.n=z/\∀(f:Nat) (e:Ev),j<f->f<k->l[f]?=some e->x.waits p f e=false
 |0,hp=>by cases hp
 |k+1,hp=>by
  unfold pendingP at hp;cases hk:l[k]?with
  |none=>
   rw[hk] at hp;obtain⟨j,y,h1,h2,h3,h4,h5⟩:=pending_some hp;refine⟨j,y,by omega,h2,h3,h4,fun f e h6 h7 h8=>?_⟩;by_cases hfk:f=k
   ·subst hfk;rw[hk] at h8;cases h8
   exact h5 f e h6 (by omega) h8
  |some e=>
   rw[hk] at hp;dsimp only at hp;cases hw:x.waits p k e with
   |true=>rw[hw] at hp;exact⟨k,e,by omega,hk,hw,Option.some.inj hp,fun f e' h6 h7=>absurd h6 (by omega)⟩
   |false=>
    rw[hw] at hp;obtain⟨j,y,h1,h2,h3,h4,h5⟩:=pending_some hp;refine⟨j,y,by omega,h2,h3,h4,fun f e' h6 h7 h8=>?_⟩;by_cases hfk:f=k
    ·subst hfk;rw[hk] at h8;cases h8;exact hw
    exact h5 f e' h6 (by omega) h8
theorem waits_iff{p i j:Nat}{x y:Ev}(hy:l[j]?=some y)(hj:j<i):x.waits p j y=true↔Hit l i x j/\p.testBit j=false:=by
 unfold Ev.waits;constructor
 ·intro h;simp only[Bool.and_eq_true,beq_iff_eq,Bool.not_eq_true'] at h;exact⟨⟨y,hy,h.1.1.2,h.1.2,hj,h.1.1.1⟩,h.2⟩
 rintro⟨⟨y',h1,h2,h3,h4,h5⟩,h6⟩;rw[hy] at h1;cases h1;simp[h2,h3,h5,h6]
def Turn(l:List Ev)(j i:Nat):Prop:=∀(x y:Ev),l[i]?=some x->l[j]?=some y->keepsB l i j x y=false
structure Full(l:List Ev)(ys:List Nat):Prop where
 nd:ys.Nodup
 acc:Accs l ys
 all:∀(i:Nat) (e:Ev),l[i]?=some e->e.acc=true->i∈ys
 turn:ys.Pairwise (Turn l)
theorem turn_iff{ys:List Nat}:(∀a,a<ys.length->∀b,b<a->InTurn l ys a b)↔ys.Pairwise (Turn l):=by
 rw[List.pairwise_iff_getElem];constructor
 ·intro h b a hb ha hba x y hx hy;exact h a ha b hba ys[a] ys[b] x y (List.getElem?_eq_getElem ha) hx (List.getElem?_eq_getElem hb) hy
 intro h a ha b hba i j x y h1 h2 h3 h4;obtain⟨hb,rfl⟩:=List.getElem?_eq_some_iff.1 h3;obtain⟨_,rfl⟩:=List.getElem?_eq_some_iff.1 h1;exact h b a hb ha hba x y h2 h4
theorem keepsB_store{i k:Nat}{x y:Ev}(hik:i<k)(hh:x.h=y.h)(hx:x.k=2)(hy:y.k=2)(ha:x.a=y.a):keepsB l i k x y=true:=by unfold keepsB keepsE Ev.acc;simp[hik,hh,hx,hy,ha]
theorem keepsB_acc{i k:Nat}{x y:Ev}(h:keepsB l i k x y=true):x.acc=true/\y.acc=true/\i<k/\keepsE l i k x y=true:=by unfold keepsB at h;simp only[Bool.and_eq_true] at h;refine⟨h.1.1,h.1.2,?_,h.2⟩;have h2:=h.2;unfold keepsE at h2;simp only[Bool.and_eq_true,decide_eq_true_eq] at h2;exact h2.1.1
theorem value_eq(hm:EvsOk l){xs zs:List Nat}{i:Nat}{x:Ev}(hF:Full l (xs++i::zs))(hx:l[i]?=some x)(h1:x.k=1):
  (valueP l i x (xs++i::zs)).2=(pendingP l (stOf l xs).p x i).getD ((stOf l xs).wd x.a.toNat):=by
 have hnd:=hF.nd;rw[List.nodup_append] at hnd;obtain⟨hn1,hn2,hn3⟩:=hnd;have hix:i∉xs:=fun h=>hn3 i h i (by simp) rfl;have haxs:Accs l xs:=fun j hj=>hF.acc j (by simp[hj]);obtain⟨ha1,ha2⟩:=(hm.at_ hx).a;have hwd:(stOf l xs).wd x.a.toNat=wdL l x.a 0 xs:=by rw[stOf_wd hm (by omega) haxs];congr 1;omega
 have hbit:=stOf_p haxs;have hzx:∀j∈zs,(stOf l xs).p.testBit j=false:=fun j hj=>by rw[hbit];simp only[decide_eq_false_iff_not];exact fun h=>hn3 j h j (by simp[hj]) rfl
 have hval:valueP l i x (xs++i::zs)=zs.foldl (valStep l i x) (false,wdL l x.a 0 xs):=by unfold valueP;rw[List.foldl_append,val_true hix,List.foldl_cons,val_self hx h1]
 rw[hval,hwd];have hin:∀j,Hit l i x j->(stOf l xs).p.testBit j=false->j∈zs:=fun j hj hb=>by
  obtain⟨y,h2,h3,_,h5,_⟩:=hj;have h6:=hF.all j y h2 (acc_of (.inr h3));rcases List.mem_append.1 h6 with h7|h7
  ·rw[hbit] at hb;simp[h7] at hb
  rcases List.mem_cons.1 h7 with h8|h8
  ·omega
  exact h8
 have htz:zs.Pairwise (Turn l):=by have:=hF.turn;rw[List.pairwise_append] at this;exact(List.pairwise_cons.1 this.2.1).2
 cases hp:pendingP l (stOf l xs).p x i with
 |none=>
  rw[val_none]
  ·rfl
  intro j hj hh;have hh':=hh;obtain⟨y,h2,_,_,h5,_⟩:=hh';have h6:=pending_none hp j y h5 h2;rw[(waits_iff h2 h5).2 ⟨hh,hzx j hj⟩] at h6;cases h6
 |some z=>
  obtain⟨j,y,h2,h3,h4,h5,h6⟩:=pending_some hp;obtain⟨hh,hb⟩:=(waits_iff h3 h2).1 h4;have hjz:=hin j hh hb;obtain⟨ps,bs,rfl⟩:=List.append_of_mem hjz;rw[val_some h3 hh]
  ·exact h5
  intro k hk hhk;have hkz:k∈ps++j::bs:=by simp[hk]
  have hhk':=hhk;obtain⟨yk,g1,g2,g3,g4,g5⟩:=hhk';obtain⟨yj,f1,f2,f3,f4,f5⟩:=hh;have hkj:k≠j:=by rintro rfl;have:=(List.nodup_cons.1 hn2).2;rw[List.nodup_append] at this;exact(List.nodup_cons.1 this.2.1).1 hk
  have htk:Turn l j k:=by rw[List.pairwise_append] at htz;exact(List.pairwise_cons.1 htz.2.1).1 k hk
  rcases Nat.lt_or_ge k j with hlt|hge
  ·have:=htk yk yj g1 f1;rw[keepsB_store hlt (g5.trans f5.symm) g2 f2 (g3.trans f3.symm)] at this;cases this
  have:=h6 k yk (by omega) g4 g1;rw[(waits_iff g1 g4).2 ⟨hhk,hzx k hkz⟩] at this;cases this
theorem blocked_iff{xs:List Nat}(ha:Accs l xs){i:Nat}{e:Ev}(hea:e.acc=true):blocked l (stOf l xs).p i e=false↔∀(k:Nat) (y:Ev),k<i->l[k]?=some y->keepsB l k i y e=true->k∈xs:=by
 unfold blocked;rw[List.any_eq_false];constructor
 ·intro h k y hk hy hkb;have h1:=h k (List.mem_range.2 hk);unfold blockedAt at h1;rw[hy] at h1;obtain⟨h2,_,_,h3⟩:=keepsB_acc hkb;rw[stOf_p ha] at h1;simp only[h2,h3,Bool.true_and,Bool.and_true,Bool.not_eq_true',decide_eq_false_iff_not,Classical.not_not] at h1;exact h1
 intro h k hk;unfold blockedAt;cases hy:l[k]?with
 |none=>simp
 |some y=>dsimp only;intro hb;simp only[Bool.and_eq_true] at hb;have h1:=h k y (List.mem_range.1 hk) hy (by unfold keepsB;rw[hb.1.1,hea,hb.2];rfl);rw[stOf_p ha] at hb;simp[h1] at hb
theorem acc_count:∀k:Nat,((List.range k).filter fun i=>((l[i]?).map Ev.acc).getD false).length=accN l k
 |0=>rfl
 |k+1=>by
  rw[List.range_succ,List.filter_append,List.length_append,acc_count k];cases h:l[k]?with
  |none=>unfold accN;rw[List.take_add_one,h];simp[h]
  |some e=>rw[accN_succ h];cases ha:e.acc<;>simp[h,ha]
theorem full_ordered{ys:List Nat}(hF:Full l ys):OrderedP l ys:=by
 refine⟨hF.all,?_⟩;have h1:(l.filter Ev.acc).length=accN l l.length:=by unfold accN;rw[List.take_length]
 rw[h1,<-acc_count];refine Nat.le_antisymm (nodup_len (List.nodup_range.filter _) fun z hz=>?_) (nodup_len hF.nd fun z hz=>?_)
 ·obtain⟨h2,h3⟩:=List.mem_filter.1 hz;cases he:l[z]?with
  |none=>simp[he] at h3
  |some e=>simp[he] at h3;exact hF.all z e he h3
 obtain⟨e,he,ha⟩:=hF.acc z hz;exact List.mem_filter.2 ⟨List.mem_range.2 (List.getElem?_eq_some_iff.1 he).1,by simp[he,ha]⟩
theorem full_canEnd(hm:EvsOk l){ys:List Nat}(hF:Full l ys)(hH:HoldsP l ys):∀(zs xs:List Nat),ys=xs++zs->CanEnd l (stOf l xs)
 |[],xs,he=>by rw[List.append_nil] at he;subst he;refine .done _ fun i e h1 h2=>?_;rw[stOf_p hF.acc];simpa using hF.all i e h1 h2
 |i::zs,xs,he=>by
  have hxs:Accs l xs:=fun j hj=>hF.acc j (by rw[he];simp[hj]);obtain⟨e,h1,h2⟩:=hF.acc i (by rw[he];simp);have ih:=full_canEnd hm hF hH zs (xs++[i]) (by rw[he];simp);have hnd:=hF.nd;rw[he,List.nodup_append] at hnd;have hix:i∉xs:=fun h=>hnd.2.2 i h i (by simp) rfl;have hb:blocked l (stOf l xs).p i e=false:=(blocked_iff hxs h2).2 fun k y hk hy hkb=>by
   obtain⟨h3,_,_,_⟩:=keepsB_acc hkb;have h4:=hF.all k y hy h3;rw[he] at h4;rcases List.mem_append.1 h4 with h5|h5
   ·exact h5
   rcases List.mem_cons.1 h5 with h6|h6
   ·omega
   have ht:=hF.turn;rw[he,List.pairwise_append] at ht;have:=(List.pairwise_cons.1 ht.2.1).1 k h6 y e hy h1;rw[hkb] at this;cases this
  refine .step _ (stOf l (xs++[i])) i e h1 h2 ?_ ?_ ih
  ·rw[stOf_p hxs];simpa using hix
  rw[stOf_snoc];unfold place1;rw[h1];dsimp only;rcases of_acc h2 with hk|hk
  ·rw[if_pos hk];refine free_load_eq hb hk ?_;have hv:=value_eq hm (he▸hF) h1 hk;rw[<-hv,<-he];have hlen:xs.length<ys.length:=by rw[he];simp
   exact(hH.2 xs.length hlen).2 i e (by rw[he];simp) h1 hk
  rw[if_neg (by omega)];exact free_store_eq hb hk
theorem canHold_full{xs:List Nat}(hc:CanHold l xs):xs.Nodup->Accs l xs->∃ys,Full l ys/\HoldsP l ys:=by
 induction hc with
 |done xs h1 h2=>exact fun h3 h4=>⟨xs,⟨h3,h4,h1.1,turn_iff.1 fun a ha=>(h2.2 a ha).1⟩,h2⟩
 |step xs i h1 h2 h3 ih=>
  intro h4 h5;obtain⟨x,g1,g2,g3,_⟩:=h2;refine ih ?_ fun j hj=>?_
  ·rw[List.nodup_append];refine⟨h4,by simp,fun a ha b hb=>?_⟩;simp only[List.mem_singleton] at hb;subst hb;rintro rfl;exact g3 ha
  rcases List.mem_append.1 hj with h6|h6
  ·exact h5 j h6
  simp only[List.mem_singleton] at h6;subst h6;exact⟨x,g1,g2⟩
theorem full_canHold{ys:List Nat}(hF:Full l ys)(hH:HoldsP l ys):∀(zs xs:List Nat),ys=xs++zs->CanHold l xs
 |[],xs,he=>by rw[List.append_nil] at he;subst he;exact .done _ hH.1 hH
 |i::zs,xs,he=>by
  obtain⟨e,h1,h2⟩:=hF.acc i (by rw[he];simp);have ih:=full_canHold hF hH zs (xs++[i]) (by rw[he];simp);have hnd:=hF.nd;rw[he,List.nodup_append] at hnd;have hix:i∉xs:=fun h=>hnd.2.2 i h i (by simp) rfl;refine .step _ i (fun h=>hix (h.1 i e h1 h2)) ⟨e,h1,h2,hix,fun k y hk hy hkb=>?_⟩ ih;obtain⟨h3,_,_,_⟩:=keepsB_acc hkb;have h4:=hF.all k y hy h3;rw[he] at h4;rcases List.mem_append.1 h4 with h5|h5
  ·exact h5
  rcases List.mem_cons.1 h5 with h6|h6
  ·omega
  have ht:=hF.turn;rw[he,List.pairwise_append] at ht;have:=(List.pairwise_cons.1 ht.2.1).1 k h6 y e hy h1;rw[hkb] at this;cases this
theorem canEnd_full(hm:EvsOk l){t:AS}(hc:CanEnd l t):∀xs:List Nat,t=stOf l xs->xs.Nodup->Accs l xs->xs.Pairwise (Turn l)->(∀j∈xs,∀(k:Nat) (x y:Ev),l[k]?=some x->l[j]?=some y->keepsB l k j x y=true->k∈xs)->
  ∃zs,Full l (xs++zs)/\∀(i:Nat) (x:Ev),i∈zs->l[i]?=some x->x.k=1->(valueP l i x (xs++zs)).2=x.n:=by
 induction hc with
 |done t hd=>intro xs ht hnd ha htn _;refine⟨[],?_,fun i x hi=>by cases hi⟩;rw[List.append_nil];refine⟨hnd,ha,fun i e h1 h2=>?_,htn⟩;have:=hd i e h1 h2;rw[ht,stOf_p ha] at this;simpa using this
 |step t t' i e h1 h2 h3 h4 h5 ih=>
  intro xs ht hnd ha htn hcl;subst ht;obtain⟨g1,g2,g3⟩:=free_parts h4;have hix:i∉xs:=by rw[stOf_p ha] at h3;simpa using h3
  have hst:t'=stOf l (xs++[i]):=by
   rw[stOf_snoc];unfold place1;rw[h1];dsimp only;by_cases hk:e.k=1
   ·rw[if_pos hk];exact(g2 hk).2
   rw[if_neg hk];exact g3 hk
  have hfree:=(blocked_iff ha h2).1 g1;obtain⟨zs,hF,hv⟩:=ih (xs++[i]) hst (by
   rw[List.nodup_append];refine⟨hnd,by simp,fun a ha b hb=>?_⟩;simp only[List.mem_singleton] at hb;subst hb;rintro rfl;exact hix ha) (fun j hj=>by
   rcases List.mem_append.1 hj with h6|h6
   ·exact ha j h6
   ·simp only[List.mem_singleton] at h6;subst h6;exact⟨e,h1,h2⟩) (by
   rw[List.pairwise_append];refine⟨htn,by simp,fun j hj k hk=>?_⟩;simp only[List.mem_singleton] at hk;subst hk;intro x y hx hy;cases hkb:keepsB l k j x y with
   |false=>rfl
   |true=>exact absurd (hcl j hj k x y hx hy hkb) hix) (by
   intro j hj k x y hx hy hkb;rcases List.mem_append.1 hj with h6|h6
   ·exact List.mem_append.2 (.inl (hcl j h6 k x y hx hy hkb))
   simp only[List.mem_singleton] at h6;subst h6;rw[h1] at hy;cases hy;exact List.mem_append.2 (.inl (hfree k x (keepsB_acc hkb).2.2.1 hx hkb)))
  have heq:xs++[i]++zs=xs++i::zs:=by simp
  rw[heq] at hF hv;refine⟨i::zs,hF,fun j x hj hx hk=>?_⟩;rcases List.mem_cons.1 hj with h6|h6
  ·subst h6;rw[h1] at hx;cases hx;rw[value_eq hm hF h1 hk];exact(g2 hk).1
  exact hv j x h6 hx hk
theorem accs_nil:Accs l []:=fun j hj=>by cases hj
theorem canHold_iff(hm:EvsOk l):CanHold l []↔CanEnd l AS.zero:=by
 constructor
 ·intro h;obtain⟨ys,hF,hH⟩:=canHold_full h List.nodup_nil accs_nil;exact full_canEnd hm hF hH ys [] rfl
 intro h;obtain⟨zs,hF,hv⟩:=canEnd_full hm h [] rfl List.nodup_nil accs_nil List.Pairwise.nil (fun j hj=>by cases hj);rw[List.nil_append] at hF hv;refine full_canHold hF ⟨full_ordered hF,fun a ha=>⟨turn_iff.2 hF.turn a ha,fun i x h1 h2 h3=>hv i x (List.mem_of_getElem? h1) h2 h3⟩⟩ zs [] rfl
end Go.Proofs.YtnigadeohmlpiaaGreatDoor
namespace Go.Proofs.YtnigadeohmlpiaaGreatDoor
open Go.RowKit
theorem tk_stored{w:World}{base g n cap j:Nat}{e:TypeId}{size:Nat}{xs:List Value}{u:Value}(h:w.ownsRow base e size (.slice (some ⟨g,0,none⟩) n cap) n xs):Tk [e] w (w.setCell ⟨g,j,none⟩ u):=by
 rcases h.2 with⟨h',_⟩|⟨g',cap',cur,h',_,hg,_⟩
 ·simp at h'
 simp only[Value.slice.injEq,Option.some.injEq,Addr.mk.injEq,and_true,true_and] at h';obtain⟨rfl,rfl⟩:=h';refine⟨by simp[World.setCell],fun k cur' e' fz he hk=>?_⟩;have hne:k≠g:=fun e1=>by
  rw[e1,hg] at hk;injection hk with hk
  injection hk with _ h2
  exact he (by simp[h2])
 rw[set_other _ hne];exact hk
theorem own_two{w w':World}{base base' n n' size size':Nat}{e e':TypeId}{v v':Value}{xs ys:List Value}(hM:w.ownsRow base e size v n xs)(hX:w.ownsRow base' e' size' v' n' ys)(hg:w.grownBy w' v'.ownBlock)(hne:e≠e'):w'.ownsRow base e size v n xs:=by
 refine own_tk (T:=[e']) hM ⟨hg.size,fun k cur f fz he hk=>?_⟩ (by simpa using hne);refine(hg.block k (blk_lt hk) (fun e1=>?_)).trans hk;rcases hX.2 with⟨h',_⟩|⟨g',cap',cur',h',_,h2,_⟩
 ·rw[h'] at e1;cases e1
 rw[h'] at e1;injection e1 with e1
 subst e1;rw[h2] at hk;injection hk with hk
 injection hk with _ h3
 exact he (by simp[h3])
theorem loads_succ{M:List Ev}{k:Nat}{e:Ev}(h:M[k]?=some e):loadsOf (M.take (k+1))=loadsOf (M.take k)++if e.k=1 then[e.n] else[]:=by unfold loadsOf;rw[List.take_add_one,h,List.filterMap_append];by_cases h1:e.k=1<;>simp[h1]
theorem loads_len(M:List Ev)(k:Nat):(loadsOf (M.take k)).length<=k:=by
 unfold loadsOf;have h1:=List.length_filterMap_le (fun e:Ev=>if e.k=1 then some e.n else none) (M.take k)
 rw[List.length_take] at h1;omega
theorem told_step{pl M:List Ev}{k:Nat}{e:Ev}{z:Int}(ht:Told' pl M)(hk:pl[k]?=some e)(hM:∀j,k<=j->M[j]?=pl[j]?)(h1:e.k=1)(hz:I32 z):
  Told' pl (setN M k z)/\(∀j,k+1<=j->(setN M k z)[j]?=pl[j]?)/\loadsOf ((setN M k z).take (k+1))=loadsOf (M.take k)++[z]/\(setN M k z)[k]?=some (e.tell z):=by
 have hk2:(setN M k z)[k]?=some (e.tell z):=by rw[setN_at,if_pos rfl,hM k (Nat.le_refl _),hk];rfl
 refine⟨⟨by rw[setN_len];exact ht.len,fun i x hx=>?_⟩,fun j hj=>?_,?_,hk2⟩
 ·by_cases hik:k=i
  ·subst hik;rw[hk] at hx;cases hx;exact⟨z,hk2,fun h=>absurd h1 h,fun _=>hz⟩
  rw[setN_at,if_neg hik];exact ht.at_ i x hx
 ·rw[setN_at,if_neg (by omega)];exact hM j (by omega)
 rw[loads_succ hk2];have h2:(setN M k z).take k=M.take k:=by
  apply List.ext_getElem?;intro i;rw[List.getElem?_take,List.getElem?_take];split
  ·rw[setN_at,if_neg (by omega)]
  rfl
 rw[h2,if_pos (show(e.tell z).k=1 from h1)];rfl
end Go.Proofs.YtnigadeohmlpiaaGreatDoor
