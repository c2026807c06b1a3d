/- Contracts and words: what an explorer does, how often it calls itself, what it leaves; Words for an explorer in memory, and for what a call of it leaves as it was; where the row stands that an append hands back; a region that draws its order, inside a fence. No condition of ours. -/
import Derived.Test.YtnigadeohmlpiaaGreatDoorC21
set_option maxHeartbeats 32000000
set_option maxRecDepth 100000
namespace Go.Proofs.YtnigadeohmlpiaaGreatDoor
def St.meas(s:St):Nat:=2*s.done.count false+(s.m.pend.map List.length).sum
theorem count_set_false{L:List Bool}{i:Nat}(h:L[i]?=some false):(L.set i true).count false+1=L.count false:=by
 induction L generalizing i with
 |nil=>cases h
 |cons b L ih=>
  cases i with
  |zero=>
   have:b=false:=by simpa using h
   subst this;simp
  |succ i=>have:=ih (i:=i) (by simpa using h);rw[List.set_cons_succ,List.count_cons,List.count_cons];omega
theorem sum_set{α:Type}{L:List (List α)}{i:Nat}(p:List α)(h:i<L.length):((L.set i p).map List.length).sum+(L.getD i []).length=(L.map List.length).sum+p.length:=by
 induction L generalizing i with
 |nil=>exact absurd h (by simp)
 |cons q L ih=>
  cases i with
  |zero=>simp;omega
  |succ i=>have:=ih (i:=i) (by simpa using h);simp only[List.set_cons_succ,List.map_cons,List.sum_cons,List.getD_cons_succ];omega
theorem sum_set_le{α:Type}{L:List (List α)}{i:Nat}(x:α):((L.set i (L.getD i []++[x])).map List.length).sum<=(L.map List.length).sum+1:=by
 rcases Nat.lt_or_ge i L.length with h|h
 ·have:=sum_set (L.getD i []++[x]) h;rw[List.length_append] at this;simp at this⊢;omega
 rw[List.set_eq_of_length_le h];omega
theorem next_meas{l:List Ev}{s s':St}{x:Pk}(h:s.next l x=some s'):s'.meas<s.meas:=by
 unfold St.next at h
 split at h
 ·unfold Mm.drainZ' at h;split at h
  ·obtain⟨m,hm,rfl⟩:=Option.map_eq_some_iff.1 h;obtain⟨y,hy,rfl⟩:=Mm.drain_parts hm;have hlt:x.h.toNat<s.m.pend.length:=by
    rcases Nat.lt_or_ge x.h.toNat s.m.pend.length with h1|h1
    ·exact h1
    rw[List.getD_eq_getElem?_getD,List.getElem?_eq_none h1] at hy;cases hy
   have hk:=(List.getElem?_eq_some_iff.1 hy).1;have:=sum_set ((s.m.pend.getD x.h.toNat []).eraseIdx x.w.toNat) hlt;rw[List.length_eraseIdx_of_lt hk] at this;simp only[St.meas];omega
  cases h
 split at h
 ·cases h
 rename_i i hd;split at h
 ·obtain⟨e,he,_,hf⟩:=St.due_parts hd;rw[he] at h;have hc:=count_set_false (getD_false hf);have h:s.step e i=some s':=h;unfold St.step at h;split at h
  ·injection h with h
   subst h;simp only[St.meas];omega
  split at h
  ·injection h with h
   subst h;have:=sum_set_le (L:=s.m.pend) (i:=e.h.toNat) (e.a,e.n);simp only[St.meas,Mm.store];omega
  split at h
  ·injection h with h
   subst h;simp only[St.meas];omega
  cases h
 cases h
theorem cand_len{n:Nat}{s:St}(hs:s.Ok n):(candK s 4).length<=4+s.meas:=by
 have h4:=hs.m.lp;obtain⟨⟨ws,pend⟩,done,told⟩:=s
 match pend,h4 with
 |[a,b,c,d],_=>simp[candK,candH,St.meas,List.range_succ];omega
theorem may_len{l:List Ev}{n:Nat}{s:St}(hs:s.Ok n):(mayK l s (candK s 4)).length<=4+s.meas:=Nat.le_trans (List.length_filter_le _ _) (cand_len hs)
structure XS where
 S:List (List UInt8)
 F:List (List Int)
 P:List Pk
def stepX(D:St->XS->Bool×XS)(l:List Ev)(s:St)(bx:Bool×XS)(p:Pk):Bool×XS:=
 if bx.1 then bx else match s.next l p with
  |none=>bx
  |some s'=>if(D s' ⟨bx.2.S,bx.2.F,bx.2.P++[p]⟩).1 then D s' ⟨bx.2.S,bx.2.F,bx.2.P++[p]⟩
   else(false,⟨(D s' ⟨bx.2.S,bx.2.F,bx.2.P++[p]⟩).2.S,(D s' ⟨bx.2.S,bx.2.F,bx.2.P++[p]⟩).2.F,(D s' ⟨bx.2.S,bx.2.F,bx.2.P++[p]⟩).2.P.dropLast⟩)
def dfs(l:List Ev)(stop:List Int->Bool):Nat->St->XS->Bool×XS
 |0,_,x=>(false,x)
 |f+1,s,x=>if keyB s∈x.S then(false,x) else match s.outcome l with
  |some z=>(stop z,⟨keyB s::x.S,x.F++[z],x.P⟩)
  |none=>(mayK l s (candK s 4)).foldl (stepX (dfs l stop f) l s) (false,⟨keyB s::x.S,x.F,x.P⟩)
def callsX:Nat->Nat
 |0=>1
 |f+1=>1+(5+f)*callsX f
theorem callsX_12:callsX 12<=2000000000000:=by decide
theorem callsX_mono{f g:Nat}(h:f<=g):callsX f<=callsX g:=by
 induction g with
 |zero=>
  obtain rfl:f=0:=by omega
  exact Nat.le_refl _
 |succ g ih=>
  rcases Nat.lt_or_ge g f with h1|h1
  ·rw[show f=g+1 by omega];exact Nat.le_refl _
  refine Nat.le_trans (ih h1) ?_;rw[callsX];have:=Nat.le_mul_of_pos_left (callsX g) (show 0<5+g by omega);omega
structure GrowX(c:Nat)(x:XS)(r:Bool×XS):Prop where
 lo:x.S.length<=r.2.S.length
 hi:r.2.S.length<=x.S.length+c
 f:r.2.F.length+x.S.length<=x.F.length+r.2.S.length
 p:r.1=false->r.2.P=x.P
theorem step_yes{D:St->XS->Bool×XS}{l:List Ev}{s:St}{b:XS}{p:Pk}{s':St}(h:s.next l p=some s')(hD:(D s' ⟨b.S,b.F,b.P++[p]⟩).1=true):stepX D l s (false,b) p=D s' ⟨b.S,b.F,b.P++[p]⟩:=by simp[stepX,h,hD]
theorem step_no{D:St->XS->Bool×XS}{l:List Ev}{s:St}{b:XS}{p:Pk}{s':St}(h:s.next l p=some s')(hD:(D s' ⟨b.S,b.F,b.P++[p]⟩).1=false):
  stepX D l s (false,b) p=(false,⟨(D s' ⟨b.S,b.F,b.P++[p]⟩).2.S,(D s' ⟨b.S,b.F,b.P++[p]⟩).2.F,(D s' ⟨b.S,b.F,b.P++[p]⟩).2.P.dropLast⟩):=by
 simp[stepX,h,hD]
theorem fold_true{D:St->XS->Bool×XS}{l:List Ev}{s:St}(L:List Pk)(x:XS):L.foldl (stepX D l s) (true,x)=(true,x):=by
 induction L with
 |nil=>rfl
 |cons p L ih=>simpa[stepX] using ih
theorem fold_grow{D:St->XS->Bool×XS}{l:List Ev}{s:St}{c:Nat}(hD:∀p s' x,s.next l p=some s'->GrowX c x (D s' x))(L:List Pk)(x:XS):GrowX (L.length*c) x (L.foldl (stepX D l s) (false,x)):=by
 induction L generalizing x with
 |nil=>exact⟨Nat.le_refl _,by simp,Nat.le_refl _,fun _=>rfl⟩
 |cons p L ih=>
  rw[List.foldl_cons,List.length_cons,Nat.succ_mul];cases hn:s.next l p with
  |none=>
   have h1:=ih x;have:stepX D l s (false,x) p=(false,x):=by simp[stepX,hn]
   rw[this];exact⟨h1.lo,Nat.le_trans h1.hi (by omega),h1.f,h1.p⟩
  |some s'=>
   have hg:=hD p s' ⟨x.S,x.F,x.P++[p]⟩ hn;have g1:=hg.lo;have g2:=hg.hi;have g3:=hg.f;cases hb:(D s' ⟨x.S,x.F,x.P++[p]⟩).1 with
   |true=>rw[step_yes hn hb,show D s' ⟨x.S,x.F,x.P++[p]⟩=(true,(D s' ⟨x.S,x.F,x.P++[p]⟩).2) from Prod.ext hb rfl,fold_true];exact⟨g1,by dsimp only at*;omega,g3,fun h=>by cases h⟩
   |false=>rw[step_no hn hb];have h1:=ih ⟨(D s' ⟨x.S,x.F,x.P++[p]⟩).2.S,(D s' ⟨x.S,x.F,x.P++[p]⟩).2.F,(D s' ⟨x.S,x.F,x.P++[p]⟩).2.P.dropLast⟩;have k1:=h1.lo;have k2:=h1.hi;have k3:=h1.f;dsimp only at*;refine⟨by omega,by omega,by omega,fun h=>?_⟩;rw[h1.p h,hg.p hb];simp
theorem dfs_grow{l:List Ev}(hl:Prog l)(stop:List Int->Bool):∀(f:Nat) (s:St) (x:XS),s.Ok l.length->s.meas<=f->GrowX (callsX f) x (dfs l stop (f+1) s x):=by
 intro f;induction f with
 |zero=>
  intro s x hs hf;rw[dfs];split
  ·exact⟨Nat.le_refl _,by simp,Nat.le_refl _,fun _=>rfl⟩
  split
  ·exact⟨by simp,by simp[callsX],by simp;omega,fun _=>rfl⟩
  have:=fold_grow (D:=dfs l stop 0) (l:=l) (s:=s) (c:=0) (fun p s' x h=>absurd (next_meas h) (by omega)) (mayK l s (candK s 4)) ⟨keyB s::x.S,x.F,x.P⟩;have k1:=this.lo;have k2:=this.hi;have k3:=this.f;simp only[List.length_cons,Nat.mul_zero,Nat.add_zero] at k1 k2 k3;exact⟨by omega,by simp only[callsX];omega,by omega,this.p⟩
 |succ f ih=>
  intro s x hs hf;rw[dfs];split
  ·exact⟨Nat.le_refl _,by simp,Nat.le_refl _,fun _=>rfl⟩
  split
  ·refine⟨by simp,?_,by simp;omega,fun _=>rfl⟩;simp only[List.length_cons,callsX];omega
  have:=fold_grow (D:=dfs l stop (f+1)) (l:=l) (s:=s) (c:=callsX f) (fun p s' x h=>ih s' x (St.next_ok hl hs h) (by have:=next_meas h;omega)) (mayK l s (candK s 4)) ⟨keyB s::x.S,x.F,x.P⟩;have k1:=this.lo;have k2:=this.hi;have k3:=this.f;have hm:=Nat.mul_le_mul_right (callsX f) (Nat.le_trans (may_len (l:=l) hs) (show 4+s.meas<=5+f by omega));simp only[List.length_cons] at k1 k2 k3
  exact⟨by omega,by simp only[callsX];omega,by omega,this.p⟩
end Go.Proofs.YtnigadeohmlpiaaGreatDoor
namespace Go.Proofs.YtnigadeohmlpiaaGreatDoor
open Go.RowKit
attribute [local go_sem] Oper.semAt_some
theorem law9s:Maps.Keyed Tryz.prog 9:=Maps.string_keyed Tryz.underlying9
theorem key9(k:List UInt8)(h:k.length<=1000000):keyOf Tryz.prog 9 (.string ⟨k.toArray⟩)=some (.string k):=by
 have hs:(⟨k.toArray⟩:ByteArray).size=k.length:=rfl;have hm:k.length<=maxLen:=by unfold maxLen;omega
 simp[keyOf,mapKey,Tryz.underlying9,hs,hm]
def IsSeen(bm:Nat)(S:List (List UInt8))(w:World):Prop:=
 ∃D:DataW Unit,w.ownsMap Tryz.prog 9 (plainElem Tryz.prog 3) bm S.length D/\∀k:List UInt8,D.atKey (.string k) (.lit (.int .i64 0))=.lit (.int .i64 (if k∈S then 1 else 0))
theorem IsSeen.at_{bm:Nat}{S:List (List UInt8)}{w:World}(h:IsSeen bm S w):∃es ck,w.heap[bm]?=some (.map es ck):=by obtain⟨D,⟨es,ck,h1,_⟩,_⟩:=h;exact⟨es,ck,h1⟩
theorem IsSeen.kept{bm:Nat}{S:List (List UInt8)}{w w':World}{row:Option Nat}(h:IsSeen bm S w)(hg:w.grownBy w' row)(hr:some bm≠row):IsSeen bm S w':=by obtain⟨D,h1,h2⟩:=h;exact⟨D,h1.kept hg hr,h2⟩
theorem own_block_at{w:World}{base:Nat}{e:TypeId}{size n g:Nat}{v:Value}{xs:List Value}(h:w.ownsRow base e size v n xs)(hg:v.ownBlock=some g):base<=g/\∃cur,w.heap[g]?=some (.cells cur e (0,0)):=by
 rcases h.2 with⟨rfl,_⟩|⟨k,cap,cur,rfl,h1,h2,_⟩
 ·cases hg
 have:k=g:=Option.some.inj hg;subst this;exact⟨h1,cur,h2⟩
structure IsX(px bm:Nat)(A:Option Addr)(n c:Nat)(B:Option Addr)(m d:Nat)(want:List Int)(hw:Bool)(x:XS)(w:World):Prop where
 box:∃vF vP,w.heap[px]?=some (.cells #[.slice A n c,.map (some bm),vF,.slice B m d,.bool hw,vP] 82)/\SS w 1 vF x.F/\w.ownsRow 1 56 3 vP x.P.length (pkCells x.P)
 seen:IsSeen bm x.S w
 want:Row w 3 1 B m (ints want)
 fs:x.F.length<=x.S.length
 nz:0<px/\0<bm
structure Xp(px bm:Nat)(w w':World):Prop where
 os:w'.os=w.os
 tape:w'.tape=w.tape
 output:w'.output=w.output
 kp:Kp px w w'
 size:w.heap.size<=w'.heap.size
 obj:∀(k:Nat) (o:Obj),w.heap[k]?=some o->o.isCells=false->k≠bm->w'.heap[k]?=some o
theorem Xp.trans{px bm:Nat}{a b c:World}(h:Xp px bm a b)(k:Xp px bm b c):Xp px bm a c:=
 ⟨k.os.trans h.os,k.tape.trans h.tape,k.output.trans h.output,h.kp.trans k.kp,Nat.le_trans h.size k.size,fun i o hi ho hb=>k.obj i o (h.obj i o hi ho hb) ho hb⟩
theorem Xp.below{px bm:Nat}{w w':World}(h:Below w.heap.size w w'):Xp px bm w w':=
 ⟨h.os,h.tape,h.output,Kp.below h,h.size,fun k _ hk _ _=>(h.block k (blk_lt hk)).trans hk⟩
section
variable {px bm : Nat} {A : Option Addr} {n c : Nat} {B : Option Addr} {m d : Nat} {want : List Int} {hw : Bool} {x : XS} {w w' : World}
theorem IsX.row_(h:IsX px bm A n c B m d want hw x w):∃fb pb,PxAt px w fb pb/\(∀g,fb=some g->0<g)/\(∀g,pb=some g->0<g):=by
 obtain⟨vF,vP,h1,⟨cs,h2,_⟩,h3⟩:=h.box;refine⟨vF.ownBlock,vP.ownBlock,⟨_,_,vF,_,_,vP,h1,rfl,rfl,fun g e=>?_,fun g e=>?_⟩,fun g e=>(own_block_at h2 e).1,fun g e=>(own_block_at h3 e).1⟩
 ·obtain⟨_,cur,k⟩:=own_block_at h2 e;exact⟨cur,_,k⟩
 obtain⟨_,cur,k⟩:=own_block_at h3 e;exact⟨cur,_,k⟩
theorem IsX.grown{row:Option Nat}(h:IsX px bm A n c B m d want hw x w)(hg:w.grownBy w' row)(hr:∀r,row=some r->r≠bm/\∃o:Obj,w.heap[r]?=some o/\o.isCells=false):IsX px bm A n c B m d want hw x w':=by
 obtain⟨vF,vP,h1,⟨cs,h2,h2'⟩,h3⟩:=h.box;have tk:Tk [] w w':=⟨hg.size,fun k cur e fz _ hk=>cells_grown hk hg (fun r e=>(hr r e).2)⟩;exact⟨⟨vF,vP,tk.2 _ _ _ _ (by simp) h1,⟨cs,own_tk h2 tk (by simp),h2'.tk tk (by simp)⟩,own_tk h3 tk (by simp)⟩,h.seen.kept hg (fun e=>(hr bm e.symm).1 rfl),h.want.tk tk (by simp),h.fs,h.nz⟩
theorem IsX.below(h:IsX px bm A n c B m d want hw x w)(hb:Below w.heap.size w w'):IsX px bm A n c B m d want hw x w':=h.grown (grown_below hb none) (fun r e=>by cases e)
theorem IsX.sees(h:IsX px bm A n c B m d want hw x w)(hx:Xp px bm w w'):Sees w w':=by obtain⟨fb,pb,hp,_⟩:=h.row_;exact hx.kp.sees hp
theorem Glob.xp(hG:Glob w)(h:IsX px bm A n c B m d want hw x w)(hx:Xp px bm w w'):Glob w':=by
 refine hG.heap ?_;obtain⟨fb,pb,hp,hf,hq⟩:=h.row_;obtain⟨_,_,_,_,hk,_⟩:=hx.kp fb pb hp;obtain⟨o,h0⟩:∃o,w.heap[0]?=some o:=⟨_,Array.getElem?_eq_getElem hG.lt⟩;rw[h0];cases o with
 |cells cur e fz=>
  refine hk 0 cur e fz h0 (by have:=h.nz.1;omega) (fun e=>?_) (fun e=>?_)
  ·exact absurd (hf 0 e.symm) (by omega)
  exact absurd (hq 0 e.symm) (by omega)
 |_=>exact hx.obj 0 _ h0 rfl (by have:=h.nz.2;omega)
end
end Go.Proofs.YtnigadeohmlpiaaGreatDoor
namespace Go.Proofs.YtnigadeohmlpiaaGreatDoor
open Go.RowKit
theorem run_append_who{P:Program}(w:World)(base:Nat)(t ty e:TypeId)(i:TypeInfo)(z:Value)(size bytes:Nat)(ht:P.underlying t=some (.slice e))(hi:P.info? e=some i)(hz:i.zero=some z)
  (hsize:i.size=size) (hby:i.bytes=bytes) (hzs:z.cells.size=size) (hsz:0<size) (v:Value) (n:Nat) (xs:List Value) (hown:w.ownsRow base e size v n xs)
  (a:Addr) (m c:Nat) (news:List Value) (hl:news.length=m*size) (hnews:∀j u,news[j]?=some u->w.cell? (a.add j)=some u) (h1:∀u∈news,u.oneCell'=true)
  (h63:n+m<=maxLen) (hbytes:(n+m)*bytes<=140737488355328) (hbase:base<=w.heap.size):
  ∃v' w',(Builtin.append_ #[t,t] ty #[v,.slice (some a) m c]).run P w=.ok v' w'/\w'.ownsRow base e size v' (n+m) (xs++news)/\w.grownBy w' v.ownBlock/\
   (v'.ownBlock=v.ownBlock\/∃g,v'.ownBlock=some g/\w.heap.size<=g):=by
 obtain⟨v',w',hrun,h2,h3,_⟩:=run_append_own (P:=P) w base t ty e i z size bytes ht hi hz hsize hby hzs hsz v n xs hown a m c news hl hnews h1 h63 hbytes hbase;refine⟨v',w',hrun,h2,h3,?_⟩;rcases hown.2 with⟨rfl,rfl⟩|⟨g,cap,cur,rfl,hbg,hg,hnc,hcm,hcs,htake⟩
 ·have hx:xs=[]:=List.eq_nil_of_length_eq_zero (by simpa using hown.1);subst hx;obtain⟨v9,w9,hr9,k2,_⟩:=run_append_own (P:=P) w w.heap.size t ty e i z size bytes ht hi hz hsize hby hzs hsz (.slice none 0 0) 0 [] (World.ownsRow_nil w _ e size) a m c news hl hnews h1 h63 hbytes (Nat.le_refl _);rw[hrun] at hr9;injection hr9 with hv hw
  subst hv hw;rcases own_forms k2 with⟨rfl,_⟩|⟨g,c9,rfl,hg,_⟩
  ·exact .inl rfl
  exact .inr ⟨g,rfl,hg⟩
 by_cases hroom:n+m<=cap
 ·obtain⟨w9,hr9,_⟩:=run_append_fits (P:=P) w base t ty e i size ht hi hsize g n cap xs hown a m c news hl hnews h1 hroom;rw[hrun] at hr9;injection hr9 with hv _
  subst hv;exact .inl rfl
 have hsmall:n+m<=9223372036854775807:=by simp only[maxLen] at h63;omega
 subst hsize hby
 have hr9:=run_append_grow (P:=P) w t ty e i z ht hi hz ⟨g,0,none⟩ n cap xs hown.1 (hown.cells (g:=g) rfl) a m c news hl hnews (by omega) (by omega) (growslice_fits (by omega) hbytes);rw[hrun] at hr9;injection hr9 with hv _
 subst hv;exact .inr ⟨_,rfl,Nat.le_refl _⟩
theorem wp_append_who{P:Program}(w:World){o:Oper}{a:Act}{K:Act->World->Prop}{Q:Exit->Act->World->Prop}(s x:Operand)(t:TypeId)(ho:o.op=.call {callee:=.builtin .append,args:=#[s,x],argTypes:=#[t,t]})
  (base:Nat) (e:TypeId) (i:TypeInfo) (z:Value) (size bytes:Nat) (ht:P.underlying t=some (.slice e)) (hi:P.info? e=some i) (hz:i.zero=some z)
  (hsize:i.size=size) (hby:i.bytes=bytes) (hzs:z.cells.size=size) (hsz:0<size) (v:Value) (n:Nat) (xs:List Value) (hs:a.eval s=v) (hown:w.ownsRow base e size v n xs)
  (ad:Addr) (m c:Nat) (news:List Value) (hx:a.eval x=.slice (some ad) m c) (hl:news.length=m*size) (hnews:∀j u,news[j]?=some u->w.cell? (ad.add j)=some u) (h1:∀u∈news,u.oneCell'=true)
  (h63:n+m<=maxLen) (hbytes:(n+m)*bytes<=140737488355328) (hbase:base<=w.heap.size)
  (h:∀v' w',w'.ownsRow base e size v' (n+m) (xs++news)->w.grownBy w' v.ownBlock->(v'.ownBlock=v.ownBlock\/∃g,v'.ownBlock=some g/\w.heap.size<=g)->K (a.put o.dst v') w'):o.wp P a w K Q:=by
 obtain⟨v',w',hrun,h2,h3,h4⟩:=run_append_who (P:=P) w base t o.type e i z size bytes ht hi hz hsize hby hzs hsz v n xs hown ad m c news hl hnews h1 h63 hbytes hbase;unfold Oper.wp execOp;simp only[ho,resolve,invoke,builtin,Sem.run_bind,Sem.run_pure,Result.andThen_ok,List.map_toArray,List.map_cons,List.map_nil,hs,hx,hrun];exact h v' w' h2 h3 h4
structure AppF(W:World)(e:TypeId)(size N:Nat)(xs:List Value)(v0 v:Value)(w:World):Prop where
 own:w.ownsRow 1 e size v N xs
 blk:v.ownBlock=v0.ownBlock\/∃g,v.ownBlock=some g/\W.heap.size<=g
 grown:W.grownBy w v0.ownBlock
theorem set6_2{w:World}{b:Nat}{x y z u v q z':Value}{t:TypeId}(h:w.heap[b]?=some (.cells #[x,y,z,u,v,q] t)):(w.setCell ⟨b,2,none⟩ z').heap[b]?=some (.cells #[x,y,z',u,v,q] t):=set_same h z'
theorem set6_5{w:World}{b:Nat}{x y z u v q z':Value}{t:TypeId}(h:w.heap[b]?=some (.cells #[x,y,z,u,v,q] t)):(w.setCell ⟨b,5,none⟩ z').heap[b]?=some (.cells #[x,y,z,u,v,z'] t):=set_same h z'
section
variable {px bm : Nat} {A : Option Addr} {n c : Nat} {B : Option Addr} {m d : Nat} {want : List Int} {hw : Bool} {x : XS} {W w : World} {vF vP : Value}
theorem xp_set{e:TypeId}{size N M0 i:Nat}{xs ys0:List Value}{v0 v vF' vP':Value}(hbox:W.heap[px]?=some (.cells #[.slice A n c,.map (some bm),vF,.slice B m d,.bool hw,vP] 82))
  (ha:AppF W e size N xs v0 v w) (h0:W.ownsRow 1 e size v0 M0 ys0)
  (hbox':(w.setCell ⟨px,i,none⟩ v).heap[px]?=some (.cells #[.slice A n c,.map (some bm),vF',.slice B m d,.bool hw,vP'] 82))
  (hf':∀g,vF'.ownBlock=some g->∃cur fz,(w.setCell ⟨px,i,none⟩ v).heap[g]?=some (.cells cur 32 fz)) (hp':∀g,vP'.ownBlock=some g->∃cur fz,(w.setCell ⟨px,i,none⟩ v).heap[g]?=some (.cells cur 56 fz))
  (hv0:v0.ownBlock=vF.ownBlock\/v0.ownBlock=vP.ownBlock)
  (hbF:vF'.ownBlock=vF.ownBlock\/∃g,vF'.ownBlock=some g/\W.heap.size<=g) (hbP:vP'.ownBlock=vP.ownBlock\/∃g,vP'.ownBlock=some g/\W.heap.size<=g):Xp px bm W (w.setCell ⟨px,i,none⟩ v):=by
 have hsz:(w.setCell ⟨px,i,none⟩ v).heap.size=w.heap.size:=by simp[World.setCell]
 refine⟨ha.grown.os,ha.grown.tape,ha.grown.output,?_,by rw[hsz];exact ha.grown.size,fun k o hk ho _=>?_⟩
 ·intro fb pb hpx;obtain⟨y0,y1,uF,y3,y4,uP,k1,rfl,rfl,_,_⟩:=hpx;rw[hbox] at k1;simp only[Option.some.injEq,Obj.cells.injEq,Array.mk.injEq,List.cons.injEq,and_true] at k1;obtain⟨-,-,rfl,-,-,rfl⟩:=k1;refine⟨vF'.ownBlock,vP'.ownBlock,⟨_,_,vF',_,_,vP',hbox',rfl,rfl,hf',hp'⟩,by rw[hsz];exact ha.grown.size,fun k cur e9 fz hk h1 h2 h3=>?_,hbF,hbP⟩
  refine(set_other _ h1).trans ((ha.grown.block k (blk_lt hk) (fun e=>?_)).trans hk);rcases hv0 with h|h
  ·exact h2 (e.trans h)
  exact h3 (e.trans h)
 have hkp:k≠px:=fun e=>by subst e;rw[hbox] at hk;cases hk;cases ho
 refine(set_other _ hkp).trans ((ha.grown.block k (blk_lt hk) (fun e=>?_)).trans hk);obtain⟨_,cur,k9⟩:=own_block_at h0 e.symm;rw[hk] at k9;cases k9;cases ho
theorem seen_tk{S:List (List UInt8)}{w w':World}(h:IsSeen bm S w)(hk:w'.heap[bm]?=w.heap[bm]?):IsSeen bm S w':=by obtain⟨D,⟨es,ck,h1,h2⟩,h3⟩:=h;exact⟨D,⟨es,ck,hk.trans h1,h2⟩,h3⟩
theorem IsX.found{z:List Int}{Az:Option Addr}{cz:Nat}{v:Value}{cs:List Value}(h:IsX px bm A n c B m d want hw x W)(hbox:W.heap[px]?=some (.cells #[.slice A n c,.map (some bm),vF,.slice B m d,.bool hw,vP] 82))
  (hF:W.ownsRow 1 32 1 vF x.F.length cs) (hC:Cts W cs x.F) (hP:W.ownsRow 1 56 3 vP x.P.length (pkCells x.P))
  (ha:AppF W 32 1 (x.F.length+1) (cs++[.slice Az z.length cz]) vF v w) (hz:Row W 3 1 Az z.length (ints z)) (hcz:z.length<=cz) (hlt:x.F.length+1<=x.S.length):
  IsX px bm A n c B m d want hw ⟨x.S,x.F++[z],x.P⟩ (w.setCell ⟨px,2,none⟩ v)/\Xp px bm W (w.setCell ⟨px,2,none⟩ v):=by
 have t1:Tk [32] W w:=tk_grown hF ha.grown;have hbx:=t1.at_ (by decide) hbox;have t2:Tk [82] w (w.setCell ⟨px,2,none⟩ v):=tk_set1 hbx;have hbox':=set6_2 (z':=v) hbx;have o1:=own_tk ha.own t2 (by decide);have o2:=own_tk (own_tk hP t1 (by decide)) t2 (by decide)
 have hX:Xp px bm W (w.setCell ⟨px,2,none⟩ v):=xp_set hbox ha hF hbox' (fun g e=>(own_block_at o1 e).2.imp fun _ k=>⟨_,k⟩) (fun g e=>(own_block_at o2 e).2.imp fun _ k=>⟨_,k⟩) (.inl rfl) ha.blk (.inl rfl);refine⟨⟨⟨v,vP,hbox',⟨_,by rw[List.length_append];exact o1,?_⟩,o2⟩,seen_tk h.seen ?_,(h.want.tk t1 (by decide)).tk t2 (by decide),by rw[List.length_append];exact hlt,h.nz⟩,hX⟩
 ·have hC2:=(hC.tk t1 (by decide)).tk t2 (by decide);refine⟨by rw[List.length_append,List.length_append,hC.1];rfl,fun k y hy=>?_⟩;rcases Nat.lt_or_ge k x.F.length with hk|hk
  ·rw[List.getElem?_append_left hk] at hy;obtain⟨B9,c9,k1,k2⟩:=hC2.2 k y hy;exact⟨B9,c9,by rw[List.getElem?_append_left (by rw[hC.1];exact hk)];exact k1,k2⟩
  have hk2:k=x.F.length:=by have:=(List.getElem?_eq_some_iff.1 hy).1;simp at this;omega
  subst hk2;have hyz:z=y:=by simpa using hy
  subst hyz;exact⟨Az,cz,by rw[List.getElem?_append_right (by rw[hC.1];exact Nat.le_refl _),hC.1];simp,hcz,(hz.tk t1 (by decide)).tk t2 (by decide)⟩
 obtain⟨es,ck,hm⟩:=h.seen.at_;have hmp:bm≠px:=fun e=>by subst e;rw[hbox] at hm;cases hm
 refine(set_other _ hmp).trans (ha.grown.block bm (blk_lt hm) (fun e=>?_));obtain⟨_,cur,k9⟩:=own_block_at hF e.symm;rw[hm] at k9;cases k9
theorem IsX.way{v:Value}{P':List Pk}{cs:List Value}(h:IsX px bm A n c B m d want hw x W)(hbox:W.heap[px]?=some (.cells #[.slice A n c,.map (some bm),vF,.slice B m d,.bool hw,vP] 82))
  (hF:W.ownsRow 1 32 1 vF x.F.length cs) (hC:Cts W cs x.F) (hP:W.ownsRow 1 56 3 vP x.P.length (pkCells x.P))
  (ha:AppF W 56 3 P'.length (pkCells P') vP v w):
  IsX px bm A n c B m d want hw ⟨x.S,x.F,P'⟩ (w.setCell ⟨px,5,none⟩ v)/\Xp px bm W (w.setCell ⟨px,5,none⟩ v):=by
 have t1:Tk [56] W w:=tk_grown hP ha.grown;have hbx:=t1.at_ (by decide) hbox;have t2:Tk [82] w (w.setCell ⟨px,5,none⟩ v):=tk_set1 hbx;have hbox':=set6_5 (z':=v) hbx;have o2:=own_tk ha.own t2 (by decide);have o1:=own_tk (own_tk hF t1 (by decide)) t2 (by decide)
 have hX:Xp px bm W (w.setCell ⟨px,5,none⟩ v):=xp_set hbox ha hP hbox' (fun g e=>(own_block_at o1 e).2.imp fun _ k=>⟨_,k⟩) (fun g e=>(own_block_at o2 e).2.imp fun _ k=>⟨_,k⟩) (.inr rfl) (.inl rfl) ha.blk;refine⟨⟨⟨vF,v,hbox',⟨cs,o1,(hC.tk t1 (by decide)).tk t2 (by decide)⟩,o2⟩,seen_tk h.seen ?_,(h.want.tk t1 (by decide)).tk t2 (by decide),h.fs,h.nz⟩,hX⟩;obtain⟨es,ck,hm⟩:=h.seen.at_
 have hmp:bm≠px:=fun e=>by subst e;rw[hbox] at hm;cases hm
 refine(set_other _ hmp).trans (ha.grown.block bm (blk_lt hm) (fun e=>?_));obtain⟨_,cur,k9⟩:=own_block_at hP e.symm;rw[hm] at k9;cases k9
theorem IsX.tk4{w':World}(h:IsX px bm A n c B m d want hw x w)(hk:Tk [4] w w')(hm:w'.heap[bm]?=w.heap[bm]?):IsX px bm A n c B m d want hw x w':=by obtain⟨vF,vP,h1,⟨cs,h2,h2'⟩,h3⟩:=h.box;exact⟨⟨vF,vP,hk.at_ (by decide) h1,⟨cs,own_tk h2 hk (by decide),h2'.tk hk (by decide)⟩,own_tk h3 hk (by decide)⟩,seen_tk h.seen hm,h.want.tk hk (by decide),h.fs,h.nz⟩
theorem IsX.set4{b i:Nat}{C:Array Value}{u:Value}{fz:Nat×Nat}(h:IsX px bm A n c B m d want hw x w)(hb:w.heap[b]?=some (.cells C 4 fz)):IsX px bm A n c B m d want hw x (w.setCell ⟨b,i,none⟩ u):=by refine h.tk4 (tk_set1 hb) (set_other _ fun e=>?_);obtain⟨es,ck,hm⟩:=h.seen.at_;subst e;rw[hb] at hm;cases hm
theorem Xp.set4{b i:Nat}{C:Array Value}{u:Value}{fz:Nat×Nat}(h:Xp px bm W w)(hb:w.heap[b]?=some (.cells C 4 fz))(hlo:W.heap.size<=b):Xp px bm W (w.setCell ⟨b,i,none⟩ u):=by
 have hsz:(w.setCell ⟨b,i,none⟩ u).heap.size=w.heap.size:=by simp[World.setCell]
 have tk:Tk [4] w (w.setCell ⟨b,i,none⟩ u):=tk_set1 hb;refine⟨h.os,h.tape,h.output,fun fb pb hp=>?_,by rw[hsz];exact h.size,fun k o hk ho hbm=>(set_other _ (fun e=>?_)).trans (h.obj k o hk ho hbm)⟩
 ·obtain⟨fb',pb',⟨x0,x1,vF,x3,x4,vP,p1,p2,p3,p4,p5⟩,hs,hk,hf,hq⟩:=h.kp fb pb hp;exact⟨fb',pb',⟨x0,x1,vF,x3,x4,vP,tk.at_ (by decide) p1,p2,p3,fun g e=>(p4 g e).imp fun c h=>h.imp fun f h=>tk.at_ (by decide) h,fun g e=>(p5 g e).imp fun c h=>h.imp fun f h=>tk.at_ (by decide) h⟩,
   by rw[hsz];exact hs,fun k cur e fz hkk h1 h2 h3=>(set_other _ (fun e9=>by have:=blk_lt hkk;omega)).trans (hk k cur e fz hkk h1 h2 h3),hf,hq⟩
 have:=blk_lt hk;omega
theorem Xp.from_{w':World}{row:Option Nat}{base:Nat}(h:Xp px bm W w)(hg:w.grownBy w' row)(hb:W.heap.size<=base)(hr:∀r,row=some r->base<=r/\∃o:Obj,w.heap[r]?=some o/\o.isCells=false):Xp px bm W w':=
 ⟨hg.os.trans h.os,hg.tape.trans h.tape,hg.output.trans h.output,h.kp.trans (Kp.of_same hg.size (fun _ _ _ _ hk=>cells_grown hk hg (fun r e=>(hr r e).2))),Nat.le_trans h.size hg.size,fun k o hk ho hbm=>by have h9:=h.obj k o hk ho hbm;refine(hg.block k (blk_lt h9) (fun e=>?_)).trans h9;have h1:=(hr k e.symm).1;have h2:=blk_lt hk;omega⟩
theorem IsX.from_{w':World}{row:Option Nat}{base:Nat}(h:IsX px bm A n c B m d want hw x w)(hg:w.grownBy w' row)(hb:bm<base)(hr:∀r,row=some r->base<=r/\∃o:Obj,w.heap[r]?=some o/\o.isCells=false):IsX px bm A n c B m d want hw x w':=
 h.grown hg (fun r e=>⟨by have:=(hr r e).1;omega,(hr r e).2⟩)
end
end Go.Proofs.YtnigadeohmlpiaaGreatDoor
namespace Go.Proofs.YtnigadeohmlpiaaGreatDoor
section
variable {F : Fence} {n : Nat} {P : Program} {ops : Array Oper} {Q : Exit -> Act -> World -> Prop} {md : Region.Mode}
theorem wpAnyIn_inv(I:Array Bool->Act->World->Prop)(hlow:depsLow md ops=true)
  (hstep:∀i,i<ops.size->∀listed a w,listed.size=ops.size->I listed a w->listed.getD i false=false->(∀d∈depsOf md ops i,listed.getD d false=true)->wpOpIn F n P ops Q i (I (listed.setIfInBounds i true)) a w)
  (hend:∀listed a w,listed.size=ops.size->(∀i,i<ops.size->listed.getD i false=true)->I listed a w->Q .normal a w):
  ∀fuel listed a w,listed.size=ops.size->I listed a w->left listed<=fuel->wpAnyIn F n P md ops Q fuel listed a w
 |0,listed,a,w,hs,hI,hf=>by have hall:=left_zero (show left listed=0 by omega);refine⟨?_,hend listed a w hs (fun i hi=>hall i (by omega)) hI⟩;rw[List.eq_nil_iff_forall_not_mem];intro i hi;obtain⟨h1,h2,_⟩:=ready_mem hi;rw[getD_tf (by omega),hall i (by omega)] at h2;cases h2
 |fuel+1,listed,a,w,hs,hI,hf=>by refine⟨fun hr=>hend listed a w hs (all_listed hs hlow hr) hI,fun i hi=>?_⟩;obtain⟨h1,h2,h3⟩:=ready_mem hi;have hl:=left_set (by omega) h2;refine wpOpIn_mono (fun a' w' h'=>wpAnyIn_inv I hlow hstep hend fuel _ a' w' (by simpa using hs) h' (by omega)) (hstep i h1 listed a w hs hI ?_ h3);rw[<-getD_tf (by omega)];exact h2
theorem wpIn_region_inv{id:Nat}{a:Act}{w:World}(hm:P.follows .mixedOrders=true)(I:Array Bool->Act->World->Prop)(hlow:depsLow .any ops=true)
  (hstart:I (Array.replicate ops.size false) a w.drew)
  (hstep:∀i,i<ops.size->∀listed a w,listed.size=ops.size->I listed a w->listed.getD i false=false->(∀d∈depsOf .any ops i,listed.getD d false=true)->wpOpIn F n P ops Q i (I (listed.setIfInBounds i true)) a w)
  (hend:∀listed a w,listed.size=ops.size->(∀i,i<ops.size->listed.getD i false=true)->I listed a w->Q .normal a w):(Code.region id ops true).wpIn F n P Q a w:=
 wpIn_region_any hm (wpAnyIn_inv I hlow hstep hend ops.size _ a _ (by simp) hstart (by rw[left_start];exact Nat.le_refl _))
def StepOfIn(F:Fence)(n:Nat)(P:Program)(ops:Array Oper)(Q:Exit->Act->World->Prop)(frame:(Nat->Value)->Act)(V:Nat->(Nat->Bool)->(Nat->Value)->World->Prop)(S:(Nat->Bool)->World->Prop)(R:Nat->World->World->Prop)(i:Nat):Prop:=
 ∀f w (l:Nat->Bool),l i=false->(∀j,i∈depsOf .any ops j->l j=false)->(∀d∈depsOf .any ops i,l d=true)->S l w->(∀d∈depsOf .any ops i,V d l f w)->
  wpOpIn F n P ops Q i (fun a' w'=>∃v,a'=frame (fun k=>if k=i then v else f k)/\V i (fun k=>decide (k=i)||l k) (fun k=>if k=i then v else f k) w'/\S (fun k=>decide (k=i)||l k) w'/\R i w w') (frame f) w
theorem wpIn_region_det{id:Nat}{a:Act}{w:World}(hm:P.follows .mixedOrders=true)(frame:(Nat->Value)->Act)(V:Nat->(Nat->Bool)->(Nat->Value)->World->Prop)(S:(Nat->Bool)->World->Prop)(R:Nat->World->World->Prop)
  (hlow:depsLow .any ops=true) (f0:Nat->Value) (ha:a=frame f0) (hV:∀i j,i≠j->i∉depsOf .any ops j->∀(l:Nat->Bool) f f' w w',(∀k,k≠i->f' k=f k)->R i w w'->V j l f w->V j (fun k=>decide (k=i)||l k) f' w') (hS:S (fun _=>false) w.drew)
  (hstep:∀i,i<ops.size->StepOfIn F n P ops Q frame V S R i)
  (hend:∀f w l,(∀i,i<ops.size->l i=true)->(∀i,i<ops.size->V i l f w)->S l w->Q .normal (frame f) w):(Code.region id ops true).wpIn F n P Q a w:=by
 refine wpIn_region_inv hm (fun listed a w=>∃f,a=frame f/\(∀i,i<ops.size->listed.getD i false=true->V i (fun k=>listed.getD k false) f w/\∀d∈depsOf .any ops i,listed.getD d false=true)/\S (fun k=>listed.getD k false) w) hlow ⟨f0,ha,fun i hi h=>?_,?_⟩ ?_ ?_
 ·rw[Array.getD_eq_getD_getElem?] at h;simp[hi] at h
 ·have:(fun k=>(Array.replicate ops.size false).getD k false)=fun _=>false:=by
   funext k
   simp only[Array.getD_eq_getD_getElem?,Array.getElem?_replicate];split<;>rfl
  rw[this];exact hS
 ·rintro i hi listed a w hs ⟨f,rfl,hf,hSw⟩ hun hdeps;refine wpOpIn_mono ?_ (hstep i hi f w _ hun (fun j hj=>?_) hdeps hSw fun d hd=>(hf d ?_ (hdeps d hd)).1)
  ·rintro a' w' ⟨v,rfl,hv,hS',hR⟩;refine⟨_,rfl,fun j hj hl=>?_,?_⟩
   ·by_cases e:j=i
    ·subst e;rw[set_fun (by omega)];exact⟨hv,fun d hd=>gs_mono (hdeps d hd)⟩
    rw[gs_ne (fun h=>e h.symm)] at hl;obtain⟨h1,h2⟩:=hf j hj hl;rw[set_fun (by omega)];refine⟨hV i j (fun h=>e h.symm) (fun hd=>?_) _ f _ _ _ (fun k hk=>by simp[hk]) hR h1,fun d hd=>gs_mono (h2 d hd)⟩;have:=h2 i hd;rw[hun] at this;cases this
   rw[set_fun (by omega)];exact hS'
  ·show listed.getD j false=false;by_cases hj':j<ops.size
   ·cases hl:listed.getD j false
    ·rfl
    have:=(hf j hj' hl).2 i hj;rw[hun] at this;cases this
   simp[Array.getD_eq_getD_getElem?,Array.getElem?_eq_none (show listed.size<=j by omega)]
  have:=List.all_eq_true.1 (List.all_eq_true.1 hlow i (List.mem_range.2 hi)) d hd;have hdi:d<i:=by simpa using this
  omega
 rintro listed a w hs hall ⟨f,rfl,hf,hSw⟩;exact hend f w _ hall (fun i hi=>(hf i hi (hall i hi)).1) hSw
def StepsOfIn(F:Fence)(n:Nat)(P:Program)(ops:Array Oper)(Q:Exit->Act->World->Prop)(frame:(Nat->Value)->Act)(V:Nat->(Nat->Bool)->(Nat->Value)->World->Prop)(S:(Nat->Bool)->World->Prop)(R:Nat->World->World->Prop):Nat->Nat->Prop
 |_,0=>True
 |k,m+1=>StepOfIn F n P ops Q frame V S R k/\StepsOfIn F n P ops Q frame V S R (k+1) m
theorem stepsOf_atIn{frame:(Nat->Value)->Act}{V:Nat->(Nat->Bool)->(Nat->Value)->World->Prop}{S:(Nat->Bool)->World->Prop}{R:Nat->World->World->Prop}:∀{m k:Nat},StepsOfIn F n P ops Q frame V S R k m->∀i,k<=i->i<k+m->StepOfIn F n P ops Q frame V S R i
 |0,k,_,i,h1,h2=>by omega
 |m+1,k,h,i,h1,h2=>by
  by_cases e:i=k
  ·subst e;exact h.1
  exact stepsOf_atIn h.2 i (by omega) (by omega)
theorem stepsOf_consIn{frame:(Nat->Value)->Act}{V:Nat->(Nat->Bool)->(Nat->Value)->World->Prop}{S:(Nat->Bool)->World->Prop}{R:Nat->World->World->Prop}{k m:Nat}(h1:StepOfIn F n P ops Q frame V S R k)(h2:StepsOfIn F n P ops Q frame V S R (k+1) m):StepsOfIn F n P ops Q frame V S R k (m+1):=⟨h1,h2⟩
theorem stepOf_runIn(hF:∀g,F.fn g){frame:(Nat->Value)->Act}{V:Nat->(Nat->Bool)->(Nat->Value)->World->Prop}{S:(Nat->Bool)->World->Prop}{R:Nat->World->World->Prop}{i:Nat}{o:Oper}(ho:ops[i]?=some o)(ds:List Nat)(hds:(ds.all fun d=>(depsOf .any ops i).contains d)=true)
  (hput:∀f v,(frame f).put o.dst v=frame (fun k=>if k=i then v else f k))
  (h:∀f w (l:Nat->Bool),l i=false->(∀j,i∈depsOf .any ops j->l j=false)->(∀d∈depsOf .any ops i,l d=true)->S l w->DepsOk V l f w ds->∀K':Act->World->Prop,Shut (∀v a' w',a'=(frame f).put o.dst v->V i (fun k=>decide (k=i)||l k) (fun k=>if k=i then v else f k) w'->S (fun k=>decide (k=i)||l k) w'->R i w w'->K' a' w')->
   if Region.wanted o (yielded ops (frame f).tmps)=true then Oper.wpIn F n P o (frame f) w K' Q else K' ((frame f).put o.dst undef) w):StepOfIn F n P ops Q frame V S R i:=by
 intro f w l hl hun hdn hS hd;have hsub:∀d∈ds,V d l f w:=fun d hdm=>hd d (by simpa using List.all_eq_true.1 hds d hdm);refine wpOpIn_step ho (fun K' hK=>?_);have h9:=h f w l hl hun hdn hS (depsOk_of hsub) K' (fun v a' w' ha hv hS' hR=>hK _ _ ⟨v,ha.trans (hput f v),hv,hS',hR⟩);split at h9
 ·rename_i hw;rw[if_pos hw];exact h9
 rename_i hw;rw[if_neg hw];exact⟨fun g _=>hF g,h9⟩
end
end Go.Proofs.YtnigadeohmlpiaaGreatDoor
