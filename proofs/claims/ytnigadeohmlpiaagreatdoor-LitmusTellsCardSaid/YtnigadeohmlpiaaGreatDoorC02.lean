/- Contracts and words: rows that bear their type, kept over all that leaves them alone; an invariant that each operation keeps holds behind the region, whatever the order; One step of a drawn region, for the printed walks; a hart is there, a word is, a number is cut; a slice's copy, of each kind. No condition of ours. -/
import Derived.Test.YtnigadeohmlpiaaGreatDoorProg
import Derived.WalkKit
import Derived.WalkSpells
import Derived.WalkSmall
import Derived.WalkLawsBesides
import Derived.Lib.Hide
import Derived.Laws.ResultCell
import Derived.RegionTactic
import Derived.Deep.RegionHeld3
import Derived.Below
import Derived.Test.YtnigadeohmlpiaaGreatDoorC01
import Derived.Deep.QuietTactic
import Derived.BigQuiet
import Derived.IntWalk
set_option maxHeartbeats 32000000
set_option maxRecDepth 100000
namespace Go.Proofs.YtnigadeohmlpiaaGreatDoor
open Go.RowKit
section
variable {w X Y : World}
theorem bR(w:World):Below w.heap.size w w:=Below.refl _ _
theorem bA(h:Below w.heap.size w X){o:Obj}:Below w.heap.size w (X.alloc o):=h.alloc h.size _
theorem bD(h:Below w.heap.size w X):Below w.heap.size w X.drew:=h.drew
theorem bN(h:Below w.heap.size w X){n:Nat}:Below w.heap.size w (X.drewN n):=below_drewN h n
theorem bT(h:Below w.heap.size w X)(k:Below X.heap.size X Y):Below w.heap.size w Y:=h.trans (k.mono h.size)
theorem bS(h:Below w.heap.size w X){p:Addr}(hp:w.heap.size<=p.block){u:Value}:Below w.heap.size w (X.setCell p u):=h.setCell hp u
end
theorem cell_lt{w:World}{b o:Nat}{v:Value}(h:w.cell? ⟨b,o,none⟩=some v):b<w.heap.size:=by
 rcases Nat.lt_or_ge b w.heap.size with hlt|hge
 ·exact hlt
 unfold World.cell? at h;simp[Array.getElem?_eq_none hge] at h
theorem blk_lt{w:World}{b:Nat}{o:Obj}(h:w.heap[b]?=some o):b<w.heap.size:=(Array.getElem?_eq_some_iff.1 h).1
theorem blk_below{w w':World}(hb:Below w.heap.size w w'){g:Nat}{o:Obj}(h:w.heap[g]?=some o):w'.heap[g]?=some o:=(hb.block g (blk_lt h)).trans h
theorem new_cell{w:World}{C:Array Value}{t:TypeId}{fz:Nat×Nat}{j:Nat}{v:Value}(h:C[j]?=some v):(w.alloc (.cells C t fz)).cell? ⟨w.heap.size,j,none⟩=some v:=by have hh:(w.alloc (.cells C t fz)).heap[w.heap.size]?=some (.cells C t fz):=heap_alloc_new w _;rw[cell_of_row _ _ j C t fz hh,h]
theorem not_frozen{w:World}{b i:Nat}{C:Array Value}{t:TypeId}(h:w.heap[b]?=some (.cells C t)):w.frozen? ⟨b,i,none⟩=false:=by unfold World.frozen?;simp[h]
theorem set_same{w:World}{b i:Nat}{C:Array Value}{t:TypeId}{fz:Nat×Nat}(h:w.heap[b]?=some (.cells C t fz))(u:Value):(w.setCell ⟨b,i,none⟩ u).heap[b]?=some (.cells (C.setIfInBounds i u) t fz):=by simp only[World.setCell,Array.getElem?_modify,h];simp
theorem set_other{w:World}{b i k:Nat}(u:Value)(h:k≠b):(w.setCell ⟨b,i,none⟩ u).heap[k]?=w.heap[k]?:=Below.heap_setCell _ _ _ _ h
theorem cell1{w:World}{b:Nat}{x:Value}{t:TypeId}(h:w.heap[b]?=some (.cells #[x] t)):w.cell? ⟨b,0,none⟩=some x/\w.frozen? ⟨b,0,none⟩=false:=
 ⟨by rw[cell_of_row w b 0 _ _ _ h];rfl,not_frozen h⟩
theorem cells2{w:World}{b:Nat}{x y:Value}{t:TypeId}(h:w.heap[b]?=some (.cells #[x,y] t)):
  w.cell? ⟨b,0,none⟩=some x/\w.cell? ⟨b,1,none⟩=some y/\w.frozen? ⟨b,0,none⟩=false/\w.frozen? ⟨b,1,none⟩=false:=
 ⟨by rw[cell_of_row w b 0 _ _ _ h];rfl,by rw[cell_of_row w b 1 _ _ _ h];rfl,not_frozen h,not_frozen h⟩
theorem cells3{w:World}{b:Nat}{x y z:Value}{t:TypeId}(h:w.heap[b]?=some (.cells #[x,y,z] t)):
  w.cell? ⟨b,0,none⟩=some x/\w.cell? ⟨b,1,none⟩=some y/\w.cell? ⟨b,2,none⟩=some z/\w.frozen? ⟨b,0,none⟩=false/\w.frozen? ⟨b,1,none⟩=false/\w.frozen? ⟨b,2,none⟩=false:=
 ⟨by rw[cell_of_row w b 0 _ _ _ h];rfl,by rw[cell_of_row w b 1 _ _ _ h];rfl,by rw[cell_of_row w b 2 _ _ _ h];rfl,not_frozen h,not_frozen h,not_frozen h⟩
theorem set3{w:World}{b:Nat}{x y z x' y' z':Value}{t:TypeId}(h:w.heap[b]?=some (.cells #[x,y,z] t)):
  (((w.setCell ⟨b,0,none⟩ x').setCell ⟨b,1,none⟩ y').setCell ⟨b,2,none⟩ z').heap[b]?=some (.cells #[x',y',z'] t):=
 set_same (set_same (set_same h x') y') z'
def Row(w:World)(e:TypeId)(size:Nat)(A:Option Addr)(n:Nat)(xs:List Value):Prop:=
 xs.length=n*size/\(0<n->∃b off cur fz,A=some ⟨b,off,none⟩/\w.heap[b]?=some (.cells cur e fz)/\∀j u,xs[j]?=some u->cur[off+j]?=some u)
def Rd(w:World)(size:Nat)(A:Option Addr)(n:Nat)(xs:List Value):Prop:=
 xs.length=n*size/\(0<n->∃b off,A=some ⟨b,off,none⟩/\b<w.heap.size/\∀j u,xs[j]?=some u->w.cell? ⟨b,off+j,none⟩=some u)
def Sees(w w':World):Prop:=
 w.heap.size<=w'.heap.size/\∀(k:Nat) (cur:Array Value) (e:TypeId) (fz:Nat×Nat),e≠82->e≠32->e≠56->w.heap[k]?=some (.cells cur e fz)->w'.heap[k]?=some (.cells cur e fz)
theorem Sees.refl(w:World):Sees w w:=⟨Nat.le_refl _,fun _ _ _ _ _ _ _ h=>h⟩
theorem Sees.trans{a b c:World}(h:Sees a b)(k:Sees b c):Sees a c:=⟨Nat.le_trans h.1 k.1,fun i cur e fz h1 h2 h3 hi=>k.2 i cur e fz h1 h2 h3 (h.2 i cur e fz h1 h2 h3 hi)⟩
theorem Below.sees{w w':World}(h:Below w.heap.size w w'):Sees w w':=⟨h.size,fun _ _ _ _ _ _ _ hi=>blk_below h hi⟩
section
variable {w w' : World} {e : TypeId} {size n : Nat} {A : Option Addr} {xs : List Value}
theorem Row.nil_(w:World)(e:TypeId)(size:Nat)(A:Option Addr):Row w e size A 0 []:=⟨by simp,fun h=>absurd h (by omega)⟩
theorem Rd.nil_(w:World)(size:Nat)(A:Option Addr):Rd w size A 0 []:=⟨by simp,fun h=>absurd h (by omega)⟩
theorem Row.rd(h:Row w e size A n xs):Rd w size A n xs:=⟨h.1,fun hn=>by obtain⟨b,off,cur,fz,hA,hb,hc⟩:=h.2 hn;exact⟨b,off,hA,blk_lt hb,fun j u hu=>by rw[cell_of_row w b _ _ _ _ hb];exact hc j u hu⟩⟩
theorem Row.sees(h:Row w e size A n xs)(hs:Sees w w')(h1:e≠82)(h2:e≠32)(h3:e≠56):Row w' e size A n xs:=⟨h.1,fun hn=>by obtain⟨b,off,cur,fz,hA,hb,hc⟩:=h.2 hn;exact⟨b,off,cur,fz,hA,hs.2 b cur e fz h1 h2 h3 hb,hc⟩⟩
theorem Row.below(h:Row w e size A n xs)(hb:Below w.heap.size w w'):Row w' e size A n xs:=⟨h.1,fun hn=>by obtain⟨b,off,cur,fz,hA,hbb,hc⟩:=h.2 hn;exact⟨b,off,cur,fz,hA,blk_below hb hbb,hc⟩⟩
theorem Rd.below(h:Rd w size A n xs)(hb:Below w.heap.size w w'):Rd w' size A n xs:=⟨h.1,fun hn=>by obtain⟨b,off,e,hbb,hc⟩:=h.2 hn;exact⟨b,off,e,Nat.lt_of_lt_of_le hbb hb.size,fun j u hu=>(hb.cell (p:=⟨b,off+j,none⟩) hbb).trans (hc j u hu)⟩⟩
theorem Rd.at1{k:Nat}(h:Rd w 1 A n xs)(hk:k<n):∃b off u,A=some ⟨b,off,none⟩/\xs[k]?=some u/\w.cell? ⟨b,off+k,none⟩=some u:=by
 obtain⟨b,off,e,_,hc⟩:=h.2 (by omega);have hl:k<xs.length:=by have:=h.1;omega
 exact⟨b,off,xs[k],e,List.getElem?_eq_getElem hl,hc k _ (List.getElem?_eq_getElem hl)⟩
end
theorem Row.of_own{w:World}{base:Nat}{e:TypeId}{size n c:Nat}{A:Option Addr}{xs:List Value}(h:w.ownsRow base e size (.slice A n c) n xs):Row w e size A n xs:=by
 refine⟨h.1,fun hn=>?_⟩;rcases h.2 with⟨_,h0⟩|⟨g,cap,cur,hv,_,hg,_,_,_,hx⟩
 ·omega
 injection hv with hA _ _
 refine⟨g,0,cur,(0,0),hA,hg,fun j u hu=>?_⟩;rw[<-hx] at hu;rw[List.getElem?_take] at hu;split at hu
 ·simpa using hu
 cases hu
theorem ret_int{k:IntKind}{a b:Int}(h:a=b):Ending.returned (.int k a)=Ending.returned (.int k b):=by rw[h]
theorem ret_bool{a b:Bool}(h:a=b):Ending.returned (.bool a)=Ending.returned (.bool b):=by rw[h]
end Go.Proofs.YtnigadeohmlpiaaGreatDoor
namespace Go.Proofs.YtnigadeohmlpiaaGreatDoor
section
variable {P : Program} {ops : Array Oper} {Q : Exit -> Act -> World -> Prop} {md : Region.Mode}
def depsOf(md:Region.Mode)(ops:Array Oper)(i:Nat):List Nat:=((ops[i]?).map fun o=>(o.after.toList.filter (Region.binds md)).map (·.on)).getD []
def depsLow(md:Region.Mode)(ops:Array Oper):Bool:=(List.range ops.size).all fun i=>(depsOf md ops i).all fun d=>decide (d<i)
theorem ready_mem{listed:Array Bool}{i:Nat}(h:i∈Region.ready md ops listed):i<ops.size/\listed.getD i true=false/\∀d∈depsOf md ops i,listed.getD d false=true:=by
 unfold Region.ready at h;obtain⟨h1,h2⟩:=List.mem_filter.1 h;have hi:=List.mem_range.1 h1;simp only[Bool.and_eq_true,Bool.not_eq_true'] at h2;refine⟨hi,h2.1,fun d hd=>?_⟩;unfold depsOf at hd;have ho:ops[i]?=some ops[i]:=Array.getElem?_eq_getElem hi;rw[ho] at hd h2;simp only[Option.map_some,Option.getD_some,List.mem_map,List.mem_filter] at hd h2;obtain⟨e,⟨he,hb⟩,rfl⟩:=hd
 have:=Array.all_eq_true'.1 h2.2 e (by simpa using he);simpa[hb] using this
theorem ready_of{listed:Array Bool}{i:Nat}(hi:i<ops.size)(h1:listed.getD i true=false)(h2:∀d∈depsOf md ops i,listed.getD d false=true):i∈Region.ready md ops listed:=by
 unfold Region.ready;refine List.mem_filter.2 ⟨List.mem_range.2 hi,?_⟩;have ho:ops[i]?=some ops[i]:=Array.getElem?_eq_getElem hi;rw[h1,ho];simp only[Bool.not_false,Bool.true_and,Option.map_some,Option.getD_some];rw[Array.all_eq_true'];intro e he;by_cases hb:Region.binds md e=true
 ·have:=h2 e.on (by unfold depsOf;rw[ho];simp only[Option.map_some,Option.getD_some,List.mem_map,List.mem_filter];exact⟨e,⟨by simpa using he,hb⟩,rfl⟩);simp[this]
 simp[hb]
theorem getD_tf{listed:Array Bool}{i:Nat}(hi:i<listed.size):listed.getD i true=listed.getD i false:=by simp[Array.getD,hi]
theorem all_listed{listed:Array Bool}(hs:listed.size=ops.size)(hlow:depsLow md ops=true)(hr:Region.ready md ops listed=[]):∀i,i<ops.size->listed.getD i false=true:=by
 intro i;induction i using Nat.strongRecOn with
 |_ i ih=>
  intro hi;by_cases h:listed.getD i false=true
  ·exact h
  exfalso;have hf:listed.getD i true=false:=by rw[getD_tf (by omega)];simpa using h
  have hd:∀d∈depsOf md ops i,listed.getD d false=true:=fun d hd=>by
   have:=List.all_eq_true.1 (List.all_eq_true.1 hlow i (List.mem_range.2 hi)) d hd;have hdi:d<i:=by simpa using this
   exact ih d hdi (by omega)
  have:=ready_of hi hf hd;rw[hr] at this;cases this
def left(listed:Array Bool):Nat:=(listed.toList.filter (fun b=>!b)).length
theorem left_set{listed:Array Bool}{i:Nat}(hi:i<listed.size)(h:listed.getD i true=false):left (listed.setIfInBounds i true)+1=left listed:=by
 obtain⟨l⟩:=listed;simp only[left,List.setIfInBounds_toArray];simp only[List.size_toArray] at hi;have hx:l[i]=false:=by simpa[Array.getD,hi] using h
 clear h;induction l generalizing i with
 |nil=>simp at hi
 |cons y l ih=>
  cases i with
  |zero=>have:y=false:=hx;subst this;simp
  |succ i=>have:=ih (by simpa using hi) (by simpa using hx);simp only[List.set_cons_succ,List.filter_cons];cases y<;>simp_all
theorem left_zero{listed:Array Bool}(h:left listed=0):∀i,i<listed.size->listed.getD i false=true:=by intro i hi;have h1:listed.toList.filter (fun b=>!b)=[]:=List.length_eq_zero_iff.1 h;have h2:=List.filter_eq_nil_iff.1 h1 listed[i] (by simp);simpa[Array.getD,hi] using h2
theorem wpAny_inv(I:Array Bool->Act->World->Prop)(hlow:depsLow md ops=true)
  (hstep:∀i,i<ops.size->∀listed a w,listed.size=ops.size->I listed a w->listed.getD i false=false->(∀d∈depsOf md ops i,listed.getD d false=true)->wpOp P ops Q i (I (listed.setIfInBounds i true)) a w)
  (hend:∀listed a w,listed.size=ops.size->(∀i,i<ops.size->listed.getD i false=true)->I listed a w->Q .normal a w):
  ∀fuel listed a w,listed.size=ops.size->I listed a w->left listed<=fuel->wpAny P md ops Q fuel listed a w
 |0,listed,a,w,hs,hI,hf=>by have hall:=left_zero (show left listed=0 by omega);refine⟨?_,hend listed a w hs (fun i hi=>hall i (by omega)) hI⟩;rw[List.eq_nil_iff_forall_not_mem];intro i hi;obtain⟨h1,h2,_⟩:=ready_mem hi;rw[getD_tf (by omega),hall i (by omega)] at h2;cases h2
 |fuel+1,listed,a,w,hs,hI,hf=>by refine⟨fun hr=>hend listed a w hs (all_listed hs hlow hr) hI,fun i hi=>?_⟩;obtain⟨h1,h2,h3⟩:=ready_mem hi;have hl:=left_set (by omega) h2;refine wpOp_mono (fun a' w' h'=>wpAny_inv I hlow hstep hend fuel _ a' w' (by simpa using hs) h' (by omega)) (hstep i h1 listed a w hs hI ?_ h3);rw[<-getD_tf (by omega)];exact h2
theorem left_start(n:Nat):left (Array.replicate n false)=n:=by simp[left]
theorem wp_region_inv{id:Nat}{a:Act}{w:World}(hm:P.follows .mixedOrders=true)(I:Array Bool->Act->World->Prop)(hlow:depsLow .any ops=true)
  (hstart:I (Array.replicate ops.size false) a w.drew)
  (hstep:∀i,i<ops.size->∀listed a w,listed.size=ops.size->I listed a w->listed.getD i false=false->(∀d∈depsOf .any ops i,listed.getD d false=true)->wpOp P ops Q i (I (listed.setIfInBounds i true)) a w)
  (hend:∀listed a w,listed.size=ops.size->(∀i,i<ops.size->listed.getD i false=true)->I listed a w->Q .normal a w):(Code.region id ops true).wp P Q a w:=
 wp_region_any hm (wpAny_inv I hlow hstep hend ops.size _ a _ (by simp) hstart (by rw[left_start];exact Nat.le_refl _))
theorem gs_ne{l:Array Bool}{i j:Nat}(h:i≠j):(l.setIfInBounds i true).getD j false=l.getD j false:=by simp[Array.getD_eq_getD_getElem?,Array.getElem?_setIfInBounds_ne h]
theorem gs_mono{l:Array Bool}{i k:Nat}(h:l.getD k false=true):(l.setIfInBounds i true).getD k false=true:=by
 by_cases e:i=k
 ·subst e;simp only[Array.getD_eq_getD_getElem?,Array.getElem?_setIfInBounds_self];split
  ·rfl
  rename_i hs;rw[Array.getD_eq_getD_getElem?,Array.getElem?_eq_none (by omega)] at h;cases h
 rw[gs_ne e];exact h
def StepOf(P:Program)(ops:Array Oper)(Q:Exit->Act->World->Prop)(frame:(Nat->Value)->Act)(V:Nat->(Nat->Bool)->(Nat->Value)->World->Prop)(S:(Nat->Bool)->World->Prop)(R:Nat->World->World->Prop)(i:Nat):Prop:=
 ∀f w (l:Nat->Bool),l i=false->(∀j,i∈depsOf .any ops j->l j=false)->(∀d∈depsOf .any ops i,l d=true)->S l w->(∀d∈depsOf .any ops i,V d l f w)->
  wpOp P ops Q i (fun a' w'=>∃v,a'=frame (fun k=>if k=i then v else f k)/\V i (fun k=>decide (k=i)||l k) (fun k=>if k=i then v else f k) w'/\S (fun k=>decide (k=i)||l k) w'/\R i w w') (frame f) w
theorem set_fun{l:Array Bool}{i:Nat}(hi:i<l.size):(fun k=>(l.setIfInBounds i true).getD k false)=fun k=>decide (k=i)||l.getD k false:=by
 funext k
 by_cases e:k=i
 ·subst e;simp[Array.getD_eq_getD_getElem?,hi]
 rw[gs_ne (fun h=>e h.symm)];simp[e]
theorem wp_region_det{id:Nat}{a:Act}{w:World}(hm:P.follows .mixedOrders=true)(frame:(Nat->Value)->Act)(V:Nat->(Nat->Bool)->(Nat->Value)->World->Prop)(S:(Nat->Bool)->World->Prop)(R:Nat->World->World->Prop)
  (hlow:depsLow .any ops=true) (f0:Nat->Value) (ha:a=frame f0) (hV:∀i j,i≠j->i∉depsOf .any ops j->∀(l:Nat->Bool) f f' w w',(∀k,k≠i->f' k=f k)->R i w w'->V j l f w->V j (fun k=>decide (k=i)||l k) f' w') (hS:S (fun _=>false) w.drew)
  (hstep:∀i,i<ops.size->StepOf P ops Q frame V S R i)
  (hend:∀f w l,(∀i,i<ops.size->l i=true)->(∀i,i<ops.size->V i l f w)->S l w->Q .normal (frame f) w):(Code.region id ops true).wp P Q a w:=by
 refine wp_region_inv hm (fun listed a w=>∃f,a=frame f/\(∀i,i<ops.size->listed.getD i false=true->V i (fun k=>listed.getD k false) f w/\∀d∈depsOf .any ops i,listed.getD d false=true)/\S (fun k=>listed.getD k false) w) hlow ⟨f0,ha,fun i hi h=>?_,?_⟩ ?_ ?_
 ·rw[Array.getD_eq_getD_getElem?] at h;simp[hi] at h
 ·have:(fun k=>(Array.replicate ops.size false).getD k false)=fun _=>false:=by
   funext k
   simp only[Array.getD_eq_getD_getElem?,Array.getElem?_replicate];split<;>rfl
  rw[this];exact hS
 ·rintro i hi listed a w hs ⟨f,rfl,hf,hSw⟩ hun hdeps;refine wpOp_mono ?_ (hstep i hi f w _ hun (fun j hj=>?_) hdeps hSw fun d hd=>(hf d ?_ (hdeps d hd)).1)
  ·rintro a' w' ⟨v,rfl,hv,hS',hR⟩;refine⟨_,rfl,fun j hj hl=>?_,?_⟩
   ·by_cases e:j=i
    ·subst e;rw[set_fun (by omega)];exact⟨hv,fun d hd=>gs_mono (hdeps d hd)⟩
    rw[gs_ne (fun h=>e h.symm)] at hl;obtain⟨h1,h2⟩:=hf j hj hl;rw[set_fun (by omega)];refine⟨hV i j (fun h=>e h.symm) (fun hd=>?_) _ f _ _ _ (fun k hk=>by simp[hk]) hR h1,fun d hd=>gs_mono (h2 d hd)⟩;have:=h2 i hd;rw[hun] at this;cases this
   rw[set_fun (by omega)];exact hS'
  ·show listed.getD j false=false;by_cases hj':j<ops.size
   ·cases hl:listed.getD j false
    ·rfl
    have:=(hf j hj' hl).2 i hj;rw[hun] at this;cases this
   simp[Array.getD_eq_getD_getElem?,Array.getElem?_eq_none (show listed.size<=j by omega)]
  have:=List.all_eq_true.1 (List.all_eq_true.1 hlow i (List.mem_range.2 hi)) d hd;have hdi:d<i:=by simpa using this
  omega
 rintro listed a w hs hall ⟨f,rfl,hf,hSw⟩;exact hend f w _ hall (fun i hi=>(hf i hi (hall i hi)).1) hSw
def DepsOk(V:Nat->(Nat->Bool)->(Nat->Value)->World->Prop)(l:Nat->Bool)(f:Nat->Value)(w:World):List Nat->Prop
 |[]=>True
 |d::ds=>V d l f w/\DepsOk V l f w ds
theorem depsOk_of{V:Nat->(Nat->Bool)->(Nat->Value)->World->Prop}{l:Nat->Bool}{f:Nat->Value}{w:World}:∀{ds:List Nat},(∀d∈ds,V d l f w)->DepsOk V l f w ds
 |[],_=>trivial
 |_::_,h=>⟨h _ (by simp),depsOk_of fun d hd=>h d (by simp[hd])⟩
def StepsOf(P:Program)(ops:Array Oper)(Q:Exit->Act->World->Prop)(frame:(Nat->Value)->Act)(V:Nat->(Nat->Bool)->(Nat->Value)->World->Prop)(S:(Nat->Bool)->World->Prop)(R:Nat->World->World->Prop):Nat->Nat->Prop
 |_,0=>True
 |k,n+1=>StepOf P ops Q frame V S R k/\StepsOf P ops Q frame V S R (k+1) n
theorem stepsOf_at{frame:(Nat->Value)->Act}{V:Nat->(Nat->Bool)->(Nat->Value)->World->Prop}{S:(Nat->Bool)->World->Prop}{R:Nat->World->World->Prop}:∀{n k:Nat},StepsOf P ops Q frame V S R k n->∀i,k<=i->i<k+n->StepOf P ops Q frame V S R i
 |0,k,_,i,h1,h2=>by omega
 |n+1,k,h,i,h1,h2=>by
  by_cases e:i=k
  ·subst e;exact h.1
  exact stepsOf_at h.2 i (by omega) (by omega)
theorem stepsOf_cons{frame:(Nat->Value)->Act}{V:Nat->(Nat->Bool)->(Nat->Value)->World->Prop}{S:(Nat->Bool)->World->Prop}{R:Nat->World->World->Prop}{k n:Nat}(h1:StepOf P ops Q frame V S R k)(h2:StepsOf P ops Q frame V S R (k+1) n):StepsOf P ops Q frame V S R k (n+1):=⟨h1,h2⟩
theorem stepOf_run{frame:(Nat->Value)->Act}{V:Nat->(Nat->Bool)->(Nat->Value)->World->Prop}{S:(Nat->Bool)->World->Prop}{R:Nat->World->World->Prop}{i:Nat}{o:Oper}(ho:ops[i]?=some o)(ds:List Nat)(hds:(ds.all fun d=>(depsOf .any ops i).contains d)=true)
  (hput:∀f v,(frame f).put o.dst v=frame (fun k=>if k=i then v else f k))
  (h:∀f w (l:Nat->Bool),l i=false->(∀j,i∈depsOf .any ops j->l j=false)->(∀d∈depsOf .any ops i,l d=true)->S l w->DepsOk V l f w ds->∀K':Act->World->Prop,Shut (∀v a' w',a'=(frame f).put o.dst v->V i (fun k=>decide (k=i)||l k) (fun k=>if k=i then v else f k) w'->S (fun k=>decide (k=i)||l k) w'->R i w w'->K' a' w')->
   if Region.wanted o (yielded ops (frame f).tmps)=true then Oper.wp P o (frame f) w K' Q else K' ((frame f).put o.dst undef) w):StepOf P ops Q frame V S R i:=by
 intro f w l hl hun hdn hS hd;have hsub:∀d∈ds,V d l f w:=fun d hdm=>hd d (by simpa using List.all_eq_true.1 hds d hdm);refine wpOp_step ho (fun K' hK=>h f w l hl hun hdn hS (depsOk_of hsub) K' (fun v a' w' ha hv hS' hR=>hK _ _ ⟨v,ha.trans (hput f v),hv,hS',hR⟩))
end
def KB(p:Prop)(b:Nat)(w1 w2:World):Prop:=w1.heap.size<=w2.heap.size/\∀k,k<w1.heap.size->(p->k≠b)->w2.heap[k]?=w1.heap[k]?
theorem KB.refl(p:Prop)(b:Nat)(w:World):KB p b w w:=⟨Nat.le_refl _,fun _ _ _=>rfl⟩
theorem KB.of_below{p:Prop}{b:Nat}{w1 w2:World}(h:Go.RowKit.Below w1.heap.size w1 w2):KB p b w1 w2:=⟨h.size,fun k hk _=>h.block k hk⟩
theorem KB.at_{p:Prop}{b k:Nat}{w1 w2:World}{o:Obj}(h:KB p b w1 w2)(hk:w1.heap[k]?=some o)(hb:p->k≠b):w2.heap[k]?=some o:=(h.2 k (Array.getElem?_eq_some_iff.1 hk).1 hb).trans hk
theorem KB.set3{p:Prop}{b:Nat}{w:World}{o:Obj}(_h:w.heap[b]?=some o)(hp:p)(x y z:Value):KB p b w (((w.setCell ⟨b,0,none⟩ x).setCell ⟨b,1,none⟩ y).setCell ⟨b,2,none⟩ z):=
 ⟨by simp[World.setCell],fun k _ hk=>by rw[Go.RowKit.Below.heap_setCell _ _ _ _ (hk hp),Go.RowKit.Below.heap_setCell _ _ _ _ (hk hp),Go.RowKit.Below.heap_setCell _ _ _ _ (hk hp)]⟩
def RowAt(b:Nat)(e:TypeId)(cs:Array Value)(v:Value)(w:World):Prop:=∃g,v=.slice (some ⟨g,0,none⟩) cs.size cs.size/\b<g/\w.heap[g]?=some (.cells cs e)
theorem RowAt.kept{p:Prop}{b:Nat}{e:TypeId}{cs:Array Value}{v:Value}{w1 w2:World}(h:RowAt b e cs v w1)(hk:KB p b w1 w2):RowAt b e cs v w2:=by obtain⟨g,h1,h2,h3⟩:=h;exact⟨g,h1,h2,hk.at_ h3 (fun _=>by omega)⟩
def OwnAt(b:Nat)(e:TypeId)(size n:Nat)(xs:List Value)(v:Value)(w:World):Prop:=∃A c,v=.slice A n c/\n<=c/\w.ownsRow (b+1) e size (.slice A n c) n xs
theorem OwnAt.kept{p:Prop}{b:Nat}{e:TypeId}{size n:Nat}{xs:List Value}{v:Value}{w1 w2:World}(h:OwnAt b e size n xs v w1)(hk:KB p b w1 w2):OwnAt b e size n xs v w2:=by
 obtain⟨A,c,h1,h2,h3,h4⟩:=h;refine⟨A,c,h1,h2,h3,?_⟩;rcases h4 with h4|⟨g,cap,cur,e1,e2,e3,e4⟩
 ·exact .inl h4
 exact .inr ⟨g,cap,cur,e1,e2,hk.at_ e3 (fun _=>by omega),e4⟩
theorem at0{o:Oper}{l:List Oper}:(List.toArray (o::l))[0]?=some o:=rfl
theorem atS{o x:Oper}{l:List Oper}{i:Nat}(h:(List.toArray l)[i]?=some o):(List.toArray (x::l))[i+1]?=some o:=by simpa using h
end Go.Proofs.YtnigadeohmlpiaaGreatDoor
namespace Go.Proofs.YtnigadeohmlpiaaGreatDoor
open Go.RowKit
theorem exE{α:Sort _}(a:α):∃x,x=a:=⟨_,rfl⟩
theorem Jh{p:Prop}(h:p):Hid p:=Lib.hid h
theorem _root_.Go.RowKit.Hid.o{p:Prop}(h:Hid p):p:=h
section
variable {P : Program} {ops : Array Oper} {Q : Exit → Act → World → Prop}
theorem sC{frame:(Nat→Value)→Act}{V:Nat→(Nat→Bool)→(Nat→Value)→World→Prop}{S:(Nat→Bool)→World→Prop}{R:Nat→World→World→Prop}(i n:Nat){o:Oper}(ho:ops[i]?=some o)(ds:List Nat)(hds:(ds.all fun d=>(depsOf .any ops i).contains d)=true)
  (hput:∀f v,(frame f).put o.dst v=frame (fun k=>if k=i then v else f k))
  (h:∀f w (l:Nat→Bool),l i=false→(∀j,i∈depsOf .any ops j→l j=false)→(∀d∈depsOf .any ops i,l d=true)→S l w→DepsOk V l f w ds→∀K':Act→World→Prop,Hid (Shut (∀v a' w',a'=(frame f).put o.dst v→V i (fun k=>decide (k=i)||l k) (fun k=>if k=i then v else f k) w'→S (fun k=>decide (k=i)||l k) w'→R i w w'→K' a' w'))→
   if Region.wanted o (yielded ops (frame f).tmps)=true then Oper.wp P o (frame f) w K' Q else K' ((frame f).put o.dst undef) w) (h2:StepsOf P ops Q frame V S R (i+1) n):StepsOf P ops Q frame V S R i (n+1):=
 stepsOf_cons (stepOf_run ho ds hds hput fun f w l a b c d e K' hK=>h f w l a b c d e K' (Lib.hid hK)) h2
theorem sD{frame:(Nat→Value)→Act}{V:Nat→(Nat→Bool)→(Nat→Value)→World→Prop}{S:(Nat→Bool)→World→Prop}{R:Nat→World→World→Prop}(i n:Nat){o:Oper}(ho:ops[i]?=some o)(ds:List Nat)
  (h:∀f w (l:Nat→Bool),l i=false→(∀j,i∈depsOf .any ops j→l j=false)→(∀d∈depsOf .any ops i,l d=true)→S l w→DepsOk V l f w ds→∀K':Act→World→Prop,Hid (Shut (∀v a' w',a'=(frame f).put o.dst v→V i (fun k=>decide (k=i)||l k) (fun k=>if k=i then v else f k) w'→S (fun k=>decide (k=i)||l k) w'→R i w w'→K' a' w'))→
   if Region.wanted o (yielded ops (frame f).tmps)=true then Oper.wp P o (frame f) w K' Q else K' ((frame f).put o.dst undef) w) (h2:StepsOf P ops Q frame V S R (i+1) n)
  (hds:(ds.all fun d=>(depsOf .any ops i).contains d)=true:=by kernel_rfl) (hput:∀f v,(frame f).put o.dst v=frame (fun k=>if k=i then v else f k):=by intros;rfl):StepsOf P ops Q frame V S R i (n+1):=
 sC i n ho ds hds hput h h2
section
variable {o x0 x1 x2 x3 x4 x5 x6 x7 x8 x9 x10 x11 x12 x13 x14 x15 x16 x17 x18 x19 x20 x21 x22 x23 x24 x25 x26 x27 : Oper} {l : List Oper}
theorem aT0:(List.toArray (o::l))[0]?=some o:=at0
theorem aT1:(List.toArray (x0::o::l))[1]?=some o:=atS aT0
theorem aT2:(List.toArray (x0::x1::o::l))[2]?=some o:=atS aT1
theorem aT3:(List.toArray (x0::x1::x2::o::l))[3]?=some o:=atS aT2
theorem aT4:(List.toArray (x0::x1::x2::x3::o::l))[4]?=some o:=atS aT3
theorem aT5:(List.toArray (x0::x1::x2::x3::x4::o::l))[5]?=some o:=atS aT4
theorem aT6:(List.toArray (x0::x1::x2::x3::x4::x5::o::l))[6]?=some o:=atS aT5
theorem aT7:(List.toArray (x0::x1::x2::x3::x4::x5::x6::o::l))[7]?=some o:=atS aT6
theorem aT8:(List.toArray (x0::x1::x2::x3::x4::x5::x6::x7::o::l))[8]?=some o:=atS aT7
theorem aT9:(List.toArray (x0::x1::x2::x3::x4::x5::x6::x7::x8::o::l))[9]?=some o:=atS aT8
theorem aT10:(List.toArray (x0::x1::x2::x3::x4::x5::x6::x7::x8::x9::o::l))[10]?=some o:=atS aT9
theorem aT11:(List.toArray (x0::x1::x2::x3::x4::x5::x6::x7::x8::x9::x10::o::l))[11]?=some o:=atS aT10
theorem aT12:(List.toArray (x0::x1::x2::x3::x4::x5::x6::x7::x8::x9::x10::x11::o::l))[12]?=some o:=atS aT11
theorem aT13:(List.toArray (x0::x1::x2::x3::x4::x5::x6::x7::x8::x9::x10::x11::x12::o::l))[13]?=some o:=atS aT12
theorem aT14:(List.toArray (x0::x1::x2::x3::x4::x5::x6::x7::x8::x9::x10::x11::x12::x13::o::l))[14]?=some o:=atS aT13
theorem aT15:(List.toArray (x0::x1::x2::x3::x4::x5::x6::x7::x8::x9::x10::x11::x12::x13::x14::o::l))[15]?=some o:=atS aT14
theorem aT16:(List.toArray (x0::x1::x2::x3::x4::x5::x6::x7::x8::x9::x10::x11::x12::x13::x14::x15::o::l))[16]?=some o:=atS aT15
theorem aT17:(List.toArray (x0::x1::x2::x3::x4::x5::x6::x7::x8::x9::x10::x11::x12::x13::x14::x15::x16::o::l))[17]?=some o:=atS aT16
theorem aT18:(List.toArray (x0::x1::x2::x3::x4::x5::x6::x7::x8::x9::x10::x11::x12::x13::x14::x15::x16::x17::o::l))[18]?=some o:=atS aT17
theorem aT19:(List.toArray (x0::x1::x2::x3::x4::x5::x6::x7::x8::x9::x10::x11::x12::x13::x14::x15::x16::x17::x18::o::l))[19]?=some o:=atS aT18
theorem aT20:(List.toArray (x0::x1::x2::x3::x4::x5::x6::x7::x8::x9::x10::x11::x12::x13::x14::x15::x16::x17::x18::x19::o::l))[20]?=some o:=atS aT19
theorem aT21:(List.toArray (x0::x1::x2::x3::x4::x5::x6::x7::x8::x9::x10::x11::x12::x13::x14::x15::x16::x17::x18::x19::x20::o::l))[21]?=some o:=atS aT20
theorem aT22:(List.toArray (x0::x1::x2::x3::x4::x5::x6::x7::x8::x9::x10::x11::x12::x13::x14::x15::x16::x17::x18::x19::x20::x21::o::l))[22]?=some o:=atS aT21
theorem aT23:(List.toArray (x0::x1::x2::x3::x4::x5::x6::x7::x8::x9::x10::x11::x12::x13::x14::x15::x16::x17::x18::x19::x20::x21::x22::o::l))[23]?=some o:=atS aT22
theorem aT24:(List.toArray (x0::x1::x2::x3::x4::x5::x6::x7::x8::x9::x10::x11::x12::x13::x14::x15::x16::x17::x18::x19::x20::x21::x22::x23::o::l))[24]?=some o:=atS aT23
theorem aT25:(List.toArray (x0::x1::x2::x3::x4::x5::x6::x7::x8::x9::x10::x11::x12::x13::x14::x15::x16::x17::x18::x19::x20::x21::x22::x23::x24::o::l))[25]?=some o:=atS aT24
theorem aT26:(List.toArray (x0::x1::x2::x3::x4::x5::x6::x7::x8::x9::x10::x11::x12::x13::x14::x15::x16::x17::x18::x19::x20::x21::x22::x23::x24::x25::o::l))[26]?=some o:=atS aT25
theorem aT27:(List.toArray (x0::x1::x2::x3::x4::x5::x6::x7::x8::x9::x10::x11::x12::x13::x14::x15::x16::x17::x18::x19::x20::x21::x22::x23::x24::x25::x26::o::l))[27]?=some o:=atS aT26
end
end
end Go.Proofs.YtnigadeohmlpiaaGreatDoor
namespace Go.Proofs.YtnigadeohmlpiaaGreatDoor
open Go.RowKit
theorem hasHart_any(A1 A2 A3:Option Addr)(n1 c1 c2 c3:Nat)(h:Int)(w:World):
  Calls Tryz.prog 107 #[.agg #[.slice A1 n1 c1,.slice A2 4 c2,.slice A3 4 c3],.int .i64 h] w fun e w'=>e=.returned (.bool (decide (0<=h)&&decide (h<4)))/\Below w.heap.size w w':=by
 obtain⟨r0,r1,r2,_⟩:=cells3 (heap_alloc_new w (.cells #[.slice A1 n1 c1,.slice A2 4 c2,.slice A3 4 c3] 59));by_cases h1:0<=h
 ·have h1b:decide (0<=h)=true:=by simpa using h1
  rw[h1b,Bool.true_and];go_enter Tryz.func107,Tryz.ntmps107;go_wp2_with fail;go_ret;exact⟨rfl,bA (bR w)⟩
 have h1b:decide (0<=h)=false:=by simpa using h1
 rw[h1b,Bool.false_and];go_enter Tryz.func107,Tryz.ntmps107;go_wp2_with fail;go_ret;exact⟨rfl,bA (bR w)⟩
theorem wrap_any(z:Int)(hz:I32 z)(w:World):Calls Tryz.prog 90 #[.int .i64 z] w fun e w'=>e=.returned (.int .i64 z)/\w=w':=by obtain⟨h1,h2⟩:=hz;go_enter Tryz.func90,Tryz.ntmps90;go_wp2_with fail;go_ret;exact⟨rfl,rfl⟩
theorem has_any(A1 A2 A3:Option Addr)(c1 c2 c3:Nat)(h a:Int)(w:World):
  Calls Tryz.prog 87 #[.agg #[.slice A1 4 c1,.slice A2 4 c2,.slice A3 4 c3],.int .i64 h,.int .i64 a] w fun e w'=>e=.returned (.bool ((decide (0<=h)&&decide (h<4))&&(decide (0<=a)&&decide (a<4))))/\Below w.heap.size w w':=by
 have HN:=Jh (heap_alloc_new w (.cells #[.slice A1 4 c1,.slice A2 4 c2,.slice A3 4 c3] 59));have HB:=Jh (bA (o:=.cells #[.slice A1 4 c1,.slice A2 4 c2,.slice A3 4 c3] 59) (bR w));have HC:=Jh (fun wx=>hasHart_any A1 A2 A3 4 c1 c2 c3 h wx);obtain⟨q,hq⟩:=exE ((decide (0<=h)&&decide (h<4)));rw[<-hq] at HC⊢;clear hq;obtain⟨r0,r1,r2,_⟩:=cells3 HN.o;cases q
 ·rw[Bool.false_and];go_enter Tryz.func87,Tryz.ntmps87;go_wp2_with fail;refine(HC.o _).mono ?_;rintro e w1 ⟨rfl,hb1⟩;have HB1:=Jh (bT HB.o hb1);clear hb1 r0 r1 r2;go_wp2_with fail;go_ret;exact⟨rfl,HB1.o⟩
 rw[Bool.true_and];by_cases h1:0<=a
 ·have h1b:decide (0<=a)=true:=by simpa using h1
  rw[h1b,Bool.true_and];go_enter Tryz.func87,Tryz.ntmps87;go_wp2_with fail;refine(HC.o _).mono ?_;rintro e w1 ⟨rfl,hb1⟩;have HB1:=Jh (bT HB.o hb1);clear r0 r1 r2;obtain⟨r0,r1,r2,_⟩:=cells3 (blk_below hb1 HN.o);clear hb1;go_wp2_with fail;go_ret;exact⟨rfl,HB1.o⟩
 have h1b:decide (0<=a)=false:=by simpa using h1
 rw[h1b,Bool.false_and];go_enter Tryz.func87,Tryz.ntmps87;go_wp2_with fail;refine(HC.o _).mono ?_;rintro e w1 ⟨rfl,hb1⟩;have HB1:=Jh (bT HB.o hb1);clear hb1 r0 r1 r2;go_wp2_with fail;go_ret;exact⟨rfl,HB1.o⟩
end Go.Proofs.YtnigadeohmlpiaaGreatDoor
namespace Go.Proofs.YtnigadeohmlpiaaGreatDoor
open Go.RowKit
theorem add_off(b off j:Nat):(Addr.add ⟨b,off,none⟩ j)=⟨b,off+j,none⟩:=by
 unfold Addr.add;split
 ·rename_i h;have:j=0:=by simpa using h
  rw[this];rfl
 rfl
section
variable {P : Program} (w : World)
theorem run_append_rd(base:Nat)(t ty e:TypeId)(i:TypeInfo)(z:Value)(size bytes:Nat)(ht:P.underlying t=some (.slice e))(hi:P.info? e=some i)(hz:i.zero=some z)
  (hsize:i.size=size) (hby:i.bytes=bytes) (hzs:z.cells.size=size) (hsz:0<size) (v:Value) (n:Nat) (xs:List Value) (hown:w.ownsRow base e size v n xs)
  (A:Option Addr) (m c:Nat) (news:List Value) (hr:Rd w size A m news) (h1:∀u∈news,u.oneCell'=true) (h63:n+m<=maxLen) (hbytes:(n+m)*bytes<=140737488355328) (hbase:base<=w.heap.size):
  ∃v' w',(Builtin.append_ #[t,t] ty #[v,.slice A m c]).run P w=.ok v' w'/\w'.ownsRow base e size v' (n+m) (xs++news)/\w.grownBy w' v.ownBlock:=by
 rcases A with _|ad
 ·have hm:m=0:=by
   rcases Nat.eq_zero_or_pos m with h0|h0
   ·exact h0
   obtain⟨b,off,h,_⟩:=hr.2 h0;cases h
  subst hm;have hn:news=[]:=List.eq_nil_of_length_eq_zero (by simpa using hr.1);subst hn;refine⟨v,w,?_,by simpa using hown,World.grownBy.refl w _⟩;rcases hown.2 with⟨rfl,rfl⟩|⟨g,cap,cur,rfl,_,_,hnc,_⟩
  ·simp[Builtin.append_,run_underlying ht,sizeOf,typeInfo,hi,Builtin.lenOf,Builtin.firstCells]
  simp[Builtin.append_,run_underlying ht,sizeOf,typeInfo,hi,Builtin.lenOf,Builtin.firstCells,hnc,storeCells]
 have hcells:∀j u,news[j]?=some u->w.cell? (ad.add j)=some u:=by
  intro j u hu;rcases Nat.eq_zero_or_pos m with h0|h0
  ·subst h0;have hn:news=[]:=List.eq_nil_of_length_eq_zero (by simpa using hr.1);subst hn;simp at hu
  obtain⟨b,off,h,_,hc⟩:=hr.2 h0;injection h with h
  subst h;rw[add_off];exact hc j u hu
 obtain⟨v',w',hrun,h2,h3,_⟩:=run_append_own (P:=P) w base t ty e i z size bytes ht hi hz hsize hby hzs hsz v n xs hown ad m c news hr.1 hcells h1 h63 hbytes hbase;exact⟨v',w',hrun,h2,h3⟩
theorem wp_append_rd{o:Oper}{a:Act}{K:Act->World->Prop}{Q:Exit->Act->World->Prop}(s x:Operand)(t:TypeId)(ho:o.op=.call {callee:=.builtin .append,args:=#[s,x],argTypes:=#[t,t]})
  (base:Nat) (e:TypeId) (i:TypeInfo) (z:Value) (size bytes:Nat) (ht:P.underlying t=some (.slice e)) (hi:P.info? e=some i) (hz:i.zero=some z)
  (hsize:i.size=size) (hby:i.bytes=bytes) (hzs:z.cells.size=size) (hsz:0<size) (v:Value) (n:Nat) (xs:List Value) (hs:a.eval s=v) (hown:w.ownsRow base e size v n xs)
  (A:Option Addr) (m c:Nat) (news:List Value) (hx:a.eval x=.slice A m c) (hr:Rd w size A m news) (h1:∀u∈news,u.oneCell'=true) (h63:n+m<=maxLen) (hbytes:(n+m)*bytes<=140737488355328) (hbase:base<=w.heap.size)
  (h:∀v' w',w'.ownsRow base e size v' (n+m) (xs++news)->w.grownBy w' v.ownBlock->K (a.put o.dst v') w'):o.wp P a w K Q:=by
 obtain⟨v',w',hrun,h2,h3⟩:=run_append_rd (P:=P) w base t o.type e i z size bytes ht hi hz hsize hby hzs hsz v n xs hown A m c news hr h1 h63 hbytes hbase;unfold Oper.wp execOp;simp only[ho,resolve,invoke,builtin,Sem.run_bind,Sem.run_pure,Result.andThen_ok,List.map_toArray,List.map_cons,List.map_nil,hs,hx,hrun];exact h v' w' h2 h3
theorem wpList_append_rd{ops:Array Oper}{rest:List Oper}{o:Oper}{a:Act}{Q:Exit->Act->World->Prop}(hgd:o.guard=none)(s x:Operand)(t:TypeId)(ho:o.op=.call {callee:=.builtin .append,args:=#[s,x],argTypes:=#[t,t]})
  (base:Nat) (e:TypeId) (i:TypeInfo) (z:Value) (size bytes:Nat) (ht:P.underlying t=some (.slice e)) (hi:P.info? e=some i) (hz:i.zero=some z)
  (hsize:i.size=size) (hby:i.bytes=bytes) (hzs:z.cells.size=size) (hsz:0<size) (v:Value) (n:Nat) (xs:List Value) (hs:a.eval s=v) (hown:w.ownsRow base e size v n xs)
  (A:Option Addr) (m c:Nat) (news:List Value) (hx:a.eval x=.slice A m c) (hr:Rd w size A m news) (h1:∀u∈news,u.oneCell'=true) (h63:n+m<=maxLen) (hbytes:(n+m)*bytes<=140737488355328) (hbase:base<=w.heap.size)
  (h:∀v' w',w'.ownsRow base e size v' (n+m) (xs++news)->w.grownBy w' v.ownBlock->wpList P ops Q rest (a.put o.dst v') w'):wpList P ops Q (o::rest) a w:=
 wpList_plain hgd fun _ hK=>wp_append_rd w s x t ho base e i z size bytes ht hi hz hsize hby hzs hsz v n xs hs hown A m c news hx hr h1 h63 hbytes hbase fun v' w' h2 h3=>hK _ _ (h v' w' h2 h3)
end
def OwnIs(e:TypeId)(size base n:Nat)(xs:List Value)(en:Ending)(w':World):Prop:=
 ∃A' c',en=.returned (.slice A' n c')/\w'.ownsRow base e size (.slice A' n c') n xs/\n<=c'
theorem own_slice{w:World}{base:Nat}{e:TypeId}{size n:Nat}{v:Value}{xs:List Value}(h:w.ownsRow base e size v n xs):∃A c,v=.slice A n c/\n<=c/\c<=maxLen:=by
 rcases h.2 with⟨rfl,rfl⟩|⟨g,cap,cur,rfl,_,_,h1,h2,_⟩
 ·exact⟨none,0,rfl,Nat.le_refl _,Nat.zero_le _⟩
 exact⟨_,cap,rfl,h1,h2⟩
theorem ownIs{e:TypeId}{size base n:Nat}{xs:List Value}{v:Value}{w:World}(h:w.ownsRow base e size v n xs):OwnIs e size base n xs (.returned v) w:=by obtain⟨A,c,rfl,hc,_⟩:=own_slice h;exact⟨A,c,rfl,h,hc⟩
theorem Rd.none_{w:World}{size n:Nat}{xs:List Value}(h:Rd w size none n xs):n=0/\xs=[]:=by
 have hn:n=0:=by
  rcases Nat.eq_zero_or_pos n with h0|h0
  ·exact h0
  obtain⟨b,off,h,_⟩:=h.2 h0;cases h
 subst hn;exact⟨rfl,List.eq_nil_of_length_eq_zero (by simpa using h.1)⟩
theorem int_info:(Tryz.prog.info? 3).map (fun i=>(i.zero,i.size,i.bytes))=some (some (.int .i64 0),1,8):=by kernel_rfl
theorem bool_info:(Tryz.prog.info? 4).map (fun i=>(i.zero,i.size,i.bytes))=some (some (.bool false),1,1):=by kernel_rfl
theorem ent_info:(Tryz.prog.info? 128).map (fun i=>(i.zero,i.size,i.bytes))=some (some (.agg #[.int .i64 0,.int .i64 0]),2,16):=by kernel_rfl
theorem ev_info:(Tryz.prog.info? 44).map (fun i=>(i.zero,i.size,i.bytes))=some (some (.agg #[.int .i64 0,.int .i64 0,.int .i64 0,.int .i64 0]),4,32):=by kernel_rfl
theorem clone56_any(A:Option Addr)(n c:Nat)(xs:List Value)(w:World)(hr:Rd w 1 A n xs)(h1:∀u∈xs,u.oneCell'=true)(hn:n*1<=140737488355328):
  Calls Tryz.prog 56 #[.slice A n c] w fun en w'=>OwnIs 4 1 w.heap.size n xs en w'/\Below w.heap.size w w':=by
 obtain⟨i0,hi,hz0,hz1,hz2⟩:=info_parts bool_info;have qn:∀(w:World) (a:Option Addr) (n c n' c':Nat),(binOp .eql 60 (.slice a n c) (.slice none n' c')).run Tryz.prog w=.ok (.bool a.isNone) w:=fun w a n c n' c'=>Lib.run_eql_slice_nil w _ _ a n c n' c' Tryz.underlying60;rcases A with _|ad
 ·obtain⟨rfl,rfl⟩:=hr.none_;go_enter Tryz.func56,Tryz.ntmps56;go_wp2_with fail;go_ret;exact⟨ownIs (World.ownsRow_nil _ _ _ _),bR w⟩
 have HR:=Jh hr;have H1:=Jh h1;clear hr h1;go_enter Tryz.func56,Tryz.ntmps56;go_wp2_with (at_builtin;refine wpList_append_rd _ rfl _ _ 60 rfl w.heap.size 4 i0 _ 1 1 Tryz.underlying60 hi hz0 hz1 hz2 rfl (by decide) _ _ _ rfl (World.ownsRow_made w #[] 0 (Nat.le_refl _) (Nat.zero_le _) (by simp)) (some ad) n c xs rfl ?qc1 ?qc2 ?qc3 ?qc4 ?qc5 ?_);case qc1=>exact HR.o.below (bA (bR w))
 case qc2=>exact H1.o
 case qc3=>unfold maxLen;omega
 case qc4=>rw[Nat.zero_add];exact hn
 case qc5=>simp
 intro v' w1 hown hgrow;obtain⟨A',c',rfl,hc,_⟩:=own_slice hown;go_wp2_with fail;go_ret;exact⟨ownIs (by simpa using hown),((Below.refl _ w).alloc (Nat.le_refl _) _).grown hgrow (by simp) (by intro k hk;simp[Value.ownBlock] at hk;omega)⟩
theorem clone57_any(A:Option Addr)(n c:Nat)(xs:List Value)(w:World)(hr:Rd w 1 A n xs)(h1:∀u∈xs,u.oneCell'=true)(hn:n*8<=140737488355328):
  Calls Tryz.prog 57 #[.slice A n c] w fun en w'=>OwnIs 3 1 w.heap.size n xs en w'/\Below w.heap.size w w':=by
 obtain⟨i0,hi,hz0,hz1,hz2⟩:=info_parts int_info;have qn:∀(w:World) (a:Option Addr) (n c n' c':Nat),(binOp .eql 32 (.slice a n c) (.slice none n' c')).run Tryz.prog w=.ok (.bool a.isNone) w:=fun w a n c n' c'=>Lib.run_eql_slice_nil w _ _ a n c n' c' Tryz.underlying32;rcases A with _|ad
 ·obtain⟨rfl,rfl⟩:=hr.none_;go_enter Tryz.func57,Tryz.ntmps57;go_wp2_with fail;go_ret;exact⟨ownIs (World.ownsRow_nil _ _ _ _),bR w⟩
 have HR:=Jh hr;have H1:=Jh h1;clear hr h1;go_enter Tryz.func57,Tryz.ntmps57;go_wp2_with (at_builtin;refine wpList_append_rd _ rfl _ _ 32 rfl w.heap.size 3 i0 _ 1 8 Tryz.underlying32 hi hz0 hz1 hz2 rfl (by decide) _ _ _ rfl (World.ownsRow_made w #[] 0 (Nat.le_refl _) (Nat.zero_le _) (by simp)) (some ad) n c xs rfl ?qc1 ?qc2 ?qc3 ?qc4 ?qc5 ?_);case qc1=>exact HR.o.below (bA (bR w))
 case qc2=>exact H1.o
 case qc3=>unfold maxLen;omega
 case qc4=>rw[Nat.zero_add];exact hn
 case qc5=>simp
 intro v' w1 hown hgrow;obtain⟨A',c',rfl,hc,_⟩:=own_slice hown;go_wp2_with fail;go_ret;exact⟨ownIs (by simpa using hown),((Below.refl _ w).alloc (Nat.le_refl _) _).grown hgrow (by simp) (by intro k hk;simp[Value.ownBlock] at hk;omega)⟩
theorem clone72_any(A:Option Addr)(n c:Nat)(xs:List Value)(w:World)(hr:Rd w 4 A n xs)(h1:∀u∈xs,u.oneCell'=true)(hn:n*32<=140737488355328):
  Calls Tryz.prog 72 #[.slice A n c] w fun en w'=>OwnIs 44 4 w.heap.size n xs en w'/\Below w.heap.size w w':=by
 obtain⟨i0,hi,hz0,hz1,hz2⟩:=info_parts ev_info;have qn:∀(w:World) (a:Option Addr) (n c n' c':Nat),(binOp .eql 22 (.slice a n c) (.slice none n' c')).run Tryz.prog w=.ok (.bool a.isNone) w:=fun w a n c n' c'=>Lib.run_eql_slice_nil w _ _ a n c n' c' Tryz.underlying22;rcases A with _|ad
 ·obtain⟨rfl,rfl⟩:=hr.none_;go_enter Tryz.func72,Tryz.ntmps72;go_wp2_with fail;go_ret;exact⟨ownIs (World.ownsRow_nil _ _ _ _),bR w⟩
 have HR:=Jh hr;have H1:=Jh h1;clear hr h1;go_enter Tryz.func72,Tryz.ntmps72;go_wp2_with (at_builtin;refine wpList_append_rd _ rfl _ _ 22 rfl w.heap.size 44 i0 _ 4 32 Tryz.underlying22 hi hz0 hz1 hz2 rfl (by decide) _ _ _ rfl (World.ownsRow_made w #[] 0 (Nat.le_refl _) (Nat.zero_le _) (by simp)) (some ad) n c xs rfl ?qc1 ?qc2 ?qc3 ?qc4 ?qc5 ?_);case qc1=>exact HR.o.below (bA (bR w))
 case qc2=>exact H1.o
 case qc3=>unfold maxLen;omega
 case qc4=>rw[Nat.zero_add];exact hn
 case qc5=>simp
 intro v' w1 hown hgrow;obtain⟨A',c',rfl,hc,_⟩:=own_slice hown;go_wp2_with fail;go_ret;exact⟨ownIs (by simpa using hown),((Below.refl _ w).alloc (Nat.le_refl _) _).grown hgrow (by simp) (by intro k hk;simp[Value.ownBlock] at hk;omega)⟩
theorem clone112_any(A:Option Addr)(n c:Nat)(xs:List Value)(w:World)(hr:Rd w 2 A n xs)(h1:∀u∈xs,u.oneCell'=true)(hn:n*16<=140737488355328):
  Calls Tryz.prog 112 #[.slice A n c] w fun en w'=>OwnIs 128 2 w.heap.size n xs en w'/\Below w.heap.size w w':=by
 obtain⟨i0,hi,hz0,hz1,hz2⟩:=info_parts ent_info;have qn:∀(w:World) (a:Option Addr) (n c n' c':Nat),(binOp .eql 87 (.slice a n c) (.slice none n' c')).run Tryz.prog w=.ok (.bool a.isNone) w:=fun w a n c n' c'=>Lib.run_eql_slice_nil w _ _ a n c n' c' Tryz.underlying87;rcases A with _|ad
 ·obtain⟨rfl,rfl⟩:=hr.none_;go_enter Tryz.func112,Tryz.ntmps112;go_wp2_with fail;go_ret;exact⟨ownIs (World.ownsRow_nil _ _ _ _),bR w⟩
 have HR:=Jh hr;have H1:=Jh h1;clear hr h1;go_enter Tryz.func112,Tryz.ntmps112;go_wp2_with (at_builtin;refine wpList_append_rd _ rfl _ _ 87 rfl w.heap.size 128 i0 _ 2 16 Tryz.underlying87 hi hz0 hz1 hz2 rfl (by decide) _ _ _ rfl (World.ownsRow_made w #[] 0 (Nat.le_refl _) (Nat.zero_le _) (by simp)) (some ad) n c xs rfl ?qc1 ?qc2 ?qc3 ?qc4 ?qc5 ?_);case qc1=>exact HR.o.below (bA (bR w))
 case qc2=>exact H1.o
 case qc3=>unfold maxLen;omega
 case qc4=>rw[Nat.zero_add];exact hn
 case qc5=>simp
 intro v' w1 hown hgrow;obtain⟨A',c',rfl,hc,_⟩:=own_slice hown;go_wp2_with fail;go_ret;exact⟨ownIs (by simpa using hown),((Below.refl _ w).alloc (Nat.le_refl _) _).grown hgrow (by simp) (by intro k hk;simp[Value.ownBlock] at hk;omega)⟩
end Go.Proofs.YtnigadeohmlpiaaGreatDoor
