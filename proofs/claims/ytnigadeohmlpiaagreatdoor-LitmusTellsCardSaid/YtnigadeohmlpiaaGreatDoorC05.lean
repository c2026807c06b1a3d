/- A contract: a memory of its own. No condition of ours. -/
import Derived.Test.YtnigadeohmlpiaaGreatDoorC04
set_option maxHeartbeats 32000000
set_option maxRecDepth 100000
namespace Go.Proofs.YtnigadeohmlpiaaGreatDoor
open Go.RowKit
def Tk(T:List TypeId)(w1 w2:World):Prop:=w1.heap.size<=w2.heap.size/\∀(k:Nat) (cur:Array Value) (e:TypeId) (fz:Nat×Nat),e∉T->w1.heap[k]?=some (.cells cur e fz)->w2.heap[k]?=some (.cells cur e fz)
theorem Tk.refl(T:List TypeId)(w:World):Tk T w w:=⟨Nat.le_refl _,fun _ _ _ _ _ h=>h⟩
theorem Tk.below{T:List TypeId}{w1 w2:World}(h:Below w1.heap.size w1 w2):Tk T w1 w2:=⟨h.size,fun _ _ _ _ _ hk=>blk_below h hk⟩
theorem Tk.at_{T:List TypeId}{w1 w2:World}{k:Nat}{cur:Array Value}{e:TypeId}{fz:Nat×Nat}(h:Tk T w1 w2)(he:e∉T)(hk:w1.heap[k]?=some (.cells cur e fz)):w2.heap[k]?=some (.cells cur e fz):=h.2 k cur e fz he hk
theorem Tk.ne{T:List TypeId}{i n:Nat}{w1 w2:World}(h:Tk (if i=n then T else[]) w1 w2)(hi:i≠n):Tk [] w1 w2:=by rwa[if_neg hi] at h
theorem Tk.any{T:List TypeId}{i n:Nat}{w1 w2:World}(h:Tk (if i=n then T else[]) w1 w2):Tk T w1 w2:=by
 split at h
 ·exact h
 exact⟨h.1,fun k cur e fz _ hk=>h.2 k cur e fz (by simp) hk⟩
theorem Tk.then_l{T:List TypeId}{i n g:Nat}{b:Bool}{w1 w2:World}{cur:Array Value}{e:TypeId}{fz:Nat×Nat}(h:Tk (if i=n then T else[]) w1 w2)(hk:b=false->w1.heap[g]?=some (.cells cur e fz)):
  (decide (n=i)||b)=false->w2.heap[g]?=some (.cells cur e fz):=fun hl=>by
 simp only[Bool.or_eq_false_iff,decide_eq_false_iff_not] at hl;exact(h.ne (fun e=>hl.1 e.symm)).at_ (by simp) (hk hl.2)
theorem Tk.set3{w:World}{g:Nat}{x y z x' y' z':Value}{t:TypeId}(h:w.heap[g]?=some (.cells #[x,y,z] t)):Tk [t] w (((w.setCell ⟨g,0,none⟩ x').setCell ⟨g,1,none⟩ y').setCell ⟨g,2,none⟩ z'):=
 ⟨by simp[World.setCell],fun k cur e fz he hk=>by
  have hne:k≠g:=fun e'=>by
   rw[e',h] at hk;injection hk with hk
   injection hk with _ h2
   exact he (by simp[h2])
  rw[set_other _ hne,set_other _ hne,set_other _ hne];exact hk⟩
theorem RowAt.tk{T:List TypeId}{b:Nat}{e:TypeId}{cs:Array Value}{v:Value}{w1 w2:World}(h:RowAt b e cs v w1)(hk:Tk T w1 w2)(he:e∉T):RowAt b e cs v w2:=by obtain⟨g,h1,h2,h3⟩:=h;exact⟨g,h1,h2,hk.at_ he h3⟩
theorem own_tk{T:List TypeId}{base:Nat}{e:TypeId}{size n:Nat}{v:Value}{xs:List Value}{w1 w2:World}(h:w1.ownsRow base e size v n xs)(hk:Tk T w1 w2)(he:e∉T):w2.ownsRow base e size v n xs:=by
 refine⟨h.1,?_⟩;rcases h.2 with h4|⟨g,cap,cur,e1,e2,e3,e4⟩
 ·exact .inl h4
 exact .inr ⟨g,cap,cur,e1,e2,hk.at_ he e3,e4⟩
theorem OwnAt.tk{T:List TypeId}{b:Nat}{e:TypeId}{size n:Nat}{xs:List Value}{v:Value}{w1 w2:World}(h:OwnAt b e size n xs v w1)(hk:Tk T w1 w2)(he:e∉T):OwnAt b e size n xs v w2:=by obtain⟨A,c,h1,h2,h3⟩:=h;exact⟨A,c,h1,h2,own_tk h3 hk he⟩
theorem own_low'{w:World}{base base':Nat}{e:TypeId}{size n:Nat}{v:Value}{xs:List Value}(h:w.ownsRow base e size v n xs)(hb:base'<=base):w.ownsRow base' e size v n xs:=own_low h hb
structure OwnMem(B:Nat)(w:World)(x1 x2 x3:Value)(pv:List Value)(M:Mm):Prop where
 ok:M.Ok
 ws:OwnAt B 3 1 4 (ints M.words) x1 w
 ps:OwnAt B 87 1 4 pv x2 w
 rs:OwnAt B 3 1 4 [.int .i64 (-1),.int .i64 (-1),.int .i64 (-1),.int .i64 (-1)] x3 w
 ne:x1.ownBlock≠x3.ownBlock
 en:∀(k:Nat) p,M.pend[k]?=some p->∃v,pv[k]?=some v/\OwnAt B 128 2 p.length (entCells p) v w
 dj:∀(i j g:Nat) (v u:Value),i≠j->pv[i]?=some v->pv[j]?=some u->v.ownBlock=some g->u.ownBlock≠some g
theorem ints_one(l:List Int):∀u∈ints l,u.oneCell'=true:=by intro u hu;obtain⟨z,_,rfl⟩:=List.mem_map.1 hu;rfl
theorem own_some{w:World}{base:Nat}{e:TypeId}{size n:Nat}{v:Value}{xs:List Value}(h:w.ownsRow base e size v n xs)(hn:0<n):∃g,v.ownBlock=some g/\base<=g/\g<w.heap.size:=by
 rcases h.2 with⟨_,h0⟩|⟨g,cap,cur,rfl,hb,hg,_⟩
 ·omega
 exact⟨g,rfl,hb,blk_lt hg⟩
theorem own_ne{b:Nat}{e e':TypeId}{size size' n n':Nat}{xs xs':List Value}{v v':Value}{w w':World}(h:OwnAt b e size n xs v w)(h':w'.ownsRow w.heap.size e' size' v' n' xs')(hn:0<n):v.ownBlock≠v'.ownBlock:=by obtain⟨A,c,rfl,_,ho⟩:=h;obtain⟨g,hg,_,hlt⟩:=own_some ho hn;intro e;rw[hg] at e;have:=(h'.lt g e.symm).1;omega
theorem set3_other{w:World}{g k:Nat}{x y z:Value}(h:k≠g):(((w.setCell ⟨g,0,none⟩ x).setCell ⟨g,1,none⟩ y).setCell ⟨g,2,none⟩ z).heap[k]?=w.heap[k]?:=by rw[set_other _ h,set_other _ h,set_other _ h]
theorem pend_info:(Tryz.prog.info? 87).map (fun i=>(i.zero,i.size,i.bytes))=some (some (.slice none 0 0),1,24):=by kernel_rfl
theorem ent_one(l:List (Int×Int)):∀u∈entCells l,u.oneCell'=true:=by intro u hu;obtain⟨x,_,hx⟩:=List.mem_flatMap.1 hu;simp only[List.mem_cons,List.not_mem_nil,or_false] at hx;rcases hx with rfl|rfl<;>rfl
theorem own_at_lt{b:Nat}{e:TypeId}{size n:Nat}{xs:List Value}{v:Value}{w:World}(h:OwnAt b e size n xs v w)(hn:0<n):b+1<=w.heap.size:=by obtain⟨A,c,rfl,_,ho⟩:=h;obtain⟨g,_,hb,hlt⟩:=own_some ho hn;omega
theorem one_cell{w:World}{g j:Nat}{x u:Value}{t:TypeId}(h:w.heap[g]?=some (.cells #[x] t))(hu:[x][j]?=some u):w.cell? ⟨g,0+j,none⟩=some u:=by
 cases j with
 |zero=>rw[cell_of_row w g _ _ _ _ h];simpa using hu
 |succ j=>simp at hu
theorem tk_set1{w:World}{g i:Nat}{x:Value}{C:Array Value}{t:TypeId}{fz:Nat×Nat}(h:w.heap[g]?=some (.cells C t fz)):Tk [t] w (w.setCell ⟨g,i,none⟩ x):=
 ⟨by simp[World.setCell],fun k cur e fz he hk=>by
  have hne:k≠g:=fun e'=>by
   rw[e',h] at hk;injection hk with hk
   injection hk with _ h2
   exact he (by simp[h2])
  rw[set_other _ hne];exact hk⟩
theorem tk_grown{base:Nat}{e:TypeId}{size n:Nat}{v:Value}{xs:List Value}{w w':World}(h:w.ownsRow base e size v n xs)(hg:w.grownBy w' v.ownBlock):Tk [e] w w':=
 ⟨hg.size,fun k cur e' fz he hk=>(hg.block k (blk_lt hk) (fun e1=>by
  rcases h.2 with⟨rfl,_⟩|⟨g,cap,cur',rfl,_,hgg,_⟩
  ·cases e1
  injection e1 with e1
  subst e1;rw[hgg] at hk;injection hk with hk
  injection hk with _ h2
  exact he (by simp[h2]))).trans hk⟩
theorem pend_new{M:Mm}{b1 k:Nat}{pv:List Value}{w:World}(hent:∀i p,i<k->M.pend[i]?=some p->∃v,pv[i]?=some v/\OwnAt b1 128 2 p.length (entCells p) v w)(hlen:pv.length=k)(hl:M.pend.length=4)(hk:k<=4)
  {j g:Nat} {u:Value} (hj:pv[j]?=some u) (hu:u.ownBlock=some g) (hg:w.heap.size<=g):False:=by
 have hjk:j<k:=by rw[<-hlen];exact(List.getElem?_eq_some_iff.1 hj).1
 obtain⟨v,hv,A,c,rfl,_,ho⟩:=hent j _ hjk (List.getElem?_eq_getElem (by omega));rw[hj] at hv;injection hv with hv
 subst hv;have:=(ho.lt g hu).2;omega
def OfL(w:World)(b1 bx:Nat)(A:Option Addr)(c:Nat)(A':Option Addr)(c':Nat)(M:Mm)(k:Nat)(wx:World):Prop:=
 Below w.heap.size w wx/\∃AP cP pv,wx.heap[bx]?=some (.cells #[.slice A 4 c,.slice AP k cP,.slice A' 4 c'] 59)/\k<=cP/\wx.ownsRow (b1+1) 87 1 (.slice AP k cP) k pv/\pv.length=k/\
  (∀i p,i<k->M.pend[i]?=some p->∃v,pv[i]?=some v/\OwnAt b1 128 2 p.length (entCells p) v wx)/\(∀(i j g:Nat) (v u:Value),i≠j->pv[i]?=some v->pv[j]?=some u->v.ownBlock=some g->u.ownBlock≠some g)/\
  OwnAt b1 3 1 4 (ints M.words) (.slice A 4 c) wx/\OwnAt b1 3 1 4 [.int .i64 (-1),.int .i64 (-1),.int .i64 (-1),.int .i64 (-1)] (.slice A' 4 c') wx
theorem OfL.next{w wz:World}{b1 bx:Nat}{A:Option Addr}{c:Nat}{A':Option Addr}{c':Nat}{M:Mm}{k:Nat}{A8:Option Addr}{c8:Nat}{pv:List Value}{v:Value}{p:List (Int×Int)}(hB:Below w.heap.size w wz)
  (hblk:wz.heap[bx]?=some (.cells #[.slice A 4 c,.slice A8 (k+1) c8,.slice A' 4 c'] 59)) (hc8:k+1<=c8) (ho8:wz.ownsRow (b1+1) 87 1 (.slice A8 (k+1) c8) (k+1) (pv++[v])) (hlen:pv.length=k)
  (hents:∀i p,i<k->M.pend[i]?=some p->∃v,pv[i]?=some v/\OwnAt b1 128 2 p.length (entCells p) v wz) (hdj:∀(i j g:Nat) (v u:Value),i≠j->pv[i]?=some v->pv[j]?=some u->v.ownBlock=some g->u.ownBlock≠some g)
  (hv:OwnAt b1 128 2 p.length (entCells p) v wz) (hp:M.pend[k]?=some p) (hnew:∀(j g:Nat) (u:Value),pv[j]?=some u->u.ownBlock=some g->v.ownBlock≠some g)
  (hO2:OwnAt b1 3 1 4 (ints M.words) (.slice A 4 c) wz) (hO5:OwnAt b1 3 1 4 [.int .i64 (-1),.int .i64 (-1),.int .i64 (-1),.int .i64 (-1)] (.slice A' 4 c') wz):OfL w b1 bx A c A' c' M (k+1) wz:=by
 have hat:∀i u,(pv++[v])[i]?=some u->pv[i]?=some u\/(i=k/\u=v):=fun i u h=>by
  rcases Nat.lt_trichotomy i k with h1|h1|h1
  ·rw[List.getElem?_append_left (by omega)] at h;exact .inl h
  ·subst h1;rw[<-hlen,List.getElem?_concat_length] at h;exact .inr ⟨rfl,(Option.some.inj h).symm⟩
  rw[List.getElem?_eq_none (by simp;omega)] at h;cases h
 refine⟨hB,A8,c8,pv++[v],hblk,hc8,ho8,by simp[hlen],fun i q hi hq=>?_,fun i j g x u hij hx hu hg=>?_,hO2,hO5⟩
 ·by_cases e:i<k
  ·obtain⟨x,hx,ho⟩:=hents i q e hq;exact⟨x,by rw[List.getElem?_append_left (by omega)];exact hx,ho⟩
  obtain rfl:i=k:=by omega
  rw[hp] at hq;injection hq with hq
  subst hq;exact⟨v,by rw[<-hlen,List.getElem?_concat_length],hv⟩
 rcases hat i x hx with h1|⟨h1,rfl⟩
 ·rcases hat j u hu with h2|⟨h2,rfl⟩
  ·exact hdj i j g x u hij h1 h2 hg
  exact hnew i g x h1 hg
 rcases hat j u hu with h2|⟨h2,rfl⟩
 ·intro hu';exact hnew j g u h2 hu' hg
 omega
theorem OwnAt.low{b b':Nat}{e:TypeId}{size n:Nat}{xs:List Value}{v:Value}{w:World}(h:OwnAt b e size n xs v w)(hb:b'<=b):OwnAt b' e size n xs v w:=by obtain⟨A,c,h1,h2,h3⟩:=h;exact⟨A,c,h1,h2,own_low h3 (by omega)⟩
theorem OwnAt.below{b:Nat}{e:TypeId}{size n:Nat}{xs:List Value}{v:Value}{w w':World}(h:OwnAt b e size n xs v w)(hb:Below w.heap.size w w'):OwnAt b e size n xs v w':=h.tk (Tk.below (T:=[]) hb) (by simp)
theorem OfL.mem{w wx w':World}{b1:Nat}{A:Option Addr}{c:Nat}{A':Option Addr}{c':Nat}{M:Mm}{AP:Option Addr}{cP:Nat}{pv:List Value}(hM:M.Ok)(hcP:4<=cP)(hown:wx.ownsRow (b1+1) 87 1 (.slice AP 4 cP) 4 pv)
  (hents:∀i p,i<4->M.pend[i]?=some p->∃v,pv[i]?=some v/\OwnAt b1 128 2 p.length (entCells p) v wx) (hdj:∀(i j g:Nat) (v u:Value),i≠j->pv[i]?=some v->pv[j]?=some u->v.ownBlock=some g->u.ownBlock≠some g)
  (hO2:OwnAt b1 3 1 4 (ints M.words) (.slice A 4 c) wx) (hO5:OwnAt b1 3 1 4 [.int .i64 (-1),.int .i64 (-1),.int .i64 (-1),.int .i64 (-1)] (.slice A' 4 c') wx) (hne:(Value.slice A 4 c).ownBlock≠(Value.slice A' 4 c').ownBlock) (hb:w.heap.size<=b1) (hw:Below wx.heap.size wx w'):
  OwnMem w.heap.size w' (.slice A 4 c) (.slice AP 4 cP) (.slice A' 4 c') pv M:=
 ⟨hM,(hO2.below hw).low hb,(OwnAt.below ⟨AP,cP,rfl,hcP,hown⟩ hw).low hb,(hO5.below hw).low hb,hne,fun k p hk=>by obtain⟨v,hv,ho⟩:=hents k p (by have:=hM.lp;have:=(List.getElem?_eq_some_iff.1 hk).1;omega) hk;exact⟨v,hv,(ho.below hw).low hb⟩,hdj⟩
def OfIs(B:Nat)(M:Mm)(e:Ending)(w:World):Prop:=
 ∃b x1 x2 x3 pv,e=.returned (.pointer (some ⟨b,0,none⟩))/\B<=b/\w.heap[b]?=some (.cells #[x1,x2,x3] 140)/\OwnMem B w x1 x2 x3 pv M
theorem of_any(v1 v2 v3:Value)(M:Mm)(w:World)(h:IsMem w v1 v2 v3 M):
  Calls Tryz.prog 89 #[.agg #[v1,v2,v3]] w fun e w'=>OfIs w.heap.size M e w'/\Below w.heap.size w w':=by
 obtain⟨A1,c1,rfl,hr1⟩:=h.ws;obtain⟨A2,c2,p0,rfl,hr2,hp⟩:=h.ps;obtain⟨A3,c3,rfl,hr3⟩:=h.rs;have HOK:=Jh h.ok;obtain⟨b1,hb1⟩:=exE (w.heap.size);have hbx:=heap_alloc_new w (.cells #[.slice A1 4 c1,.slice A2 4 c2,.slice A3 4 c3] 59);rw[<-hb1] at hbx;obtain⟨W0,hW0⟩:=exE (w.alloc (.cells #[.slice A1 4 c1,.slice A2 4 c2,.slice A3 4 c3] 59));rw[<-hW0] at hbx;have HBX:=Jh hbx
 have HB0:=Jh (show Below w.heap.size w W0 from hW0▸bA (bR w));have HLe:=Jh (Nat.le_of_eq hb1.symm);have H1:=Jh hr1;have H2:=Jh hr2;have H3:=Jh hr3;have HP:=Jh hp;clear hbx h hr1 hr2 hr3 hp;go_enter Tryz.func89,Tryz.ntmps89;go_wp2_with fail;rw[<-hb1,<-hW0];clear hb1 hW0
 have hq:∀(k:Nat) (l:Nat->Bool) (wx:World),(Below w.heap.size w wx/\wx.heap[b1]?=some (.cells #[.slice A1 4 c1,.slice A2 4 c2,.slice A3 4 c3] 59))->(Below w.heap.size w wx/\wx.heap[b1]?=some (.cells #[.slice A1 4 c1,.slice A2 4 c2,.slice A3 4 c3] 59)):=fun _ _ _ h=>h;have rr:∀{T:List TypeId} (wx:World),Tk T wx wx:=fun wx=>Tk.refl _ wx
 have rb:∀{T:List TypeId} {w1 w2:World},Below w1.heap.size w1 w2->Tk T w1 w2:=fun h=>Tk.below h
 refine wp_region_det (by kernel_rfl) (fun f=>(⟨#[Value.agg #[Value.slice A1 4 c1,Value.slice A2 4 c2,Value.slice A3 4 c3],Value.pointer (some ⟨b1,0,none⟩),Value.pointer none,f 7,undef,undef,f 0,f 1,f 2,f 3,f 4,f 5,f 6,undef,undef,undef,undef,undef,undef,undef,undef,undef,undef,undef,undef,undef,undef,undef,undef,undef,undef],[]⟩:Act)) (fun(i:Nat) (lv:Nat->Bool) (fv:Nat->Value) (wx:World)=>match i with|0=>fv 0=.pointer (some ⟨b1,0,none⟩)|1=>fv 1=.slice A1 4 c1|2=>OwnAt b1 3 1 4 (ints M.words) (fv 2) wx|3=>fv 3=.pointer (some ⟨b1,2,none⟩)|4=>fv 4=.slice A3 4 c3|5=>OwnAt b1 3 1 4 [.int .i64 (-1),.int .i64 (-1),.int .i64 (-1),.int .i64 (-1)] (fv 5) wx/\((fv 2)).ownBlock≠((fv 5)).ownBlock|6=>(fv 6)=.agg #[(fv 2),.slice none 0 0,(fv 5)]|7=>∃g,(fv 7)=.pointer (some ⟨g,0,none⟩)/\b1<g/\((lv 8)=false->wx.heap[g]?=some (.cells #[.slice none 0 0,.slice none 0 0,.slice none 0 0] 59))|8=>∃g x z,(fv 7)=.pointer (some ⟨g,0,none⟩)/\(fv 2)=x/\(fv 5)=z/\b1<g/\wx.heap[g]?=some (.cells #[x,.slice none 0 0,z] 59)|_=>True) (fun _ wx=>Below w.heap.size w wx/\wx.heap[b1]?=some (.cells #[.slice A1 4 c1,.slice A2 4 c2,.slice A3 4 c3] 59)) (fun i w1 w2=>Tk (if i=8 then[59] else[]) w1 w2) (by kernel_rfl) (fun k=>match k with|_=>undef) rfl ?keep ⟨bD HB0.o,HBX.o⟩ ?steps ?fin
 case keep=>
  intro i j hij hd l f f' w1 w2 hf hR
  match j with
  |0|1|3|4=>exact fun h=>(hf _ (Ne.symm hij)).trans h
  |2=>intro h;have h:OwnAt b1 3 1 4 (ints M.words) (f 2) w1:=h;show OwnAt b1 3 1 4 (ints M.words) (f' 2) w2;rw[hf 2 (Ne.symm hij)];exact h.tk hR.any (by decide)
  |5=>intro h;have h:OwnAt b1 3 1 4 [.int .i64 (-1),.int .i64 (-1),.int .i64 (-1),.int .i64 (-1)] (f 5) w1/\((f 2)).ownBlock≠((f 5)).ownBlock:=h;show OwnAt b1 3 1 4 [.int .i64 (-1),.int .i64 (-1),.int .i64 (-1),.int .i64 (-1)] (f' 5) w2/\((f' 2)).ownBlock≠((f' 5)).ownBlock;rw[hf 5 (Ne.symm hij),hf 2 (fun e=>hd (e▸of_decide_eq_true (by kernel_rfl)))];exact⟨h.1.tk hR.any (by decide),h.2⟩
  |6=>intro h;have h:(f 6)=.agg #[(f 2),.slice none 0 0,(f 5)]:=h;show(f' 6)=.agg #[(f' 2),.slice none 0 0,(f' 5)];rw[hf 6 (Ne.symm hij),hf 2 (fun e=>hd (e▸of_decide_eq_true (by kernel_rfl))),hf 5 (fun e=>hd (e▸of_decide_eq_true (by kernel_rfl)))];exact h
  |7=>intro h;have h:∃g,(f 7)=.pointer (some ⟨g,0,none⟩)/\b1<g/\((l 8)=false->w1.heap[g]?=some (.cells #[.slice none 0 0,.slice none 0 0,.slice none 0 0] 59)):=h;show∃g,(f' 7)=.pointer (some ⟨g,0,none⟩)/\b1<g/\((decide (8=i)||l 8)=false->w2.heap[g]?=some (.cells #[.slice none 0 0,.slice none 0 0,.slice none 0 0] 59));rw[hf 7 (Ne.symm hij)];exact h.elim fun g h=>⟨g,h.1,h.2.1,hR.then_l h.2.2⟩
  |8=>
   intro h;have h:∃g x z,(f 7)=.pointer (some ⟨g,0,none⟩)/\(f 2)=x/\(f 5)=z/\b1<g/\w1.heap[g]?=some (.cells #[x,.slice none 0 0,z] 59):=h;show∃g x z,(f' 7)=.pointer (some ⟨g,0,none⟩)/\(f' 2)=x/\(f' 5)=z/\b1<g/\w2.heap[g]?=some (.cells #[x,.slice none 0 0,z] 59)
   rw[hf 2 (fun e=>hd (e▸of_decide_eq_true (by kernel_rfl))),hf 5 (fun e=>hd (e▸of_decide_eq_true (by kernel_rfl))),hf 7 (fun e=>hd (e▸of_decide_eq_true (by kernel_rfl)))];exact h.elim fun g h=>h.elim fun x h=>h.elim fun z h=>⟨g,x,z,h.1,h.2.1,h.2.2.1,h.2.2.2.1,(hR.ne hij).at_ (by simp) h.2.2.2.2⟩
  |_+9=>exact id
 case steps=>
  refine fun i hi=>stepsOf_at (k:=0) (n:=9) ?_ i (Nat.zero_le _) (by rw[Nat.zero_add];exact hi);refine sD 0 8 aT0 [] (fun f wq l hl hun hdn hS hd K' HK=>?_) ?_
  ·clear hd;go_simp;exact HK.o _ _ _ rfl rfl (hq 0 l _ hS) (rr _)
  refine sD 1 7 aT1 [0] (fun f wq l hl hun hdn hS hd K' HK=>?_) ?_
  ·obtain⟨e0,-⟩:=hd;have e0:f 0=_:=e0;obtain⟨r0,r1,r2,_⟩:=cells3 hS.2;simp only[e0];go_simp;exact HK.o _ _ _ (by simp only[e0];rfl) rfl (hq 1 l _ hS) (rr _)
  refine sD 2 6 aT2 [1] (fun f wq l hl hun hdn hS hd K' HK=>?_) ?_
  ·obtain⟨e1,-⟩:=hd;have e1:f 1=_:=e1;have HC:=Jh (clone57_any A1 4 c1 _ wq (H1.o.below hS.1).rd (ints_one _) (by omega));simp only[e1];go_simp;go_wp2_with (go_at_call 57;refine HC.o.mono ?_;rintro e w1 ⟨⟨A,c,rfl,hown,hc⟩,hbb⟩);exact HK.o _ _ _ (by simp only[e1];rfl) ⟨A,c,rfl,hc,own_low hown (blk_lt hS.2)⟩ ⟨bT hS.1 hbb,blk_below hbb hS.2⟩ (rb hbb)
  refine sD 3 5 aT3 [] (fun f wq l hl hun hdn hS hd K' HK=>?_) ?_
  ·clear hd;go_simp;exact HK.o _ _ _ rfl rfl (hq 3 l _ hS) (rr _)
  refine sD 4 4 aT4 [3] (fun f wq l hl hun hdn hS hd K' HK=>?_) ?_
  ·obtain⟨e3,-⟩:=hd;have e3:f 3=_:=e3;obtain⟨r0,r1,r2,_⟩:=cells3 hS.2;simp only[e3];go_simp;exact HK.o _ _ _ (by simp only[e3];rfl) rfl (hq 4 l _ hS) (rr _)
  refine sD 5 3 aT5 [2,4] (fun f wq l hl hun hdn hS hd K' HK=>?_) ?_
  ·obtain⟨e2,e4,-⟩:=hd;have e2:OwnAt b1 3 1 4 (ints M.words) (f 2) wq:=e2;have e4:f 4=_:=e4;have HC:=Jh (clone57_any A3 4 c3 _ wq (H3.o.below hS.1).rd (by simp[Value.oneCell']) (by omega));simp only[e4];go_simp;go_wp2_with (go_at_call 57;refine HC.o.mono ?_;rintro e w1 ⟨⟨A,c,rfl,hown,hc⟩,hbb⟩)
   exact HK.o _ _ _ (by simp only[e4];rfl) ⟨⟨A,c,rfl,hc,own_low hown (blk_lt hS.2)⟩,own_ne e2 hown (by omega)⟩ ⟨bT hS.1 hbb,blk_below hbb hS.2⟩ (rb hbb)
  refine sD 6 2 aT6 [2,5] (fun f wq l hl hun hdn hS hd K' HK=>?_) ?_
  ·obtain⟨e2,e5,-⟩:=hd;have e2:OwnAt b1 3 1 4 (ints M.words) (f 2) wq:=e2;have e5:OwnAt b1 3 1 4 [.int .i64 (-1),.int .i64 (-1),.int .i64 (-1),.int .i64 (-1)] (f 5) wq/\((f 2)).ownBlock≠((f 5)).ownBlock:=e5;obtain⟨A,c,hv2,_⟩:=e2;obtain⟨⟨A',c',hv5,_⟩,_⟩:=e5;simp only[hv2,hv5];go_simp
   exact HK.o _ _ _ (by simp only[hv2,hv5];rfl) (show Value.agg #[.slice A 4 c,.slice none 0 0,.slice A' 4 c']=.agg #[f 2,.slice none 0 0,f 5] by rw[hv2,hv5]) (hq 6 l _ hS) (rr _)
  refine sD 7 1 aT7 [] (fun f wq l hl hun hdn hS hd K' HK=>?_) ?_
  ·clear hd;go_simp;exact HK.o _ _ _ rfl ⟨_,rfl,blk_lt hS.2,fun _=>heap_alloc_new wq _⟩ ⟨bA hS.1,blk_below (bA (bR wq)) hS.2⟩ (rb (bA (bR wq)))
  refine sD 8 0 aT8 [2,5,6,7] (fun f wq l hl hun hdn hS hd K' HK=>?_) ?_
  ·obtain⟨e2,e5,e6,e7,-⟩:=hd;have e2:OwnAt b1 3 1 4 (ints M.words) (f 2) wq:=e2;have e5:OwnAt b1 3 1 4 [.int .i64 (-1),.int .i64 (-1),.int .i64 (-1),.int .i64 (-1)] (f 5) wq/\((f 2)).ownBlock≠((f 5)).ownBlock:=e5;have e6:(f 6)=.agg #[(f 2),.slice none 0 0,(f 5)]:=e6
   have e7:∃g,(f 7)=.pointer (some ⟨g,0,none⟩)/\b1<g/\((l 8)=false->wq.heap[g]?=some (.cells #[.slice none 0 0,.slice none 0 0,.slice none 0 0] 59)):=e7;obtain⟨g,h7,hbg,hg⟩:=e7;have hg:=hg hl;obtain⟨A,c,hv2,_⟩:=e2;obtain⟨⟨A',c',hv5,_⟩,_⟩:=e5;obtain⟨_,_,_,r3,r4,r5⟩:=cells3 hg;have HG:=Jh hg;have HS:=Jh hS;have HBg:=Jh hbg;clear hg hS hbg;simp only[h7,e6,hv2,hv5];go_simp
   exact HK.o undef _ _ (by simp only[h7,e6,hv2,hv5];rfl) ⟨g,_,_,h7,hv2,hv5,HBg.o,set3 HG.o⟩ ⟨bS (bS (bS HS.o.1 (Nat.le_trans HLe.o (Nat.le_of_lt HBg.o))) (Nat.le_trans HLe.o (Nat.le_of_lt HBg.o))) (Nat.le_trans HLe.o (Nat.le_of_lt HBg.o)),(set3_other (Nat.ne_of_lt HBg.o)).trans HS.o.2⟩ (Tk.set3 HG.o)
  exact trivial
 case fin=>
  intro f wz l hl hall hS;have a0:f 0=_:=hall 0 (by decide);have a1:f 1=_:=hall 1 (by decide);have a2:OwnAt b1 3 1 4 (ints M.words) (f 2) wz:=hall 2 (by decide);have a3:f 3=_:=hall 3 (by decide);have a4:f 4=_:=hall 4 (by decide);have a5:OwnAt b1 3 1 4 [.int .i64 (-1),.int .i64 (-1),.int .i64 (-1),.int .i64 (-1)] (f 5) wz/\((f 2)).ownBlock≠((f 5)).ownBlock:=hall 5 (by decide)
  have a6:(f 6)=.agg #[(f 2),.slice none 0 0,(f 5)]:=hall 6 (by decide);have a7:∃g,(f 7)=.pointer (some ⟨g,0,none⟩)/\b1<g/\((l 8)=false->wz.heap[g]?=some (.cells #[.slice none 0 0,.slice none 0 0,.slice none 0 0] 59)):=hall 7 (by decide);have a8:∃g x z,(f 7)=.pointer (some ⟨g,0,none⟩)/\(f 2)=x/\(f 5)=z/\b1<g/\wz.heap[g]?=some (.cells #[x,.slice none 0 0,z] 59):=hall 8 (by decide);clear hall
  obtain⟨A,c,hv2,hc2,ho2⟩:=a2;obtain⟨⟨A',c',hv5,hc5,ho5⟩,hne⟩:=a5;obtain⟨bx,x,z,h7,rfl,rfl,hbx,hblk⟩:=a8;rw[hv2,hv5] at hne hblk;simp only[a0,a1,hv2,a3,a4,hv5,a6,h7];have HREL:=Jh (show OfL w b1 bx A c A' c' M 0 wz from⟨hS.1,none,0,[],hblk,Nat.le_refl _,World.ownsRow_nil _ _ _ _,rfl,fun i p hi=>absurd hi (by omega),fun i j g v u _ hv=>by simp at hv,⟨A,c,rfl,hc2,ho2⟩,⟨A',c',rfl,hc5,ho5⟩⟩)
  have HNE:=Jh hne;have HBX1:=Jh hS.2;have HBb:=Jh hbx;clear a0 a1 a3 a4 a6 a7 h7 hv2 hv5 ho2 ho5 hne hblk hS hq rr rb hbx hl;obtain⟨r0,r1,r2,_⟩:=cells3 HBX1.o;go_wp2_with fail;clear r0 r1 r2;go_loopw [16] (fun v wr=>∃k:Nat,k<=4/\v=.int .i64 k/\OfL w b1 bx A c A' c' M k wr) (fun v _=>4-(intOf v).toNat);case atStart=>exact⟨0,by omega,rfl,HREL.o⟩
  case round=>
   obtain⟨k,hk,rfl,hB,AP,cP,pv,hblk,hcP,hown,hlen,hent,hdj,hO2,hO5⟩:=hrel;obtain⟨w5,rfl⟩:=exE wr;have HB:=Jh hB;have HBK:=Jh hblk;have HOW:=Jh hown;have HEN:=Jh hent;have HDJ:=Jh hdj;have HO2:=Jh hO2;have HO5:=Jh hO5;have HLEN:=Jh hlen;clear hB hblk hown hlen hent hdj hO2 hO5;by_cases hlt:k<4
   ·obtain⟨p,hp⟩:∃p,M.pend[k]?=some p:=⟨_,List.getElem?_eq_getElem (by rw[HOK.o.lp];exact hlt)⟩;obtain⟨A4,c4,he4,hc4,hr4⟩:=HP.o k p hp;obtain⟨ba,off,u,hA2,hu,hcell⟩:=(H2.o.below HB.o).rd.at1 hlt;rw[he4] at hu;injection hu with hu
    subst hu;subst hA2;obtain⟨n4,hn4⟩:=exE (p.length);have hn8:n4<=8:=hn4▸HOK.o.few p (List.mem_of_getElem? hp);rw[<-hn4] at hcell hr4 hc4;have HPk:=Jh hp;have HN4:=Jh hn4;have HR4:=Jh hr4;have hltb:decide ((k:Int)<4)=true:=by simp;omega
    clear hp he4 hr4 hn4;go_wp2_with fail
    have hq:∀(k9:Nat),k9≠7->k9≠5->∀(l:Nat->Bool) (wx:World),(Below w.heap.size w wx/\(l 7=false->wx.heap[bx]?=some (.cells #[.slice A 4 c,.slice AP k cP,.slice A' 4 c'] 59))/\(l 5=false->wx.ownsRow (b1+1) 87 1 (.slice AP k cP) k pv)/\(∀i p,i<k->M.pend[i]?=some p->∃v,pv[i]?=some v/\OwnAt b1 128 2 p.length (entCells p) v wx)/\OwnAt b1 3 1 4 (ints M.words) (.slice A 4 c) wx/\OwnAt b1 3 1 4 [.int .i64 (-1),.int .i64 (-1),.int .i64 (-1),.int .i64 (-1)] (.slice A' 4 c') wx)->(Below w.heap.size w wx/\((decide (7=k9)||l 7)=false->wx.heap[bx]?=some (.cells #[.slice A 4 c,.slice AP k cP,.slice A' 4 c'] 59))/\((decide (5=k9)||l 5)=false->wx.ownsRow (b1+1) 87 1 (.slice AP k cP) k pv)/\(∀i p,i<k->M.pend[i]?=some p->∃v,pv[i]?=some v/\OwnAt b1 128 2 p.length (entCells p) v wx)/\OwnAt b1 3 1 4 (ints M.words) (.slice A 4 c) wx/\OwnAt b1 3 1 4 [.int .i64 (-1),.int .i64 (-1),.int .i64 (-1),.int .i64 (-1)] (.slice A' 4 c') wx):=fun k9 h7 h5 l wx h=>⟨h.1,fun hl=>h.2.1 (by simpa[Ne.symm h7] using hl),fun hl=>h.2.2.1 (by simpa[Ne.symm h5] using hl),h.2.2.2⟩
    have rr:∀{T:List TypeId} (wx:World),Tk T wx wx:=fun wx=>Tk.refl _ wx;have rb:∀{T:List TypeId} {w1 w2:World},Below w1.heap.size w1 w2->Tk T w1 w2:=fun h=>Tk.below h;have nt:∀{i:Nat} (e:TypeId),e≠87->e≠59->e∉(if i=5 then[87] else if i=7 then[59] else[]:List TypeId):=fun e h1 h2=>by
     split
     ·simpa using h1
     split
     ·simpa using h2
     simp
    have nt5:∀{i:Nat} (e:TypeId),i≠5->e≠59->e∉(if i=5 then[87] else if i=7 then[59] else[]:List TypeId):=fun e h1 h2=>by
     rw[if_neg h1];split
     ·simpa using h2
     simp
    have nt7:∀{i:Nat} (e:TypeId),i≠7->e≠87->e∉(if i=5 then[87] else if i=7 then[59] else[]:List TypeId):=fun e h1 h2=>by split<;>simp_all
    refine wp_region_det (by kernel_rfl) (fun f=>(⟨#[Value.agg #[Value.slice A1 4 c1,Value.slice (some ⟨ba,off,none⟩) 4 c2,Value.slice A3 4 c3],Value.pointer (some ⟨b1,0,none⟩),Value.pointer none,Value.pointer (some ⟨bx,0,none⟩),undef,Value.slice A4 n4 c4,Value.pointer (some ⟨b1,0,none⟩),Value.slice A1 4 c1,Value.slice A 4 c,Value.pointer (some ⟨b1,2,none⟩),Value.slice A3 4 c3,Value.slice A' 4 c',Value.agg #[Value.slice A 4 c,Value.slice none 0 0,Value.slice A' 4 c'],Value.pointer (some ⟨b1,1,none⟩),Value.slice (some ⟨ba,off,none⟩) 4 c2,.int .i64 4,.int .i64 (k:Int),Value.bool true,Value.pointer (some ⟨ba,off+k,none⟩),Value.slice A4 n4 c4,f 0,f 1,f 2,f 3,f 4,f 5,f 6,u27,undef,undef,undef],[]⟩:Act)) (fun(i:Nat) (lv:Nat->Bool) (fv:Nat->Value) (wx:World)=>match i with|0=>fv 0=.pointer (some ⟨bx,1,none⟩)|1=>fv 1=.slice AP k cP|2=>fv 2=.slice A4 n4 c4|3=>OwnAt b1 128 2 n4 (entCells p) (fv 3) wx/\∀(j g:Nat) (u:Value),pv[j]?=some u->u.ownBlock=some g->((fv 3)).ownBlock≠some g|4=>∃g,(fv 4)=.slice (some ⟨g,0,none⟩) 1 1/\((lv 5)=false->wx.heap[g]?=some (.cells #[(fv 3)] 87))|5=>OwnAt b1 87 1 (k+1) (pv++[(fv 3)]) (fv 5) wx|6=>fv 6=.pointer (some ⟨bx,1,none⟩)|7=>wx.heap[bx]?=some (.cells #[.slice A 4 c,(fv 5),.slice A' 4 c'] 59)|_=>True) (fun lv wx=>Below w.heap.size w wx/\(lv 7=false->wx.heap[bx]?=some (.cells #[.slice A 4 c,.slice AP k cP,.slice A' 4 c'] 59))/\(lv 5=false->wx.ownsRow (b1+1) 87 1 (.slice AP k cP) k pv)/\(∀i p,i<k->M.pend[i]?=some p->∃v,pv[i]?=some v/\OwnAt b1 128 2 p.length (entCells p) v wx)/\OwnAt b1 3 1 4 (ints M.words) (.slice A 4 c) wx/\OwnAt b1 3 1 4 [.int .i64 (-1),.int .i64 (-1),.int .i64 (-1),.int .i64 (-1)] (.slice A' 4 c') wx) (fun i w1 w2=>Tk (if i=5 then[87] else if i=7 then[59] else[]) w1 w2) (by kernel_rfl) (fun k=>match k with|0=>u20|1=>u21|2=>u22|3=>u23|4=>u24|5=>u25|6=>u26|_=>undef) rfl ?keep ⟨bD HB.o,fun _=>HBK.o,fun _=>HOW.o,HEN.o,HO2.o,HO5.o⟩ ?steps ?fin
    case keep=>
     intro i j hij hd l f f' w1 w2 hf hR
     match j with
     |0|1|2|6=>exact fun h=>(hf _ (Ne.symm hij)).trans h
     |3=>intro h;have h:OwnAt b1 128 2 n4 (entCells p) (f 3) w1/\∀(j g:Nat) (u:Value),pv[j]?=some u->u.ownBlock=some g->((f 3)).ownBlock≠some g:=h;show OwnAt b1 128 2 n4 (entCells p) (f' 3) w2/\∀(j g:Nat) (u:Value),pv[j]?=some u->u.ownBlock=some g->((f' 3)).ownBlock≠some g;rw[hf 3 (Ne.symm hij)];exact⟨h.1.tk hR (nt 128 (by decide) (by decide)),h.2⟩
     |4=>intro h;have h:∃g,(f 4)=.slice (some ⟨g,0,none⟩) 1 1/\((l 5)=false->w1.heap[g]?=some (.cells #[(f 3)] 87)):=h;show∃g,(f' 4)=.slice (some ⟨g,0,none⟩) 1 1/\((decide (5=i)||l 5)=false->w2.heap[g]?=some (.cells #[(f' 3)] 87));rw[hf 4 (Ne.symm hij),hf 3 (fun e=>hd (e▸of_decide_eq_true (by kernel_rfl)))];exact h.elim fun g h=>⟨g,h.1,fun hl=>by
     simp only[Bool.or_eq_false_iff,decide_eq_false_iff_not] at hl;exact hR.at_ (nt5 87 (fun e=>hl.1 e.symm) (by decide)) (h.2 hl.2)⟩
     |5=>intro h;have h:OwnAt b1 87 1 (k+1) (pv++[(f 3)]) (f 5) w1:=h;show OwnAt b1 87 1 (k+1) (pv++[(f' 3)]) (f' 5) w2;rw[hf 5 (Ne.symm hij),hf 3 (fun e=>hd (e▸of_decide_eq_true (by kernel_rfl)))];exact h.tk hR (nt5 87 hij (by decide))
     |7=>intro h;have h:w1.heap[bx]?=some (.cells #[.slice A 4 c,(f 5),.slice A' 4 c'] 59):=h;show w2.heap[bx]?=some (.cells #[.slice A 4 c,(f' 5),.slice A' 4 c'] 59);rw[hf 5 (fun e=>hd (e▸of_decide_eq_true (by kernel_rfl)))];exact hR.at_ (nt7 59 hij (by decide)) h
     |_+8=>exact id
    case steps=>
     refine fun i hi=>stepsOf_at (k:=0) (n:=8) ?_ i (Nat.zero_le _) (by rw[Nat.zero_add];exact hi);refine sD 0 7 aT0 [] (fun f wq l hl hun hdn hS hd K' HK=>?_) ?_
     ·clear hd;go_simp;exact HK.o _ _ _ rfl rfl (hq 0 (by decide) (by decide) l _ hS) (rr _)
     refine sD 1 6 aT1 [0] (fun f wq l hl hun hdn hS hd K' HK=>?_) ?_
     ·obtain⟨e0,-⟩:=hd;have e0:f 0=_:=e0;obtain⟨r0,r1,r2,_⟩:=cells3 (hS.2.1 (hun 7 (of_decide_eq_true (by kernel_rfl))));simp only[e0];go_simp;exact HK.o _ _ _ (by simp only[e0];rfl) rfl (hq 1 (by decide) (by decide) l _ hS) (rr _)
     refine sD 2 5 aT2 [] (fun f wq l hl hun hdn hS hd K' HK=>?_) ?_
     ·clear hd;go_simp;exact HK.o _ _ _ rfl rfl (hq 2 (by decide) (by decide) l _ hS) (rr _)
     refine sD 3 4 aT3 [2] (fun f wq l hl hun hdn hS hd K' HK=>?_) ?_
     ·obtain⟨e2,-⟩:=hd;have e2:f 2=_:=e2;have HC:=Jh (clone112_any A4 n4 c4 (entCells p) wq (HR4.o.below hS.1).rd (ent_one _) (by omega));have HS:=Jh hS;clear hS;simp only[e2];go_simp;go_wp2_with (go_at_call 112;refine HC.o.mono ?_;rintro e w1 ⟨⟨A9,c9,rfl,hown,hc⟩,hbb⟩);have hS:=HS.o
      exact HK.o _ _ _ (by simp only[e2];rfl) ⟨⟨A9,c9,rfl,hc,own_low hown (own_at_lt hS.2.2.2.2.1 (by decide))⟩,fun j g u hj hu h9=>pend_new hS.2.2.2.1 HLEN.o HOK.o.lp hk hj hu (hown.lt g h9).1⟩ ⟨bT hS.1 hbb,fun hl=>Tk.at_ (Tk.below (T:=[]) hbb) (by decide) (hS.2.1 (by simpa using hl)),fun hl=>own_tk (hS.2.2.1 (by simpa using hl)) (Tk.below (T:=[]) hbb) (by decide),fun i q hi hq=>(hS.2.2.2.1 i q hi hq).elim fun v h=>⟨v,h.1,h.2.tk (Tk.below (T:=[]) hbb) (by decide)⟩,hS.2.2.2.2.1.tk (Tk.below (T:=[]) hbb) (by decide),hS.2.2.2.2.2.tk (Tk.below (T:=[]) hbb) (by decide)⟩ (rb hbb)
     refine sD 4 3 aT4 [3] (fun f wq l hl hun hdn hS hd K' HK=>?_) ?_
     ·obtain⟨e3,-⟩:=hd;have e3:OwnAt b1 128 2 n4 (entCells p) (f 3) wq/\∀(j g:Nat) (u:Value),pv[j]?=some u->u.ownBlock=some g->((f 3)).ownBlock≠some g:=e3;obtain⟨⟨A9,c9,hv3,_⟩,_⟩:=e3;simp only[hv3];have HS:=Jh hS;clear hS;go_simp;have hS:=HS.o
      exact HK.o _ _ _ (by simp only[hv3];rfl) ⟨_,rfl,fun _=>(show _=some (Obj.cells #[f 3] 87) by rw[hv3];exact heap_alloc_new wq _)⟩ ⟨bA hS.1,fun hl=>Tk.at_ (Tk.below (T:=[]) (bA (bR wq))) (by decide) (hS.2.1 (by simpa using hl)),fun hl=>own_tk (hS.2.2.1 (by simpa using hl)) (Tk.below (T:=[]) (bA (bR wq))) (by decide),fun i q hi hq=>(hS.2.2.2.1 i q hi hq).elim fun v h=>⟨v,h.1,h.2.tk (Tk.below (T:=[]) (bA (bR wq))) (by decide)⟩,hS.2.2.2.2.1.tk (Tk.below (T:=[]) (bA (bR wq))) (by decide),hS.2.2.2.2.2.tk (Tk.below (T:=[]) (bA (bR wq))) (by decide)⟩ (rb (bA (bR wq)))
     refine sD 5 2 aT5 [1,3,4] (fun f wq l hl hun hdn hS hd K' HK=>?_) ?_
     ·obtain⟨e1,e3,e4,-⟩:=hd;have e1:f 1=_:=e1;have e3:OwnAt b1 128 2 n4 (entCells p) (f 3) wq/\∀(j g:Nat) (u:Value),pv[j]?=some u->u.ownBlock=some g->((f 3)).ownBlock≠some g:=e3;have e4:∃g,(f 4)=.slice (some ⟨g,0,none⟩) 1 1/\((l 5)=false->wq.heap[g]?=some (.cells #[(f 3)] 87)):=e4;obtain⟨g,hv4,hg⟩:=e4;have hg:=hg hl;have hown:=hS.2.2.1 hl;obtain⟨i0,hi0,hz0,hz1,hz2⟩:=info_parts pend_info
      rw[if_pos (by rfl)]
      refine wp_append_rd _ _ _ 57 rfl (b1+1) 87 i0 _ 1 24 Tryz.underlying57 hi0 hz0 hz1 hz2 rfl (by decide) (.slice AP k cP) k pv (by simp only[e1];rfl) hown (some ⟨g,0,none⟩) 1 1 [f 3] (by simp only[hv4];rfl) ⟨rfl,fun _=>⟨g,0,rfl,blk_lt hg,fun j u hu=>one_cell hg hu⟩⟩ (by obtain⟨⟨A9,c9,hv3,_⟩,_⟩:=e3;rw[hv3];simp[Value.oneCell']) (by unfold maxLen;omega) (by omega) (own_at_lt hS.2.2.2.2.1 (by decide)) ?_
      intro v9 w9 hown9 hg9;obtain⟨A9,c9,rfl,hc9,_⟩:=own_slice hown9;have htk:=tk_grown hown hg9
      exact HK.o.out _ _ _ rfl ⟨A9,c9,rfl,hc9,hown9⟩ ⟨hS.1.grown hg9 hS.1.size (fun j hj=>by have:=(hown.lt j hj).1;have:=HLe.o;omega),fun hl=>Tk.at_ htk (by decide) (hS.2.1 (by simpa using hl)),fun hl=>absurd hl (by simp),fun i q hi hq=>(hS.2.2.2.1 i q hi hq).elim fun v h=>⟨v,h.1,h.2.tk htk (by decide)⟩,hS.2.2.2.2.1.tk htk (by decide),hS.2.2.2.2.2.tk htk (by decide)⟩ htk
     refine sD 6 1 aT6 [] (fun f wq l hl hun hdn hS hd K' HK=>?_) ?_
     ·clear hd;go_simp;exact HK.o _ _ _ rfl rfl (hq 6 (by decide) (by decide) l _ hS) (rr _)
     refine sD 7 0 aT7 [5,6] (fun f wq l hl hun hdn hS hd K' HK=>?_) ?_
     ·obtain⟨e5,e6,-⟩:=hd;have e5:OwnAt b1 87 1 (k+1) (pv++[(f 3)]) (f 5) wq:=e5;have e6:f 6=_:=e6;obtain⟨A9,c9,hv5,hc9,hown9⟩:=e5;have hblk:=hS.2.1 hl;obtain⟨_,_,_,r3,r4,r5⟩:=cells3 hblk;have HG:=Jh hblk;have HS:=Jh hS;clear hS hblk hown9;simp only[e6,hv5];go_simp;have hS:=HS.o
      exact HK.o undef _ _ (by simp only[hv5,e6];rfl) (show _=some (Obj.cells #[.slice A 4 c,f 5,.slice A' 4 c'] 59) by rw[hv5];exact set_same HG.o _) ⟨bS hS.1 (Nat.le_of_lt (Nat.lt_of_le_of_lt HLe.o HBb.o)),fun hl=>absurd hl (by simp),fun hl=>own_tk (hS.2.2.1 (by simpa using hl)) (tk_set1 HG.o) (by decide),fun i q hi hq=>(hS.2.2.2.1 i q hi hq).elim fun v h=>⟨v,h.1,h.2.tk (tk_set1 HG.o) (by decide)⟩,hS.2.2.2.2.1.tk (tk_set1 HG.o) (by decide),hS.2.2.2.2.2.tk (tk_set1 HG.o) (by decide)⟩ (tk_set1 HG.o)
     exact trivial
    case fin=>
     intro f wz l hl hall hS;have a3:OwnAt b1 128 2 n4 (entCells p) (f 3) wz/\∀(j g:Nat) (u:Value),pv[j]?=some u->u.ownBlock=some g->((f 3)).ownBlock≠some g:=hall 3 (by decide);have a4:∃g,(f 4)=.slice (some ⟨g,0,none⟩) 1 1/\((l 5)=false->wz.heap[g]?=some (.cells #[(f 3)] 87)):=hall 4 (by decide);have a5:OwnAt b1 87 1 (k+1) (pv++[(f 3)]) (f 5) wz:=hall 5 (by decide)
     have a7:wz.heap[bx]?=some (.cells #[.slice A 4 c,(f 5),.slice A' 4 c'] 59):=hall 7 (by decide);clear hall;obtain⟨A9,c9,hv3,hc9,ho9⟩:=a3.1;obtain⟨A8,c8,hv5,hc8,ho8⟩:=a5;obtain⟨g4,hv4,_⟩:=a4;have HO3:=Jh (show OwnAt b1 128 2 n4 (entCells p) (f 3) wz from⟨A9,c9,hv3,hc9,ho9⟩);have HNW:=Jh a3.2;have HO8:=Jh ho8;rw[hv5] at a7;have H7:=Jh a7;have HS:=Jh hS;simp only[hv3,hv4,hv5]
     clear a3 a7 hv3 hv4 hv5 ho8 ho9 hS hq rr rb nt nt5 nt7 hl;go_wp2_with fail;go_roundw;case rel=>have hn4:=HN4.o;exact⟨k+1,by omega,by go_num,OfL.next HS.o.1 H7.o hc8 HO8.o HLEN.o HS.o.2.2.2.1 HDJ.o (hn4▸HO3.o) HPk.o HNW.o HS.o.2.2.2.2.1 HS.o.2.2.2.2.2⟩
     case measure=>simp[intOf];omega
   obtain rfl:k=4:=by omega
   obtain⟨s0,s1,s2,_⟩:=cells3 HBK.o;go_wp2_with fail;go_ret;exact⟨⟨_,_,_,_,pv,rfl,HB.o.size,heap_alloc_new w5 _,OfL.mem HOK.o hcP HOW.o HEN.o HDJ.o HO2.o HO5.o HNE.o HLe.o (bA (bR w5))⟩,bA HB.o⟩
end Go.Proofs.YtnigadeohmlpiaaGreatDoor
