/- Contracts and words: the library's sort, at rows of numbers; outcomes in their order, each once; the ways in which a program's loads may be told. No condition of ours. -/
import Derived.Test.YtnigadeohmlpiaaGreatDoorC16
import Derived.Test.YtnigadeohmlpiaaGreatDoorC03
set_option maxHeartbeats 32000000
set_option maxRecDepth 100000
namespace Go.Proofs.YtnigadeohmlpiaaGreatDoor
open Go.RowKit Go.Sort
attribute [local go_sem] Oper.semAt_some
def RwIn(w:World):Type:={x:Option Addr×Nat×List Int//Row w 3 1 x.1 x.2.2.length (ints x.2.2)/\x.2.2.length<=1000000/\x.2.2.length<=x.2.1}
instance (w : World) : Inhabited (RwIn w) := ⟨⟨(none, 0, []), Row.nil_ _ _ _ _, Nat.zero_le _, Nat.zero_le _⟩⟩
def rwV{w:World}(x:RwIn w):Value:=.slice x.1.1 x.1.2.2.length x.1.2.1
def rwC{w:World}(x y:RwIn w):Int:=cmpL x.1.2.2 y.1.2.2
theorem rw_swo(w:World):SWO (ltOf (rwC (w:=w))) where
 irrefl x:=by unfold ltOf rwC;rw[cmpL_refl];rfl
 trans x y z h1 h2:=by unfold ltOf rwC at*;exact decide_eq_true (cmpL_trans (of_decide_eq_true h1) (of_decide_eq_true h2))
 ntrans x y z h1 h2:=by unfold ltOf rwC at*;exact decide_eq_false (cmpL_ntrans (of_decide_eq_false h1) (of_decide_eq_false h2))
theorem cts_list{w:World}:∀{cs:List Value} {L:List (List Int)},Cts w cs L->(∀z∈L,z.length<=1000000)->∃ds:List (RwIn w),cs=ds.map rwV/\L=ds.map (fun x=>x.1.2.2)
 |[],[],_,_=>⟨[],rfl,rfl⟩
 |[],_::_,h,_=>by cases h.1
 |_::_,[],h,_=>by cases h.1
 |u::cs,z::L,h,hz=>by
  obtain⟨B,c,h1,h2,h3⟩:=h.2 0 z rfl;obtain⟨ds,e1,e2⟩:=cts_list (cs:=cs) (L:=L) ⟨by simpa using h.1,fun k y hy=>by simpa using h.2 (k+1) y (by simpa using hy)⟩ (fun y hy=>hz y (List.mem_cons_of_mem _ hy));refine⟨⟨(B,c,z),h3,hz z List.mem_cons_self,h2⟩::ds,?_,?_⟩
  ·have:u=.slice B z.length c:=by simpa using h1
   rw[this,e1];rfl
  exact congrArg (z::·) e2
theorem sortW_at{α:Type}[Inhabited α](enc:α->Value){w:World}{g m:Nat}{dk:Array α}{os:Array Obj}{cur:Array Value}{t:TypeId}(h:w.heap[g]?=some (.cells cur t)):(sortWorld enc w g 0 m dk os).heap[g]?=some (.cells (putCells enc 0 dk cur) t):=by
 have hlt:=blk_lt h;unfold sortWorld;rw[heap_grow_old _ _ (by simpa using hlt)];show(w.heap.modify g (onCells _))[g]?=_;rw[Array.getElem?_modify,if_pos rfl,h];rfl
theorem sortW_grown{α:Type}[Inhabited α](enc:α->Value)(w:World)(g m:Nat)(dk:Array α)(os:Array Obj):w.grownBy (sortWorld enc w g 0 m dk os) (some g):=by refine⟨rfl,rfl,rfl,by simp[sortWorld],fun k hk hne=>?_⟩;unfold sortWorld;rw[heap_grow_old _ _ (by simpa using hk)];have:g≠k:=fun e=>hne (by rw[e]);show(w.heap.modify g (onCells _))[k]?=_;rw[Array.getElem?_modify,if_neg this]
theorem sort_any(g n c base:Nat)(cs:List Value)(L:List (List Int))(w:World)(hn:n<=5000000000000)(hL:L.length=n)(hown:w.ownsRow base 32 1 (.slice (some ⟨g,0,none⟩) n c) n cs)(hc:Cts w cs L)(hz:∀z∈L,z.length<=1000000):
  Calls Tryz.prog 66 #[.slice (some ⟨g,0,none⟩) n c,.func (.func 67) #[] #[]] w fun o w'=>o=.returned (.tuple #[])/\
   (∃(cs':List Value) (L':List (List Int)),L'.Perm L/\Mounting L'/\w'.ownsRow base 32 1 (.slice (some ⟨g,0,none⟩) n c) n cs'/\Cts w' cs' L')/\w.grownBy w' (some g):=by
 obtain⟨ds,e1,e2⟩:=cts_list hc hz;obtain⟨cur,hcur,hc1,hc2,hc3⟩:=own_cur hown;have hdl:ds.length=n:=by rw[<-hL,e2,List.length_map]
 have hnc:n<=c:=by
  rcases hown.2 with⟨h1,_⟩|⟨k,cap,cu,h1,_,_,h6,_⟩
  ·cases h1
  injection h1 with _ _ h2
  omega
 have hsz:ds.toArray.size=n:=by simpa using hdl
 have hcmp:CmpReads Tryz.prog 67 #[] (rwV (w:=w)) rwC g 0 ds.toArray.size w:=by
  intro m os dk _ x y;have hg:=sortW_grown (rwV (w:=w)) w g m dk os;have htk:Tk [32] w (sortWorld (rwV (w:=w)) w g 0 m dk os):=tk_grown hown hg;have h:=compare_any x.1.1 y.1.1 x.1.2.2.length y.1.2.2.length x.1.2.1 y.1.2.1 x.1.2.2 y.1.2.2 (sortWorld (rwV (w:=w)) w g 0 m dk os) (x.2.1.tk htk (by decide)).rd (y.2.1.tk htk (by decide)).rd x.2.2.1;exact h.mono fun o w' ⟨h1,h2⟩=>⟨h1,0,h2.symm⟩
 have hH:Holds (rwV (w:=w)) w g 0 ds.toArray:=by intro j hj;rw[hsz] at hj;refine⟨?_,hown.frozenAt (0+j)⟩;rw[hown.cellAt (0+j) (by omega),e1,Nat.zero_add];rw[List.getElem?_map,List.getElem?_eq_getElem (by omega),Option.map_some];congr 1;rw[getElem!_pos ds.toArray j (by omega)];simp
 have eg:∀args w,(callFunc 67 args).run Tryz.prog w=.ok (.enter 67 args) w:=enters_of Tryz.func67 (by kernel_rfl) rfl;have hs:=Any.slices_SortFunc Tryz.sortLL (rwV (w:=w)) (fun _=>rfl) rwC (rw_swo w) 67 #[] g 0 c ds.toArray w eg hcmp.lays hH (blk_lt hcur) (by omega);change Calls Tryz.prog 66 _ _ _ at hs;rw[hsz] at hs;refine hs.mono ?_;rintro o w' ⟨rfl,d',m,os,hp,hso,rfl⟩
 have hpd:d'.size=n:=by rw[hp.1,hsz]
 have hperm:d'.toList.Perm ds:=by
  have h:=hp.2.2;have h1:d'.extract 0 n=d':=by rw[<-hpd,Array.extract_size]
  have h2:ds.toArray.extract 0 n=ds.toArray:=by rw[<-hsz,Array.extract_size]
  rw[h1,h2] at h;simpa using h
 refine⟨rfl,⟨d'.toList.map rwV,d'.toList.map (fun x=>x.1.2.2),?_,?_,?_,?_⟩,sortW_grown _ _ _ _ _ _⟩
 ·rw[e2];exact hperm.map _
 ·unfold Mounting;rw[List.pairwise_map,List.pairwise_iff_getElem];intro i j hi hj hij;have h:=hso i j (Nat.zero_le _) hij (by simpa[hpd] using hj);rw[getElem!_pos d' i (by simpa using hi),getElem!_pos d' j (by simpa using hj)] at h;exact of_decide_eq_false h
 ·have hgb:=own_block_ge hown rfl;refine⟨by simp[hpd],.inr ⟨g,c,_,rfl,hgb,sortW_at _ hcur,hnc,hc2,by simp[putCells,hc1],?_⟩⟩;apply List.ext_getElem?;intro i;rw[List.getElem?_take];by_cases hi:i<n
  ·rw[if_pos (by omega),Array.getElem?_toList,List.getElem?_map];unfold putCells;rw[Array.getElem?_mapIdx,Array.getElem?_eq_getElem (show i<cur.size by omega),Option.map_some,if_pos (by omega),Nat.sub_zero,getElem!_pos d' i (by omega)];rw[Array.getElem?_toList,Array.getElem?_eq_getElem (by omega)];rfl
  rw[if_neg (by omega),List.getElem?_eq_none (by simp[hpd];omega)]
 have htk:Tk [32] w (sortWorld (rwV (w:=w)) w g 0 m d' os):=tk_grown hown (sortW_grown _ _ _ _ _ _);refine⟨by simp,fun k z hk=>?_⟩;rw[List.getElem?_map] at hk;cases hx:d'.toList[k]?with
 |none=>rw[hx] at hk;cases hk
 |some x=>
  rw[hx] at hk;obtain rfl:x.1.2.2=z:=by simpa using hk
  obtain⟨B,c9,h7,h8,h9⟩:∃B c,rwV x=.slice B x.1.2.2.length c/\x.1.2.2.length<=c/\Row w 3 1 B x.1.2.2.length (ints x.1.2.2):=⟨_,_,rfl,x.2.2.2,x.2.1⟩;refine⟨B,c9,by rw[List.getElem?_map,hx,Option.map_some,h7],h8,h9.tk htk (by decide)⟩
end Go.Proofs.YtnigadeohmlpiaaGreatDoor
namespace Go.Proofs.YtnigadeohmlpiaaGreatDoor
open Go.RowKit
attribute [local go_sem] Oper.semAt_some
theorem sort_none(p:Option Addr)(c:Nat)(fv:Value)(w:World):Calls Tryz.prog 66 #[.slice p 0 c,fv] w fun o w'=>o=.returned (.tuple #[])/\w'=w:=by have hs:=AnyF.slices_SortFunc_none Tryz.sortLL0 p c fv w;change Calls Tryz.prog 66 _ _ _ at hs;exact hs
theorem compact_none(p:Option Addr)(c:Nat)(fv:Value)(w:World):Calls Tryz.prog 68 #[.slice p 0 c,fv] w fun o w'=>o=.returned (.slice p 0 c)/\w=w':=by
 have hb:decide ((0:Int)<2)=true:=by decide
 go_enter Tryz.func68,Tryz.ntmps68;go_wp2_with fail;go_ret;exact⟨rfl,rfl⟩
theorem own_forms{w:World}{base:Nat}{e:TypeId}{size:Nat}{v:Value}{n:Nat}{xs:List Value}(h:w.ownsRow base e size v n xs):(v=.slice none 0 0/\n=0)\/∃g c,v=.slice (some ⟨g,0,none⟩) n c/\base<=g/\n<=c:=by
 rcases h.2 with h1|⟨g,cap,cur,hv,hb,hg,hnc,_⟩
 ·exact .inl h1
 exact .inr ⟨g,cap,hv,hb,hnc⟩
def SS(w:World)(base:Nat)(v:Value)(L:List (List Int)):Prop:=∃cs,w.ownsRow base 32 1 v L.length cs/\Cts w cs L
def SortedIs(L:List (List Int))(base:Nat)(o:Ending)(w:World):Prop:=∃v R,o=.returned v/\SS w base v R/\Rising R/\∀z,z∈R↔z∈L
theorem sorted_any(base:Nat)(v:Value)(L:List (List Int))(w:World)(hn:L.length<=5000000000000)(hs:SS w base v L)(hz:∀z∈L,z.length<=1000000)(hbw:base<=w.heap.size):
  Calls Tryz.prog 41 #[v] w fun o w'=>SortedIs L base o w'/\Below base w w':=by
 obtain⟨cs,hown,hc⟩:=hs;obtain⟨n,hnL⟩:=exE (L.length);rw[<-hnL] at hown;rcases own_forms hown with⟨rfl,rfl⟩|⟨g,c,rfl,hg,hnc⟩
 ·have hL:L=[]:=List.length_eq_zero_iff.1 hnL.symm;subst hL;have HS:=Jh (sort_none none 0 (.func (.func 67) #[] #[]) w);clear hown hc hz hnL;go_enter Tryz.func41,Tryz.ntmps41;go_wp2_with fail;refine HS.o.mono ?_;rintro o w2 ⟨rfl,rfl⟩;go_wp2_with fail;refine(compact_none none 0 _ _).mono ?_;rintro o w3 ⟨rfl,rfl⟩;go_wp2_with fail;go_ret
  exact⟨⟨_,[],rfl,⟨[],⟨rfl,.inl ⟨rfl,rfl⟩⟩,rfl,fun k z h=>by cases h⟩,List.Pairwise.nil,fun z=>Iff.rfl⟩,Below.refl _ _⟩
 have HS:=Jh (sort_any g n c base cs L w (by omega) hnL.symm hown hc hz);have HZ:=Jh hz;have HL:=Jh hnL;have HG:=Jh hg;have HN:=Jh (And.intro hn (And.intro hnc hbw));clear hown hc hz hnL hg hn hnc hbw;go_enter Tryz.func41,Tryz.ntmps41;go_wp2_with fail;refine HS.o.mono ?_;rintro o w2 ⟨rfl,⟨cs',L',hp,hm,ho',hc'⟩,hg2⟩;have HP:=Jh hp;have HM:=Jh hm;have HG2:=Jh hg2
 have HCm:=Jh (compact_any g n c base cs' L' w2 (by have:=HN.o;have:=HL.o;omega) (by rw[hp.length_eq,<-HL.o]) ho' hc' (fun z hz=>HZ.o z (hp.mem_iff.1 hz)) HN.o.2.1);clear hp hm ho' hc' hg2;go_wp2_with fail;refine HCm.o.mono ?_;rintro o w3 ⟨⟨cs3,rfl,ho3,hc3⟩,hg3⟩;have HO3:=Jh ho3;have HC3:=Jh hc3;have HG3:=Jh hg3;clear ho3 hc3 hg3;go_wp2_with fail;go_ret
 refine⟨⟨_,dedupK L' n,rfl,⟨cs3,HO3.o,HC3.o⟩,dedupK_rising HM.o n,fun z=>?_⟩,?_⟩
 ·rw[dedupK_mem,List.take_of_length_le (by rw[HP.o.length_eq,<-HL.o];exact Nat.le_refl _)];exact HP.o.mem_iff
 have h:=HG2.o.trans HG3.o;exact⟨h.os,h.tape,h.output,h.size,fun k hk=>h.block k (by have:=HN.o;omega) (fun e=>by injection e with e;have:=HG.o;omega)⟩
end Go.Proofs.YtnigadeohmlpiaaGreatDoor
namespace Go.Proofs.YtnigadeohmlpiaaGreatDoor
open Go.RowKit
def axAll(l:List Ev):Nat->List (List Ev)
 |0=>[l]
 |k+1=>match l[k]?with
  |some e=>if e.k=1 then(axAll l k).flatMap fun m=>toldP m k e.a else axAll l k
  |none=>axAll l k
def loadsOf(m:List Ev):List Int:=m.filterMap fun e=>if e.k=1 then some e.n else none
structure Told'(l m:List Ev):Prop where
 len:m.length=l.length
 at_:∀(i:Nat) e,l[i]?=some e->∃z,m[i]?=some (e.tell z)/\(e.k≠1->z=e.n)/\(I32 e.n->I32 z)
theorem tell_self(e:Ev):e.tell e.n=e:=rfl
theorem Told'.refl(l:List Ev):Told' l l:=⟨rfl,fun i e h=>⟨e.n,by rw[tell_self];exact h,fun _=>rfl,id⟩⟩
theorem setN_at(m:List Ev)(k:Nat)(z:Int)(i:Nat):(setN m k z)[i]?=if k=i then(m[i]?).map (·.tell z) else m[i]?:=by unfold setN;rw[List.getElem?_modify];split<;>simp
theorem told_mem{l m:List Ev}{k:Nat}{e:Ev}(hk:l[k]?=some e)(hl:e.k=1)(hm:Told' l m)(hn:∀x∈l,I32 x.n):∀m'∈toldP m k e.a,Told' l m':=by
 intro m' hm';have key:∃z,m'=setN m k z/\I32 z:=by
  unfold toldP at hm';rcases List.mem_cons.1 hm' with h|h
  ·exact⟨0,h,i32_zero⟩
  obtain⟨x,hx,rfl⟩:=List.mem_map.1 h;have hx:=(List.mem_filter.1 hx).1;obtain⟨j,hj⟩:=List.getElem?_of_mem hx;have hjl:j<l.length:=by have:=(List.getElem?_eq_some_iff.1 hj).1;have:=hm.len;omega
  obtain⟨z,hz,_,h3⟩:=hm.at_ j l[j] (List.getElem?_eq_getElem hjl);rw[hj] at hz;have hz:=Option.some.inj hz;refine⟨x.n,rfl,?_⟩;rw[hz];exact h3 (hn _ (List.getElem_mem hjl))
 obtain⟨z,rfl,hz⟩:=key;refine⟨by rw[setN_len];exact hm.len,fun i y hy=>?_⟩;rw[setN_at];split
 ·rename_i hki;subst hki;rw[hk] at hy;obtain rfl:=Option.some.inj hy;obtain⟨z',hz',_⟩:=hm.at_ k e hk;exact⟨z,by rw[hz'];rfl,fun h=>absurd hl h,fun _=>hz⟩
 exact hm.at_ i y hy
theorem axAll_told{l:List Ev}(hn:∀x∈l,I32 x.n):∀(k:Nat),∀m∈axAll l k,Told' l m
 |0,m,h=>by
  obtain rfl:m=l:=by simpa[axAll] using h
  exact Told'.refl _
 |k+1,m,h=>by
  unfold axAll at h;split at h
  ·rename_i e he;split at h
   ·rename_i h1;obtain⟨m0,h2,h3⟩:=List.mem_flatMap.1 h;exact told_mem he h1 (axAll_told hn k m0 h2) hn m h3
   exact axAll_told hn k m h
  exact axAll_told hn k m h
theorem toldP_len(m:List Ev)(k:Nat)(a:Int):(toldP m k a).length<=m.length+1:=by unfold toldP;have:=List.length_filter_le (Ev.storesTo a) m;simp;omega
theorem flatMap_len{α β:Type}(f:α->List β)(c:Nat):∀L:List α,(∀x∈L,(f x).length<=c)->(L.flatMap f).length<=L.length*c
 |[],_=>by simp
 |x::L,h=>by have h1:=flatMap_len f c L (fun y hy=>h y (List.mem_cons_of_mem _ hy));have h2:=h x List.mem_cons_self;rw[List.flatMap_cons,List.length_append,List.length_cons,Nat.succ_mul];omega
theorem axAll_len{l:List Ev}(hn:∀x∈l,I32 x.n)(hl:l.length<=6):∀k:Nat,(axAll l k).length<=7^k
 |0=>by simp[axAll]
 |k+1=>by
  have ih:=axAll_len hn hl k;unfold axAll;split
  ·split
   ·refine Nat.le_trans (flatMap_len _ 7 _ fun m hm=>?_) (by rw[Nat.pow_succ];exact Nat.mul_le_mul_right _ ih);exact Nat.le_trans (toldP_len _ _ _) (by rw[(axAll_told hn k m hm).len];omega)
   exact Nat.le_trans ih (Nat.pow_le_pow_right (by omega) (by omega))
  exact Nat.le_trans ih (Nat.pow_le_pow_right (by omega) (by omega))
theorem told_ok{l m:List Ev}(h:Told' l m)(hok:∀e∈l,e.Ok):∀e∈m,e.Ok:=by
 intro e he;obtain⟨i,hi⟩:=List.getElem?_of_mem he;have hil:i<l.length:=by have:=(List.getElem?_eq_some_iff.1 hi).1;have:=h.len;omega
 have hx:=hok l[i] (List.getElem_mem hil);obtain⟨z,hz,h1,h2⟩:=h.at_ i l[i] (List.getElem?_eq_getElem hil);rw[hi] at hz;obtain rfl:=Option.some.inj hz;exact⟨hx.h,hx.k,hx.a,h2 hx.n,fun h3=>by have h3:l[i].k=3:=h3;have:=hx.f h3;exact⟨this.1,by show z=0;rw[h1 (by omega)];exact this.2⟩⟩
end Go.Proofs.YtnigadeohmlpiaaGreatDoor
