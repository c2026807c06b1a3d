/- Contracts and words: one more way in which a load may be told; the ways in which a load may be told; rows of numbers are compared. No condition of ours. -/
import Derived.Test.YtnigadeohmlpiaaGreatDoorC14
set_option maxHeartbeats 32000000
set_option maxRecDepth 100000
namespace Go.Proofs.YtnigadeohmlpiaaGreatDoor
open Go.RowKit
attribute [local go_sem] Oper.semAt_some
theorem evs_info:(Tryz.prog.info? 22).map (fun i=>(i.zero,i.size,i.bytes))=some (some (.slice none 0 0),1,24):=by kernel_rfl
def Ev.tell(e:Ev)(z:Int):Ev:=⟨e.h,e.k,e.a,z⟩
def setN(l:List Ev)(i:Nat)(z:Int):List Ev:=l.modify i (·.tell z)
theorem setN_len(l:List Ev)(i:Nat)(z:Int):(setN l i z).length=l.length:=by simp[setN]
theorem setN_cells(l:List Ev)(i:Nat)(z:Int)(hi:i<l.length):evCells (setN l i z)=(evCells l).set (i*4+3) (.int .i64 z):=by
 induction l generalizing i with
 |nil=>cases hi
 |cons e l ih=>
  cases i with
  |zero=>rfl
  |succ i=>
   have h:=ih i (by simpa using hi);have e1:setN (e::l) (i+1) z=e::setN l i z:=by simp[setN]
   have e2:∀l',evCells (e::l')=[.int .i64 e.h,.int .i64 e.k,.int .i64 e.a,.int .i64 e.n]++evCells l':=fun _=>rfl;rw[e1,e2,e2,h];have e3:(i+1)*4+3=(i*4+3)+4:=by omega
   rw[e3];rfl
def LL(w:World)(base:Nat)(n:Nat)(v:Value)(L:List (List Ev)):Prop:=
 ∃cs,w.ownsRow base 22 1 v L.length cs/\∀(k:Nat) l,L[k]?=some l->∃A c,cs[k]?=some (.slice A n c)/\IsEvs w A n c l
theorem IsEvs.tk{T:List TypeId}{w w':World}{A:Option Addr}{n c:Nat}{l:List Ev}(h:IsEvs w A n c l)(hk:Tk T w w')(h1:∀t∈T,t∈evOut):IsEvs w' A n c l:=⟨h.len,h.cap,h.row.tk hk h1⟩
theorem LL.nil(w:World)(base n:Nat):LL w base n (.slice none 0 0) []:=⟨[],⟨rfl,.inl ⟨rfl,rfl⟩⟩,fun k l h=>by cases h⟩
theorem LL.tk{T:List TypeId}{w w':World}{base n:Nat}{v:Value}{L:List (List Ev)}(h:LL w base n v L)(hk:Tk T w w')(h1:∀t∈T,t∈evOut)(h2:22∉T):LL w' base n v L:=by obtain⟨cs,h3,h4⟩:=h;exact⟨cs,own_tk h3 hk h2,fun k l hl=>by obtain⟨A,c,h5,h6⟩:=h4 k l hl;exact⟨A,c,h5,h6.tk hk h1⟩⟩
theorem LL.low{w:World}{base base' n:Nat}{v:Value}{L:List (List Ev)}(h:LL w base n v L)(hb:base'<=base):LL w base' n v L:=by obtain⟨cs,h3,h4⟩:=h;exact⟨cs,own_low h3 hb,h4⟩
theorem LL.snoc{w w':World}{base n:Nat}{v v':Value}{L:List (List Ev)}{l:List Ev}{cs:List Value}{A:Option Addr}{c:Nat}(hown:w.ownsRow base 22 1 v L.length cs)(hL:∀(k:Nat) l,L[k]?=some l->∃A c,cs[k]?=some (.slice A n c)/\IsEvs w A n c l)
  (ho:w'.ownsRow base 22 1 v' (L.length+1) (cs++[.slice A n c])) (he:IsEvs w A n c l) (hk:Tk [22] w w'):LL w' base n v' (L++[l]):=by
 have hlen:cs.length=L.length:=by rw[hown.1];omega
 refine⟨cs++[.slice A n c],by rw[List.length_append];exact ho,fun k l' hl=>?_⟩;rcases Nat.lt_or_ge k L.length with h1|h1
 ·rw[List.getElem?_append_left h1] at hl;obtain⟨A',c',h5,h6⟩:=hL k l' hl;exact⟨A',c',by rw[List.getElem?_append_left (by omega)];exact h5,h6.tk hk (by decide)⟩
 rw[List.getElem?_append_right h1] at hl;have h0:k-L.length=0:=by have:=(List.getElem?_eq_some_iff.1 hl).1;simp at this;omega
 rw[h0] at hl;obtain rfl:l=l':=by simpa using hl
 exact⟨A,c,by rw[List.getElem?_append_right (by omega),hlen,h0];rfl,he.tk hk (by decide)⟩
theorem tk_own_set{w:World}{b:Nat}{e:TypeId}{size n c g i:Nat}{x:Value}{xs:List Value}(h:w.ownsRow b e size (.slice (some ⟨g,0,none⟩) n c) n xs):Tk [e] w (w.setCell ⟨g,i,none⟩ x):=by
 rcases h.2 with⟨h3,h4⟩|⟨k,cap,cur,h3,_,h5,_⟩
 ·cases h3
 injection h3 with h3 _ _
 simp only[Option.some.injEq,Addr.mk.injEq,and_true] at h3;subst h3;exact tk_set1 h5
theorem evCells_one(l:List Ev):∀u∈evCells l,u.oneCell'=true:=by intro u hu;obtain⟨e,_,h⟩:=List.mem_flatMap.1 hu;simp at h;rcases h with rfl|rfl|rfl|rfl<;>rfl
theorem told1_any(b2 b3 b4 i n c base:Nat)(A:Option Addr)(l:List Ev)(z:Int)(v:Value)(L:List (List Ev))(w:World)(hn:n<=1000)(hi:i<n)(hLn:L.length<=100000000)(he:IsEvs w A n c l)
  (h2:w.heap[b2]?=some (.cells #[.slice A n c] 22)) (h3:w.heap[b3]?=some (.cells #[.int .i64 i] 3)) (h4:w.heap[b4]?=some (.cells #[v] 30)) (hl:LL w base n v L) (hb:base<=w.heap.size):
  Calls Tryz.prog 71 #[.int .i64 z,.pointer (some ⟨b2,0,none⟩),.pointer (some ⟨b3,0,none⟩),.pointer (some ⟨b4,0,none⟩)] w fun o w'=>
   o=.returned (.tuple #[])/\∃Wm v',w.grownBy Wm v.ownBlock/\Tk [22] w Wm/\w'=Wm.setCell ⟨b4,0,none⟩ v'/\LL Wm base n v' (L++[setN l i z]):=by
 obtain⟨cs,hown,hLL⟩:=hl;obtain⟨AL,cL,rfl,hcL,_⟩:=own_slice hown;have HC:=Jh (clone72_any A n c (evCells l) w he.row.rd (evCells_one l) (by omega));obtain⟨r2,_⟩:=cell1 h2;have HE:=Jh he;have H2:=Jh h2;have H3:=Jh h3;have H4:=Jh h4;have HO:=Jh hown;have HLL:=Jh hLL;have HBs:=Jh hb;clear he h2 h3 h4 hown hLL hb;go_enter Tryz.func71,Tryz.ntmps71;go_wp2_with fail;refine HC.o.mono ?_
 rintro o w2 ⟨⟨A',c',rfl,hown2,hc'⟩,hb2⟩;obtain⟨g,_,hg,hg1,hg2⟩:=own_form hown2 (by omega);injection hg with hg _ hgc
 clear hgc;subst hg;obtain⟨hst,hgs⟩:=hown2.stored (i*4+3) (.int .i64 z);have HSt:=Jh hst;have HGs:=Jh hgs;have HT2:=Jh (tk_own_set (i:=i*4+3) (x:=.int .i64 z) hown2);have hcell:=hown2.cellAt (i*4+3) (by omega);have hfz:=hown2.frozenAt (i*4+3);obtain⟨ud,hud⟩:∃u,(evCells l)[i*4+3]?=some u:=⟨_,List.getElem?_eq_getElem (by rw[hown2.1];omega)⟩;rw[hud] at hcell;have HB2:=Jh hb2
 have hi0:decide ((i:Int)<0)=false:=by simp
 have hin:(i:Int)<(n:Int):=by omega
 obtain⟨r3,_⟩:=cell1 (blk_below hb2 H3.o);have HG1:=Jh hg1;clear hst hgs hud hb2 hown2 r2 hg1 hg2;go_upto_region 2 with fail
 obtain⟨W3,hW3⟩:=exE (w2.setCell ⟨g,i*4+3,none⟩ (.int .i64 z));rw[<-hW3];have k3:Below w.heap.size w W3:=hW3▸bS HB2.o HG1.o;have HK3:=Jh k3;have HS3:=Jh (show W3.ownsRow _ 44 4 (.slice (some ⟨g,0,none⟩) n c') n (evCells (setN l i z)) by rw[hW3,setN_cells l i z (by have:=HE.o.len;omega)];exact HSt.o);have H43:=Jh (blk_below k3 H4.o);clear hW3 k3 hcell hfz r3;obtain⟨r4,r5⟩:=cell1 H43.o
 obtain⟨W4,hW4⟩:=exE (W3.alloc (.cells #[.slice (some ⟨g,0,none⟩) n c'] 22));obtain⟨bn,hbn⟩:=exE (W3.heap.size);have k4:Below W3.heap.size W3 W4:=hW4▸bA (bR W3);have HK4:=Jh (bT HK3.o k4);have HNw:=Jh (show W4.heap[bn]?=some (.cells #[.slice (some ⟨g,0,none⟩) n c'] 22) by rw[hW4,hbn];exact heap_alloc_new W3 _);have HO4:=Jh (own_tk (T:=[]) HO.o (Tk.below HK4.o) (by simp))
 have HE4:=Jh (show IsEvs W4 (some ⟨g,0,none⟩) n c' (setN l i z) from⟨by rw[setN_len];exact HE.o.len,hc',44,by decide,Row.of_own (own_tk (T:=[]) HS3.o (Tk.below k4) (by simp))⟩);have hr4:=(cell1 (blk_below k4 H43.o)).2;obtain⟨i0,hi1,hz0,hz1,hz2⟩:=info_parts evs_info;have HB4:=Jh (Nat.le_trans HBs.o HK4.o.size);have H44:=Jh (blk_below k4 H43.o);clear k4;subst hbn;subst hW4
 go_wp2_with (at_builtin;refine wpList_append_rd _ rfl (.tmp 13) (.tmp 15) 30 rfl base 22 i0 _ 1 24 Tryz.underlying30 hi1 hz0 hz1 hz2 rfl (by decide) (.slice AL L.length cL) L.length cs rfl HO4.o (some ⟨W3.heap.size,0,none⟩) 1 1 [.slice (some ⟨g,0,none⟩) n c'] rfl ⟨rfl,fun _=>⟨W3.heap.size,0,rfl,blk_lt HNw.o,fun j u hu=>one_cell HNw.o hu⟩⟩ (by simp[Value.oneCell']) (by unfold maxLen;omega) (by omega) HB4.o ?_;intro v' w3 hown' hgrow;obtain⟨A3,c3,rfl,hc3,_⟩:=own_slice hown';have hk22:=tk_grown HO4.o hgrow;obtain⟨s4,s5⟩:=cell1 (hk22.at_ (by decide) H44.o))
 go_end0;refine⟨rfl,w3,.slice A3 (L.length+1) c3,(grown_below HK4.o _).trans hgrow,tk_trans (Tk.below HK4.o) hk22,rfl,?_⟩;refine LL.snoc HO4.o (fun k l' hl'=>?_) hown' HE4.o hk22;obtain⟨A5,c5,h5,h6⟩:=HLL.o k l' hl';exact⟨A5,c5,h5,h6.sees (Below.sees HK4.o)⟩
end Go.Proofs.YtnigadeohmlpiaaGreatDoor
namespace Go.Proofs.YtnigadeohmlpiaaGreatDoor
open Go.RowKit
attribute [local go_sem] Oper.semAt_some
def Ev.storesTo(a:Int)(e:Ev):Bool:=(e.k==2)&&(e.a==a)
def toldP(l:List Ev)(i:Nat)(a:Int):List (List Ev):=setN l i 0::((l.filter (Ev.storesTo a)).map fun e=>setN l i e.n)
theorem own_block_ge{w:World}{base:Nat}{e:TypeId}{size n b:Nat}{v:Value}{xs:List Value}(h:w.ownsRow base e size v n xs)(hb:v.ownBlock=some b):base<=b:=by
 rcases h.2 with⟨rfl,_⟩|⟨g,cap,cur,rfl,hg,_⟩
 ·cases hb
 injection hb with hb
 exact hb▸hg
theorem grown_low{w w':World}{base k:Nat}{e:TypeId}{size n:Nat}{v:Value}{xs:List Value}{o:Obj}(h:w.ownsRow base e size v n xs)(hg:w.grownBy w' v.ownBlock)(hk:w.heap[k]?=some o)(hlt:k<base):w'.heap[k]?=some o:=
 (hg.block k (blk_lt hk) (fun e1=>by have:=own_block_ge h e1.symm;omega)).trans hk
theorem ret30{fn:Func}{tmps:Array Value}{w:World}{b n c:Nat}{A:Option Addr}(hfn:fn.results=#[.cell 4 30])(hp:tmps.getD 4 undef=.pointer (some ⟨b,0,none⟩))(h:w.heap[b]?=some (.cells #[.slice A n c] 30)):
  (results fn tmps).run Tryz.prog w=.ok (.slice A n c) w:=by
 rw[results_cell1 hfn,hp];obtain⟨h0,_⟩:=cell1 h;simp[go_sem,h0]
structure TStand(w0:World)(b2 b3 b4 n c i:Nat)(A:Option Addr)(v:Value)(L:List (List Ev))(w:World):Prop where
 h2:w.heap[b2]?=some (.cells #[.slice A n c] 22)
 h3:w.heap[b3]?=some (.cells #[.int .i64 i] 3)
 h4:w.heap[b4]?=some (.cells #[v] 30)
 ll:LL w (b4+1) n v L
 bl:Below w0.heap.size w0 w
theorem TStand.below{w0 w w':World}{b2 b3 b4 n c i:Nat}{A:Option Addr}{v:Value}{L:List (List Ev)}(h:TStand w0 b2 b3 b4 n c i A v L w)(hb:Below w.heap.size w w'):TStand w0 b2 b3 b4 n c i A v L w':=
 ⟨blk_below hb h.h2,blk_below hb h.h3,blk_below hb h.h4,h.ll.tk (T:=[]) (Tk.below hb) (by simp) (by simp),bT h.bl hb⟩
theorem TStand.step{w0 w w' Wm:World}{b2 b3 b4 n c i:Nat}{A:Option Addr}{v v':Value}{L L':List (List Ev)}(h:TStand w0 b2 b3 b4 n c i A v L w)(h0:w0.heap.size<=b4)(h23:b2<b4/\b3<b4)
  (hg:w.grownBy Wm v.ownBlock) (e:w'=Wm.setCell ⟨b4,0,none⟩ v') (hl:LL Wm (b4+1) n v' L'):TStand w0 b2 b3 b4 n c i A v' L' w':=by
 subst e;obtain⟨cs,hown,_⟩:=id h.ll;have h2:=grown_low hown hg h.h2 (by omega);have h3:=grown_low hown hg h.h3 (by omega);have h4:=grown_low hown hg h.h4 (by omega)
 exact⟨(set_other _ (by omega)).trans h2,(set_other _ (by omega)).trans h3,set_same h4 v',hl.tk (tk_set1 h4) (by decide) (by decide),bS (h.bl.grown hg h.bl.size (fun r e=>by have:=own_block_ge hown e;omega)) (by show w0.heap.size<=b4;omega)⟩
theorem LL.slice{w:World}{base n:Nat}{v:Value}{L:List (List Ev)}(h:LL w base n v L):∃A c,v=.slice A L.length c:=by obtain⟨cs,h1,_⟩:=h;obtain⟨A,c,e,_⟩:=own_slice h1;exact⟨A,c,e⟩
def toldK(l:List Ev)(i:Nat)(a:Int)(k:Nat):List (List Ev):=setN l i 0::(((l.take k).filter (Ev.storesTo a)).map fun e=>setN l i e.n)
theorem toldK_yes{l:List Ev}{i k:Nat}{a:Int}{e:Ev}(he:l[k]?=some e)(h:e.storesTo a=true):toldK l i a (k+1)=toldK l i a k++[setN l i e.n]:=by unfold toldK;rw[List.take_add_one,he,List.filter_append];simp[h]
theorem toldK_no{l:List Ev}{i k:Nat}{a:Int}{e:Ev}(he:l[k]?=some e)(h:e.storesTo a=false):toldK l i a (k+1)=toldK l i a k:=by unfold toldK;rw[List.take_add_one,he,List.filter_append];simp[h]
theorem toldK_len(l:List Ev)(i k:Nat)(a:Int):(toldK l i a k).length<=k+1:=by unfold toldK;have h1:=List.length_filter_le (Ev.storesTo a) (l.take k);have h2:(l.take k).length<=k:=List.length_take_le k l;simp;omega
theorem told_any(A:Option Addr)(n c i:Nat)(l:List Ev)(x:Ev)(w:World)(hn:n<=1000)(he:IsEvs w A n c l)(hx:l[i]?=some x):
  Calls Tryz.prog 44 #[.slice A n c,.int .i64 i] w fun o w'=>(∃v,o=.returned v/\LL w' w.heap.size n v (toldP l i x.a))/\Below w.heap.size w w':=by
 have hin:i<n:=by have:=(List.getElem?_eq_some_iff.1 hx).1;have:=he.len;omega
 obtain⟨b2,hb2⟩:=exE (w.heap.size);obtain⟨b3,hb3⟩:=exE (b2+1);obtain⟨b4,hb4⟩:=exE (b3+1);obtain⟨W1,hW1⟩:=exE (w.alloc (.cells #[.slice A n c] 22));obtain⟨W2,hW2⟩:=exE (W1.alloc (.cells #[.int .i64 i] 3));obtain⟨W,hW⟩:=exE (W2.alloc (.cells #[.slice none 0 0] 30));have s1:W1.heap.size=b2+1:=by rw[hW1,World.size_alloc,hb2]
 have s2:W2.heap.size=b2+1+1:=by rw[hW2,World.size_alloc,s1]
 have s3:W.heap.size=b4+1:=by rw[hW,World.size_alloc,s2];omega
 have k2:Below W2.heap.size W2 W:=hW▸bA (bR W2);have k1:Below W1.heap.size W1 W:=bT (hW2▸bA (bR W1)) k2;have kW:Below w.heap.size w W:=bT (hW1▸bA (bR w)) k1;have HB:=Jh kW;have h2:W.heap[b2]?=some (.cells #[.slice A n c] 22):=blk_below k1 (by rw[hW1,hb2];exact heap_alloc_new w _);have h3:W.heap[b3]?=some (.cells #[.int .i64 i] 3):=blk_below k2 (by rw[hW2,hb3,<-s1];exact heap_alloc_new W1 _)
 have h4:W.heap[b4]?=some (.cells #[.slice none 0 0] 30):=by rw[hW,hb4,hb3,<-s2];exact heap_alloc_new W2 _
 have hWW:W=((w.alloc (.cells #[.slice A n c] 22)).alloc (.cells #[.int .i64 i] 3)).alloc (.cells #[.slice none 0 0] 30):=by rw[hW,hW2,hW1]
 have HE:=Jh he;have HX:=Jh hx;have H1:=Jh (told1_any b2 b3 b4 i n c (b4+1) A l 0 (.slice none 0 0) [] W hn hin (by decide) (he.sees (Below.sees kW)) h2 h3 h4 (LL.nil W _ n) (by omega));have H2:=Jh h2;have H3:=Jh h3;have H4:=Jh h4
 have HT1:=Jh (fun(v:Value) (L:List (List Ev)) (z:Int) (wx:World) (h:TStand w b2 b3 b4 n c i A v L wx) (hL:L.length<=100000000)=>told1_any b2 b3 b4 i n c (b4+1) A l z v L wx hn hin hL (he.sees (Below.sees h.bl)) h.h2 h.h3 h.h4 h.ll (blk_lt h.h4));have HL:=Jh (show w.heap.size<=b4/\b2<b4/\b3<b4/\W.heap.size=b4+1 by omega)
 have hmf:∀(fn:Fn) (first cap:Array Value) (w:World),(Instr.makeFunc fn first cap).run Tryz.prog w=.ok (.func fn first cap) w:=fun _ _ _ _=>rfl
 clear he hx h2 h3 h4 hW1 hW2 hW s1 s2 s3 k1 k2 kW;go_enter Tryz.func44,Tryz.ntmps44;go_wp2_with fail;rw[<-hb2,<-hb3,<-hb4,<-hWW];clear hb2 hb3 hb4 hWW hmf;refine H1.o.mono ?_;rintro o w3 ⟨rfl,Wm,v1,hg,htk,rfl,hll⟩;have HT:=Jh ((show TStand w b2 b3 b4 n c i A (.slice none 0 0) [] W from⟨H2.o,H3.o,H4.o,LL.nil _ _ _,HB.o⟩).step HL.o.1 ⟨HL.o.2.1,HL.o.2.2.1⟩ hg rfl hll)
 obtain⟨W4,hW4⟩:=exE (Wm.setCell ⟨b4,0,none⟩ v1);rw[<-hW4] at HT⊢;clear hg htk hll hW4;obtain⟨r2,_⟩:=cell1 HT.o.h2;go_wp2_with fail;go_loopw [13] (fun vi wr=>∃(k:Nat) (v:Value),k<=n/\vi=.int .i64 k/\TStand w b2 b3 b4 n c i A v (toldK l i x.a k) wr) (fun vi _=>n-(intOf vi).toNat);case atStart=>exact⟨0,v1,Nat.zero_le _,rfl,HT.o⟩
 case round=>
  obtain⟨k,v,hk,rfl,hst⟩:=hrel;have HS:=Jh hst;clear hst r2;by_cases hlt:k<n
  ·have hlb:decide ((k:Int)<(n:Int))=true:=by simp;omega
   have hkn:(k:Int)<(n:Int):=by omega
   have hinn:(i:Int)<(n:Int):=by omega
   have hi0:decide ((i:Int)<0)=false:=by simp
   obtain⟨ge,oe,e,hA,hek,hc0,hc1,hc2,hc3⟩:=(HE.o.sees (Below.sees HS.o.bl)).at_ hlt;subst hA;obtain⟨W5,hW5⟩:=exE (wr.alloc (.cells #[.int .i64 e.h,.int .i64 e.k,.int .i64 e.a,.int .i64 e.n] 44));obtain⟨b7,hb7⟩:=exE (wr.heap.size);have k5:Below wr.heap.size wr W5:=hW5▸bA (bR wr)
   have H75:=Jh (show W5.heap[b7]?=some (.cells #[.int .i64 e.h,.int .i64 e.k,.int .i64 e.a,.int .i64 e.n] 44) by rw[hW5,hb7];exact heap_alloc_new wr _);have HS5:=Jh (HS.o.below k5);obtain⟨ge',oe',x',hA',hxj,hd0,hd1,hd2,hd3⟩:=(HE.o.sees (Below.sees HS5.o.bl)).at_ hin;obtain rfl:x'=x:=Option.some.inj (hxj.symm.trans HX.o);simp only[Option.some.injEq,Addr.mk.injEq,and_true] at hA';obtain⟨rfl,rfl⟩:=hA'
   have HEk:=Jh hek;have HSt:=Jh (show e.storesTo x'.a=((e.k==2)&&(e.a==x'.a)) from rfl);obtain⟨r2,_⟩:=cell1 HS5.o.h2;obtain⟨r3,_⟩:=cell1 HS5.o.h3;obtain⟨q0,q1,q2,q3,_⟩:=cells4 H75.o;have HLn:=Jh (toldK_len l i k x'.a);obtain⟨xa,hxa⟩:=exE (x'.a);obtain⟨ek,hek2⟩:=exE (e.k);obtain⟨ea,hea⟩:=exE (e.a);rw[<-hxa] at hd2 HSt HLn HS HS5;rw[<-hek2] at q1 HSt;rw[<-hea] at q2 HSt;go_upto_region 6 with fail
   rw[<-hW5,<-hb7];clear hW5 hb7 hek hxj hc0 hc1 hc2 hc3 hd0 hd1 hd3 k5 hek2 hea;have HXa:=Jh hxa;by_cases h2:ek=2
   ·have h2b:(ek==2)=true:=by simpa using h2
    by_cases h3:ea=xa
    ·have h3b:(ea==xa)=true:=by simpa using h3
     have HSf:=Jh (show e.storesTo xa=true by rw[HSt.o,h2b,h3b];rfl);clear h2 h3;have HNx:=Jh (show toldK l i xa (k+1)=toldK l i xa k++[setN l i e.n] from toldK_yes HEk.o HSf.o);go_quiet (fail)
     obtain⟨WA,hWA⟩:=exE (W5.drewN nq);have kA:Below W5.heap.size W5 WA:=hWA▸bN (bR W5);rw[<-hWA];have HSA:=Jh (HS5.o.below kA);have HCl:=Jh (HT1.o v (toldK l i xa k) e.n WA HSA.o (by have:=HLn.o;omega));obtain⟨q0,q1,q2,q3,_⟩:=cells4 (blk_below kA H75.o);clear hWA kA r2 r3;go_wp2_with fail;refine HCl.o.mono ?_;rintro o w6 ⟨rfl,Wn,v2,hg2,_,he2,hll2⟩
     have HS6:=Jh (HSA.o.step HL.o.1 ⟨HL.o.2.1,HL.o.2.2.1⟩ hg2 he2 hll2);clear hg2 hll2 he2;go_wp2_with fail;go_roundw;case rel=>exact⟨k+1,v2,by omega,by go_num,by rw[<-hxa,HNx.o];exact HS6.o⟩
     case measure=>simp[intOf];omega
    have h3b:(ea==xa)=false:=by simpa using h3
    have HSf:=Jh (show e.storesTo xa=false by rw[HSt.o,h2b,h3b];rfl);clear h2 h3;have HNx:=Jh (show toldK l i xa (k+1)=toldK l i xa k from toldK_no HEk.o HSf.o);go_quiet (fail)
    obtain⟨WA,hWA⟩:=exE (W5.drewN nq);have kA:Below W5.heap.size W5 WA:=hWA▸bN (bR W5);rw[<-hWA];have HSA:=Jh (HS5.o.below kA);clear hWA kA;go_wp2_with fail;go_roundw;case rel=>exact⟨k+1,v,by omega,by go_num,by rw[<-hxa,HNx.o];exact HSA.o⟩
    case measure=>simp[intOf];omega
   have h2b:(ek==2)=false:=by simpa using h2
   have HSf:=Jh (show e.storesTo xa=false by rw[HSt.o,h2b];rfl);clear h2;have HNx:=Jh (show toldK l i xa (k+1)=toldK l i xa k from toldK_no HEk.o HSf.o);go_quiet (fail)
   obtain⟨WA,hWA⟩:=exE (W5.drewN nq);have kA:Below W5.heap.size W5 WA:=hWA▸bN (bR W5);rw[<-hWA];have HSA:=Jh (HS5.o.below kA);clear hWA kA;go_wp2_with fail;go_roundw;case rel=>exact⟨k+1,v,by omega,by go_num,by rw[<-hxa,HNx.o];exact HSA.o⟩
   case measure=>simp[intOf];omega
  have hlb:decide ((k:Int)<(n:Int))=false:=by simp;omega
  obtain rfl:k=n:=by omega
  have HF:=Jh (show toldK l i x.a k=toldP l i x.a by unfold toldK toldP;rw[List.take_of_length_le (by have:=HE.o.len;omega)]);obtain⟨AL,cL,rfl⟩:=HS.o.ll.slice;go_wp2_with fail;refine bodyPost_ret (ret30 rfl rfl HS.o.h4) rfl ⟨⟨_,rfl,?_⟩,HS.o.bl⟩;rw[<-HF.o];exact HS.o.ll.low (by have:=HL.o;omega)
end Go.Proofs.YtnigadeohmlpiaaGreatDoor
namespace Go.Proofs.YtnigadeohmlpiaaGreatDoor
open Go.RowKit
attribute [local go_sem] Oper.semAt_some
theorem isNaN_any(x:Int)(w:World):Calls Tryz.prog 125 #[.int .i64 x] w fun o w'=>o=.returned (.bool false)/\w=w':=by
 have hx:(x !=x)=false:=by simp
 go_enter Tryz.func125,Tryz.ntmps125;go_wp2_with fail;go_ret;exact⟨rfl,rfl⟩
def cmpZ(x y:Int):Int:=if x<y then-1 else if y<x then 1 else 0
theorem cmpZ_any(x y:Int)(w:World):Calls Tryz.prog 99 #[.int .i64 x,.int .i64 y] w fun o w'=>o=.returned (.int .i64 (cmpZ x y))/\w=w':=by
 have H1:=Jh (isNaN_any x w);have H2:=Jh (isNaN_any y w);by_cases h:x<y
 ·have hb:decide (x<y)=true:=by simpa using h
  have hc:cmpZ x y=-1:=by simp[cmpZ,h]
  rw[hc];clear h hc;go_enter Tryz.func99,Tryz.ntmps99;go_wp2_with fail;refine H1.o.mono ?_;rintro o w2 ⟨rfl,rfl⟩;go_wp2_with fail;refine H2.o.mono ?_;rintro o w2 ⟨rfl,rfl⟩;go_wp2_with fail;go_ret;exact⟨rfl,rfl⟩
 have hb:decide (x<y)=false:=by simpa using h
 by_cases h':y<x
 ·have hb':decide (y<x)=true:=by simpa using h'
  have hc:cmpZ x y=1:=by simp[cmpZ,h,h']
  rw[hc];clear h h' hc;go_enter Tryz.func99,Tryz.ntmps99;go_wp2_with fail;refine H1.o.mono ?_;rintro o w2 ⟨rfl,rfl⟩;go_wp2_with fail;refine H2.o.mono ?_;rintro o w2 ⟨rfl,rfl⟩;go_wp2_with fail;go_ret;exact⟨rfl,rfl⟩
 have hb':decide (y<x)=false:=by simpa using h'
 have hc:cmpZ x y=0:=by simp[cmpZ,h,h']
 rw[hc];clear h h' hc;go_enter Tryz.func99,Tryz.ntmps99;go_wp2_with fail;refine H1.o.mono ?_;rintro o w2 ⟨rfl,rfl⟩;go_wp2_with fail;refine H2.o.mono ?_;rintro o w2 ⟨rfl,rfl⟩;go_wp2_with fail;go_ret;exact⟨rfl,rfl⟩
def cmpL:List Int->List Int->Int
 |[],[]=>0
 |[],_::_=>-1
 |_::_,[]=>1
 |x::xs,y::ys=>if x=y then cmpL xs ys else cmpZ x y
theorem cmpZ_zero{x y:Int}:cmpZ x y=0↔x=y:=by
 unfold cmpZ;split
 ·constructor<;>intro h<;>omega
 split<;>constructor<;>intro h<;>omega
theorem Rd.int{w:World}{A:Option Addr}{n k:Nat}{xs:List Int}(h:Rd w 1 A n (ints xs))(hk:k<n):∃b off x,A=some ⟨b,off,none⟩/\xs[k]?=some x/\w.cell? ⟨b,off+k,none⟩=some (.int .i64 x):=by
 obtain⟨b,off,u,hA,hu,hc⟩:=h.at1 hk;obtain⟨x,hx,rfl⟩:∃x,xs[k]?=some x/\Value.int .i64 x=u:=by simpa[ints,List.getElem?_map] using hu
 exact⟨b,off,x,hA,hx,hc⟩
theorem cmpL_skip{xs ys:List Int}:∀{k:Nat},(∀j,j<k->xs[j]?=ys[j]?)->k<=xs.length->k<=ys.length->cmpL xs ys=cmpL (xs.drop k) (ys.drop k)
 |0,_,_,_=>rfl
 |k+1,h,hx,hy=>by
  cases xs with
  |nil=>cases hx
  |cons x xs=>
   cases ys with
   |nil=>cases hy
   |cons y ys=>have h0:=h 0 (Nat.zero_lt_succ _);simp at h0;subst h0;have:=cmpL_skip (xs:=xs) (ys:=ys) (k:=k) (fun j hj=>by simpa using h (j+1) (by omega)) (by simpa using hx) (by simpa using hy);simpa[cmpL] using this
theorem cmpL_at{xs ys:List Int}{k:Nat}{x y:Int}(h:∀j,j<k->xs[j]?=ys[j]?)(hx:xs[k]?=some x)(hy:ys[k]?=some y)(hne:x≠y):cmpL xs ys=cmpZ x y:=by
 have h1:=(List.getElem?_eq_some_iff.1 hx).1;have h2:=(List.getElem?_eq_some_iff.1 hy).1;rw[cmpL_skip h (by omega) (by omega),List.drop_eq_getElem_cons h1,List.drop_eq_getElem_cons h2];have e1:xs[k]=x:=by rw[List.getElem?_eq_getElem h1] at hx;simpa using hx
 have e2:ys[k]=y:=by rw[List.getElem?_eq_getElem h2] at hy;simpa using hy
 rw[e1,e2];simp[cmpL,hne]
theorem cmpL_long{xs ys:List Int}{k:Nat}(h:∀j,j<k->xs[j]?=ys[j]?)(hx:k<xs.length)(hy:k=ys.length):cmpL xs ys=1:=by rw[cmpL_skip h (by omega) (by omega),List.drop_eq_getElem_cons hx,show ys.drop k=[] from List.drop_of_length_le (by omega)];rfl
theorem cmpL_short{xs ys:List Int}{k:Nat}(h:∀j,j<k->xs[j]?=ys[j]?)(hx:k=xs.length)(hy:k<ys.length):cmpL xs ys=-1:=by rw[cmpL_skip h (by omega) (by omega),List.drop_eq_getElem_cons hy,show xs.drop k=[] from List.drop_of_length_le (by omega)];rfl
theorem cmpL_same{xs ys:List Int}{k:Nat}(h:∀j,j<k->xs[j]?=ys[j]?)(hx:k=xs.length)(hy:k=ys.length):cmpL xs ys=0:=by rw[cmpL_skip h (by omega) (by omega),show xs.drop k=[] from List.drop_of_length_le (by omega),show ys.drop k=[] from List.drop_of_length_le (by omega)];rfl
theorem compare_any(A B:Option Addr)(n m c d:Nat)(xs ys:List Int)(w:World)(hx:Rd w 1 A n (ints xs))(hy:Rd w 1 B m (ints ys))(hn:n<=1000000):
  Calls Tryz.prog 67 #[.slice A n c,.slice B m d] w fun o w'=>o=.returned (.int .i64 (cmpL xs ys))/\w=w':=by
 have HX:=Jh hx;have HY:=Jh hy;have hxl:xs.length=n:=by have:=hx.1;simp[ints] at this;omega
 have hyl:ys.length=m:=by have:=hy.1;simp[ints] at this;omega
 have HXL:=Jh hxl;have HYL:=Jh hyl;clear hx hy hxl hyl;go_enter Tryz.func67,Tryz.ntmps67;go_wp2_with fail;go_loopw [11] (fun vi wr=>∃k:Nat,k<=n/\k<=m/\vi=.int .i64 k/\(∀j,j<k->xs[j]?=ys[j]?)/\w=wr) (fun vi _=>n-(intOf vi).toNat);case atStart=>exact⟨0,Nat.zero_le _,Nat.zero_le _,rfl,fun j hj=>absurd hj (Nat.not_lt_zero _),rfl⟩
 case round=>
  obtain⟨k,hk,hkm,rfl,hall,rfl⟩:=hrel;have HA:=Jh hall;clear hall;by_cases hlt:k<n
  ·have hlb:decide ((k:Int)<(n:Int))=true:=by simp;omega
   obtain⟨b1,o1,x,rfl,hxk,hc1⟩:=HX.o.int hlt;by_cases hlt2:k<m
   ·have hge:decide ((m:Int)<=(k:Int))=false:=by simp;omega
    obtain⟨b2,o2,y,rfl,hyk,hc2⟩:=HY.o.int hlt2;have HC:=Jh (cmpZ_any x y w);have hkn:(k:Int)<(n:Int):=by omega
    have hkm2:(k:Int)<(m:Int):=by omega
    have hk0:decide ((k:Int)<0)=false:=by simp
    by_cases hxy:x=y
    ·have HN:=Jh (show∀j,j<k+1->xs[j]?=ys[j]?from fun j hj=>by
      rcases Nat.lt_or_ge j k with h1|h1
      ·exact HA.o j h1
      rw[show j=k by omega,hxk,hyk,hxy])
     have hz:cmpZ x y=0:=cmpZ_zero.2 hxy;rw[hz] at HC;clear hxk hyk hxy hz;go_wp2_with fail;refine HC.o.mono ?_;rintro o w2 ⟨rfl,rfl⟩;go_wp2_with fail;go_roundw;case rel=>exact⟨k+1,by omega,by omega,by go_num,HN.o,trivial⟩
     case measure=>simp[intOf];omega
    have HF:=Jh (cmpL_at HA.o hxk hyk hxy);have hz:cmpZ x y≠0:=fun h=>hxy (cmpZ_zero.1 h);obtain⟨z,hz2⟩:=exE (cmpZ x y);rw[<-hz2] at HC HF hz;have hzb:(z !=0)=true:=by simpa using hz
    clear hxk hyk hxy hz hz2;go_wp2_with fail;refine HC.o.mono ?_;rintro o w2 ⟨rfl,rfl⟩;go_wp2_with fail;go_ret;exact⟨ret_int HF.o.symm,rfl⟩
   have hge:decide ((m:Int)<=(k:Int))=true:=by simp;omega
   have HF:=Jh (cmpL_long HA.o (by have:=HXL.o;omega) (by have:=HYL.o;omega));clear hxk;go_wp2_with fail;go_ret;exact⟨ret_int HF.o.symm,rfl⟩
  have hlb:decide ((k:Int)<(n:Int))=false:=by simp;omega
  by_cases hlt2:n<m
  ·have hb2:decide ((n:Int)<(m:Int))=true:=by simp;omega
   have HF:=Jh (cmpL_short HA.o (by have:=HXL.o;omega) (by have:=HYL.o;omega));go_wp2_with fail;go_ret;exact⟨ret_int HF.o.symm,rfl⟩
  have hb2:decide ((n:Int)<(m:Int))=false:=by simp;omega
  have HF:=Jh (cmpL_same HA.o (by have:=HXL.o;omega) (by have:=HYL.o;omega));go_wp2_with fail;go_ret;exact⟨ret_int HF.o.symm,rfl⟩
theorem equal_any(A B:Option Addr)(n m c d:Nat)(xs ys:List Int)(w:World)(hx:Rd w 1 A n (ints xs))(hy:Rd w 1 B m (ints ys))(hn:n<=1000000):
  Calls Tryz.prog 64 #[.slice A n c,.slice B m d] w fun o w'=>o=.returned (.bool (decide (xs=ys)))/\Below w.heap.size w w':=by
 have HX:=Jh hx;have HY:=Jh hy;have hxl:xs.length=n:=by have:=hx.1;simp[ints] at this;omega
 have hyl:ys.length=m:=by have:=hy.1;simp[ints] at this;omega
 have HXL:=Jh hxl;have HYL:=Jh hyl;clear hx hy hxl hyl;by_cases hnm:n=m
 ·subst hnm;have hne:((n:Int)!=(n:Int))=false:=by simp
  go_enter Tryz.func64,Tryz.ntmps64;go_wp2_with fail;go_loopw [13] (fun vi wr=>∃k:Nat,k<=n/\vi=.int .i64 k/\(∀j,j<k->xs[j]?=ys[j]?)/\Below w.heap.size w wr) (fun vi _=>n-(intOf vi).toNat);case atStart=>exact⟨0,Nat.zero_le _,rfl,fun j hj=>absurd hj (Nat.not_lt_zero _),bR w⟩
  case round=>
   obtain⟨k,hk,rfl,hall,hbw⟩:=hrel;have HA:=Jh hall;have HBW:=Jh hbw;clear hall hbw;by_cases hlt:k<n
   ·have hlb:decide ((k:Int)<(n:Int))=true:=by simp;omega
    obtain⟨b1,o1,x,rfl,hxk,hc1⟩:=(HX.o.below HBW.o).int hlt;obtain⟨b2,o2,y,rfl,hyk,hc2⟩:=(HY.o.below HBW.o).int hlt;have hkn:(k:Int)<(n:Int):=by omega
    have hk0:decide ((k:Int)<0)=false:=by simp
    by_cases hxy:x=y
    ·have HN:=Jh (show∀j,j<k+1->xs[j]?=ys[j]?from fun j hj=>by
      rcases Nat.lt_or_ge j k with h1|h1
      ·exact HA.o j h1
      rw[show j=k by omega,hxk,hyk,hxy])
     have hxn:(x !=y)=false:=by simp[hxy]
     clear hxk hyk hxy;go_upto_region 6 with fail
     go_quiet (fail)
     obtain⟨WA,hWA⟩:=exE (wr.drewN nq);have HKA:=Jh (show Below w.heap.size w WA from hWA▸bN HBW.o);rw[<-hWA];clear hWA;go_wp2_with fail;go_roundw;case rel=>exact⟨k+1,by omega,by go_num,HN.o,HKA.o⟩
     case measure=>simp[intOf];omega
    have HF:=Jh (show decide (xs=ys)=false from decide_eq_false (fun e=>hxy (by rw[e,hyk] at hxk;exact(Option.some.inj hxk).symm)));have hxn:(x !=y)=true:=by simpa using hxy
    clear hxk hyk hxy;go_upto_region 6 with fail
    go_quiet (fail)
    go_wp2_with fail;go_ret;exact⟨ret_bool HF.o.symm,bN HBW.o⟩
   have hlb:decide ((k:Int)<(n:Int))=false:=by simp;omega
   have HF:=Jh (show decide (xs=ys)=true from decide_eq_true (List.ext_getElem? fun j=>by
    rcases Nat.lt_or_ge j k with h1|h1
    ·exact HA.o j h1
    rw[List.getElem?_eq_none (by have:=HXL.o;omega),List.getElem?_eq_none (by have:=HYL.o;omega)]))
   go_wp2_with fail;go_ret;exact⟨ret_bool HF.o.symm,HBW.o⟩
 have hne:((n:Int)!=(m:Int))=true:=by simp;omega
 have HF:=Jh (show decide (xs=ys)=false from decide_eq_false (fun e=>hnm (by rw[<-HXL.o,<-HYL.o,e])));clear hnm;go_enter Tryz.func64,Tryz.ntmps64;go_wp2_with fail;go_ret;exact⟨ret_bool HF.o.symm,bR w⟩
theorem same1_any(A B:Option Addr)(n m c d:Nat)(xs ys:List Int)(w:World)(hx:Rd w 1 A n (ints xs))(hy:Rd w 1 B m (ints ys))(hn:n<=1000000):
  Calls Tryz.prog 69 #[.slice A n c,.slice B m d] w fun o w'=>o=.returned (.bool (decide (xs=ys)))/\Below w.heap.size w w':=by
 have HE:=Jh (equal_any A B n m c d xs ys w hx hy hn);obtain⟨q,hq⟩:=exE (decide (xs=ys));rw[<-hq] at HE⊢;clear hx hy hq;go_enter Tryz.func69,Tryz.ntmps69;go_wp2_with fail;refine HE.o.mono ?_;rintro o w2 ⟨rfl,hb⟩;have HB:=Jh hb;clear hb;go_wp2_with fail;go_ret;exact⟨rfl,HB.o⟩
end Go.Proofs.YtnigadeohmlpiaaGreatDoor
