/- Contracts and words: outcomes, and one more in its place; a search state by state, each once, finds what is played. No condition of ours. -/
import Derived.Test.YtnigadeohmlpiaaGreatDoorC43
import Derived.Test.YtnigadeohmlpiaaGreatDoorC27
import Derived.Test.YtnigadeohmlpiaaGreatDoorC44
set_option maxHeartbeats 32000000
set_option maxRecDepth 100000
namespace Go.Proofs.YtnigadeohmlpiaaGreatDoor
open Go.RowKit
attribute [local go_sem] Oper.semAt_some
def putP:List (List Int)->List Int->List (List Int)
 |[],x=>[x]
 |y::L,x=>if cmpR y x<0 then y::putP L x else if cmpR y x=0 then y::L else x::y::L
theorem putP_at{L:List (List Int)}{x:List Int}:∀{k:Nat},(∀j y,j<k->L[j]?=some y->cmpR y x<0)->k<=L.length->putP L x=L.take k++putP (L.drop k) x
 |0,_,_=>rfl
 |k+1,h,hk=>by
  cases L with
  |nil=>simp at hk
  |cons y L=>
   have h0:=h 0 y (by omega) rfl;have ih:=putP_at (L:=L) (x:=x) (k:=k) (fun j z hj hz=>h (j+1) z (by omega) (by simpa using hz)) (by simpa using hk);show(if cmpR y x<0 then y::putP L x else _)=_
   rw[if_pos h0,ih];rfl
theorem putP_end{L:List (List Int)}{x:List Int}(h:∀j y,j<L.length->L[j]?=some y->cmpR y x<0):putP L x=L++[x]:=by rw[putP_at h (Nat.le_refl _),List.take_length,List.drop_length];rfl
theorem putP_is{L:List (List Int)}{x y:List Int}{k:Nat}(h:∀j y,j<k->L[j]?=some y->cmpR y x<0)(hy:L[k]?=some y)(h0:cmpR y x=0):putP L x=L:=by
 obtain⟨hk,rfl⟩:=List.getElem?_eq_some_iff.1 hy;rw[putP_at h (Nat.le_of_lt hk),List.drop_eq_getElem_cons hk];show L.take k++(if cmpR L[k] x<0 then _ else if cmpR L[k] x=0 then L[k]::L.drop (k+1) else _)=L
 rw[if_neg (by omega),if_pos h0,<-List.drop_eq_getElem_cons hk,List.take_append_drop]
theorem putP_new{L:List (List Int)}{x y:List Int}{k:Nat}(h:∀j y,j<k->L[j]?=some y->cmpR y x<0)(hy:L[k]?=some y)(h0:¬cmpR y x<0)(h1:cmpR y x≠0):putP L x=L.take k++x::L.drop k:=by
 obtain⟨hk,rfl⟩:=List.getElem?_eq_some_iff.1 hy;rw[putP_at h (Nat.le_of_lt hk),List.drop_eq_getElem_cons hk];show L.take k++(if cmpR L[k] x<0 then _ else if cmpR L[k] x=0 then _ else x::L[k]::L.drop (k+1))=_
 rw[if_neg h0,if_neg h1]
theorem putP_mem{L:List (List Int)}{x z:List Int}:z∈putP L x↔z=x\/z∈L:=by
 induction L with
 |nil=>simp[putP]
 |cons y L ih=>
  unfold putP;split
  ·rw[List.mem_cons,ih,List.mem_cons];constructor
   ·rintro(h|h|h)
    ·exact .inr (.inl h)
    ·exact .inl h
    exact .inr (.inr h)
   rintro(h|h|h)
   ·exact .inr (.inl h)
   ·exact .inl h
   exact .inr (.inr h)
  split
  ·rename_i h0;rw[cmpR_zero.1 h0];constructor
   ·exact .inr
   rintro(h|h)
   ·rw[h];exact List.mem_cons_self
   exact h
  simp
theorem putP_len(L:List (List Int))(x:List Int):(putP L x).length<=L.length+1:=by
 induction L with
 |nil=>simp[putP]
 |cons y L ih=>
  unfold putP;split
  ·simp only[List.length_cons];omega
  split<;>simp
theorem putP_rising{x:List Int}:∀{L:List (List Int)},Rising L->Rising (putP L x)
 |[],_=>List.pairwise_singleton _ _
 |y::L,h=>by
  obtain⟨h1,h2⟩:=List.pairwise_cons.1 h;unfold putP;split
  ·rename_i h0;refine List.pairwise_cons.2 ⟨fun z hz=>?_,putP_rising h2⟩;rcases putP_mem.1 hz with rfl|hz
   ·exact cmpR_neg.1 h0
   exact h1 z hz
  split
  ·exact h
  rename_i h0 h3;have hxy:cmpL x y<0:=by have h4:=mt cmpR_neg.2 h0;have h5:=cmpL_swap x y;have h6:cmpL y x≠0:=fun e=>h3 (cmpR_zero.2 (cmpL_zero e));omega
  refine List.pairwise_cons.2 ⟨fun z hz=>?_,h⟩;rcases List.mem_cons.1 hz with rfl|hz
  ·exact hxy
  exact cmpL_trans hxy (h1 z hz)
theorem slice32_info:(Tryz.prog.info? 32).map (fun i=>(i.zero,i.size,i.bytes))=some (some (.slice none 0 0),1,24):=by kernel_rfl
theorem cts_one{w:World}{cs:List Value}{L:List (List Int)}(h:Cts w cs L):∀u∈cs,u.oneCell'=true:=by intro u hu;obtain⟨k,hk,rfl⟩:=List.getElem_of_mem hu;obtain⟨B,c,h1,_⟩:=h.2 k _ (List.getElem?_eq_getElem (by rw[<-h.1];exact hk));rw[List.getElem?_eq_getElem hk] at h1;rw[Option.some.inj h1];rfl
theorem cts_append{w:World}{cs ds:List Value}{L K:List (List Int)}(h:Cts w cs L)(g:Cts w ds K):Cts w (cs++ds) (L++K):=by
 refine⟨by rw[List.length_append,List.length_append,h.1,g.1],fun k z hz=>?_⟩;rw[List.getElem?_append] at hz⊢;rw[h.1];split at hz
 ·rename_i hk;obtain⟨B,c,h1,h2⟩:=h.2 k z hz;rw[if_pos hk];exact⟨B,c,h1,h2⟩
 rename_i hk;obtain⟨B,c,h1,h2⟩:=g.2 _ z hz;rw[if_neg hk];exact⟨B,c,h1,h2⟩
theorem cts_take{w:World}{cs:List Value}{L:List (List Int)}(h:Cts w cs L)(k:Nat):Cts w (cs.take k) (L.take k):=by
 refine⟨by rw[List.length_take,List.length_take,h.1],fun j z hz=>?_⟩;rw[List.getElem?_take] at hz⊢;split at hz
 ·rename_i hj;rw[if_pos hj];exact h.2 j z hz
 cases hz
theorem cts_drop{w:World}{cs:List Value}{L:List (List Int)}(h:Cts w cs L)(k:Nat):Cts w (cs.drop k) (L.drop k):=by refine⟨by rw[List.length_drop,List.length_drop,h.1],fun j z hz=>?_⟩;rw[List.getElem?_drop] at hz⊢;exact h.2 _ z hz
theorem cts_single{w:World}{B:Option Addr}{m d:Nat}{x:List Int}(hm:m=x.length)(hd:m<=d)(h:Row w 3 1 B m (ints x)):Cts w [.slice B m d] [x]:=by
 subst hm;refine⟨rfl,fun k z hz=>?_⟩;cases k with
 |zero=>cases hz;exact⟨B,d,rfl,hd,h⟩
 |succ k=>simp at hz
theorem own_rd_take{w:World}{base g n c k:Nat}{e:TypeId}{xs:List Value}(h:w.ownsRow base e 1 (.slice (some ⟨g,0,none⟩) n c) n xs)(hk:k<=n):Rd w 1 (some ⟨g,0,none⟩) k (xs.take k):=by
 have hl:xs.length=n:=by simpa using h.1
 refine⟨by rw[List.length_take];omega,fun hk0=>⟨g,0,rfl,?_,fun j u hu=>?_⟩⟩
 ·obtain⟨_,_,e1,_,h2⟩:=own_form h (by omega);injection e1 with e1
  injection e1 with e1
  injection e1 with e1
  subst e1;exact h2
 rw[List.getElem?_take] at hu;split at hu
 ·rename_i hj;rw[Nat.zero_add];exact(h.cellAt j (by omega)).trans hu
 cases hu
theorem own_rd_drop{w:World}{base g n c k:Nat}{e:TypeId}{xs:List Value}(h:w.ownsRow base e 1 (.slice (some ⟨g,0,none⟩) n c) n xs)(hk:k<=n)(hc:n<=c):Rd w 1 (if c=k then some ⟨g,0,none⟩ else some ⟨g,k,none⟩) (n-k) (xs.drop k):=by
 have hl:xs.length=n:=by simpa using h.1
 refine⟨by rw[List.length_drop];omega,fun hk0=>⟨g,k,?_,?_,fun j u hu=>?_⟩⟩
 ·rw[if_neg (by omega)]
 ·obtain⟨_,_,e1,_,h2⟩:=own_form h (by omega);injection e1 with e1
  injection e1 with e1
  injection e1 with e1
  subst e1;exact h2
 rw[List.getElem?_drop] at hu;have hj:k+j<xs.length:=(List.getElem?_eq_some_iff.1 hu).1;exact(h.cellAt (k+j) (by omega)).trans hu
theorem put42_any(base:Nat)(v:Value)(L:List (List Int))(B:Option Addr)(m d:Nat)(xs:List Int)(w:World)(hs:SS w base v L)(hL:L.length<=1000000000000)(hbw:base<=w.heap.size)(hz:∀z∈L,z.length<=1000000)(hx:Row w 3 1 B m (ints xs))(hm:m=xs.length)(hd:m<=d)(hm1:m<=1000000):
  Calls Tryz.prog 42 #[v,.slice B m d] w fun e w'=>(∃v',e=.returned v'/\SS w' base v' (putP L xs))/\Below w.heap.size w w':=by
 obtain⟨i0,hi0,hy0,hy1,hy2⟩:=info_parts slice32_info;obtain⟨cs,hown,hcts⟩:=hs;have HX:=Jh hx;have HM:=Jh hm;have HBw:=Jh hbw;have HZ:=Jh hz;have HCt:=Jh hcts;have HOwn:=Jh hown;obtain⟨n,hn⟩:=exE (L.length);rw[<-hn] at hown HOwn hL;have HN:=Jh hn;clear hx hm hbw hz hcts hn;rcases own_forms hown with⟨rfl,rfl⟩|⟨g,c,rfl,hg,hc⟩
 ·have hL0:L=[]:=List.eq_nil_of_length_eq_zero HN.o.symm;subst hL0;have HPut:=Jh (show putP [] xs=[]++[xs]++[] from rfl);have HM2:=Jh (show([]++[xs]++[]:List (List Int)).length=0+1+0 from rfl);go_enter Tryz.func42,Tryz.ntmps42;go_wp2_with fail;go_loopw [5] (fun v wr=>v=.int .i64 0/\wr=w) (fun _ _=>0);case atStart=>exact⟨rfl,rfl⟩
  case round=>
   obtain⟨rfl,rfl⟩:=hrel;obtain⟨wo,rfl⟩:=exE wr;go_upto_region 6 with fail
   go_upto_region 7 with(
    at_builtin
    refine wpList_append_rd _ rfl (.const (.slice none 0 0)) (.tmp 38) 36 rfl wo.heap.size 32 i0 _ 1 24 Tryz.underlying36 hi0 hy0 hy1 hy2 rfl (by decide) (.slice none 0 0) 0 [] rfl (World.ownsRow_nil _ _ _ _) none 0 0 [] rfl (Rd.nil_ _ _ _) (fun u hu=>by cases hu) (by unfold maxLen;omega) (by omega) (Nat.le_refl _) ?_;intro v5 w5 hown5 hg5;rw[Nat.zero_add,List.nil_append] at hown5
    have HB5:=Jh (show Below wo.heap.size wo w5 from(bR wo).grown hg5 (Nat.le_refl _) (fun r e=>by cases e));obtain⟨A5,c5,rfl,_,_⟩:=own_slice hown5;have HO5:=Jh hown5;clear hown5 hg5)
   have HNw:=Jh (heap_alloc_new w5 (.cells #[.slice B m d] 32));have kA:Below w5.heap.size w5 (w5.alloc (.cells #[.slice B m d] 32)):=bA (bR w5);have HOl:=Jh (own_tk (T:=[]) HO5.o (Tk.below kA) (by decide));have HBl:=Jh (bT HB5.o kA);clear kA;go_upto_region 8 with(
    at_builtin
    refine wpList_append_rd _ rfl (.tmp 40) (.tmp 42) 36 rfl wo.heap.size 32 i0 _ 1 24 Tryz.underlying36 hi0 hy0 hy1 hy2 rfl (by decide) (.slice A5 0 c5) 0 [] rfl HOl.o (some ⟨w5.heap.size,0,none⟩) 1 1 [.slice B m d] rfl ⟨rfl,fun _=>⟨w5.heap.size,0,rfl,blk_lt HNw.o,fun j u hu=>one_cell HNw.o hu⟩⟩ (by simp[Value.oneCell']) (by unfold maxLen;omega) (by omega) HBl.o.size ?_;intro v7 w7 hown7 hg7
    have HB7:=Jh (show Below wo.heap.size wo w7 from HBl.o.grown hg7 HBl.o.size (fun r e=>(HOl.o.lt r e).1));obtain⟨A7,c7,rfl,_,_⟩:=own_slice hown7;have HO7:=Jh hown7;clear hown7 hg7)
   go_wp2_with (
    at_builtin
    refine wpList_append_rd _ rfl (.tmp 44) (.tmp 47) 36 rfl wo.heap.size 32 i0 _ 1 24 Tryz.underlying36 hi0 hy0 hy1 hy2 rfl (by decide) (.slice A7 (0+1) c7) (0+1) ([]++[.slice B m d]) rfl HO7.o none 0 0 [] rfl (Rd.nil_ _ _ _) (fun u hu=>by cases hu) (by unfold maxLen;omega) (by omega) HB7.o.size ?_;intro v9 w9 hown9 hg9
    have HB9:=Jh (show Below wo.heap.size wo w9 from HB7.o.grown hg9 HB7.o.size (fun r e=>(HO7.o.lt r e).1));have HO9:=Jh hown9;clear hown9 hg9)
   all_goals (
    go_ret;refine⟨⟨v9,rfl,[]++[.slice B m d]++[],?_,?_⟩,HB9.o⟩
    ·have h9:=own_low' HO9.o HBw.o;rw[show(putP [] xs).length=0+1+0 from by rw[HPut.o,HM2.o]];exact h9
    rw[HPut.o];have hc9:=HCt.o.below (HB9.o);have hx9:=HX.o.below (HB9.o);exact cts_append (cts_append (L:=[]) ⟨rfl,fun k z hz=>by simp at hz⟩ (cts_single HM.o hd hx9)) ⟨rfl,fun k z hz=>by simp at hz⟩)
 have HCC:=Jh (fun(k:Nat) (y:List Int) (By:Option Addr) (dy:Nat) (wx:World) (hbx:Below w.heap.size w wx) (hr:Row wx 3 1 By y.length (ints y)) (hy:y.length<=1000000)=>compare35_any By B y.length m dy d y xs wx hr.rd (HX.o.below hbx).rd (by omega) (by omega));go_enter Tryz.func42,Tryz.ntmps42;go_wp2_with fail
 go_loopw [5] (fun v wr=>∃k:Nat,k<=n/\v=.int .i64 k/\Below w.heap.size w wr/\∀j y,j<k->L[j]?=some y->cmpR y xs<0) (fun v _=>n-(intOf v).toNat);case atStart=>exact⟨0,by omega,rfl,bR w,fun j y hj=>absurd hj (by omega)⟩
 case round=>
  obtain⟨k,hk,rfl,hbw,hall⟩:=hrel;obtain⟨wo,rfl⟩:=exE wr;have HBW:=Jh hbw;have HAll:=Jh hall;have HOo:=Jh (own_tk (T:=[]) HOwn.o (Tk.below hbw) (by decide));clear hbw hall;have HM2:=Jh (show(L.take k++[xs]++L.drop k).length=k+1+(n-k) from by rw[List.length_append,List.length_append,List.length_take,List.length_drop,<-HN.o,List.length_singleton];omega);have hk0:decide ((k:Int)<0)=false:=by simp
  by_cases hlt:k<n
  ·have hlb:decide ((k:Int)<(n:Int))=true:=by simp;omega
   have hlb2:decide (k<n)=true:=by simpa using hlt
   have hkn:(k:Int)<(n:Int):=by omega
   obtain⟨y,hy⟩:∃y,L[k]?=some y:=⟨_,List.getElem?_eq_getElem (by have:=HN.o;omega)⟩;obtain⟨By,dy,hcy,hdy,hry⟩:=HCt.o.2 k y hy;have hcl:cs.length=n:=by simpa using HOo.o.1
   have hce:=(HOo.o.cellAt k (by omega)).trans hcy;have hyl:=HZ.o y (List.mem_of_getElem? hy);have HC:=Jh (HCC.o k y By dy wo HBW.o (hry.below HBW.o) hyl);have HC2:=Jh (fun wx (hb:Below wo.heap.size wo wx)=>HCC.o k y By dy wx (bT HBW.o hb) (hry.below (bT HBW.o hb)) hyl);have HCE:=Jh (fun(wx:World) (hb:Below wo.heap.size wo wx)=>(hb.cell (cell_lt hce)).trans hce);obtain⟨zc,hzc⟩:=exE (cmpR y xs)
   rw[<-hzc] at HC HC2;obtain⟨yl,hyl2⟩:=exE (y.length);rw[<-hyl2] at hce HC HC2 HCE;have HY:=Jh hy;have HZC:=Jh hzc;clear hy hcy hry hcl hyl hzc hyl2;go_wp2_with fail;refine HC.o.mono ?_;rintro e w3 ⟨rfl,hb3⟩;have HB3:=Jh hb3;clear hce hb3;by_cases hneg:zc<0
   ·have hnb:decide (zc<0)=true:=by simpa using hneg
    have HA1:=Jh (show∀j y,j<k+1->L[j]?=some y->cmpR y xs<0 from fun j y' hj hy'=>by
     rcases Nat.lt_or_ge j k with h|h
     ·exact HAll.o j y' h hy'
     obtain rfl:j=k:=by omega
     rw[HY.o] at hy';rw[<-Option.some.inj hy',<-HZC.o];exact hneg)
    clear hneg;go_wp2_with fail;go_roundw;case rel=>exact⟨k+1,by omega,by go_num,bT HBW.o HB3.o,HA1.o⟩
    case measure=>simp[intOf];omega
   have hnb:decide (zc<0)=false:=by simpa using hneg
   have hce:=HCE.o w3 HB3.o;have HC3:=Jh (HC2.o w3 HB3.o);go_wp2_with fail;refine HC3.o.mono ?_;rintro e wq ⟨rfl,hb4⟩;have HBq:=Jh (bT HBW.o (bT HB3.o hb4));have HOq:=Jh (own_tk (T:=[]) HOo.o (Tk.below (bT HB3.o hb4)) (by decide));clear hce hb4;by_cases h0:zc=0
   ·have h0b:(zc==0)=true:=by simpa using h0
    have HP:=Jh (putP_is HAll.o HY.o (by rw[<-HZC.o];exact h0));clear h0 hneg;go_wp2_with fail;go_ret;refine⟨⟨_,rfl,cs,?_,?_⟩,HBq.o⟩
    ·rw[HP.o,<-HN.o];exact HOq.o
    rw[HP.o];exact HCt.o.below HBq.o
   have h0b:(zc==0)=false:=by simpa using h0
   have HPut:=Jh (show putP L xs=L.take k++[xs]++L.drop k from by rw[putP_new HAll.o HY.o (by rw[<-HZC.o];omega) (by rw[<-HZC.o];exact h0),List.append_assoc];rfl);clear h0 hneg;have HRD:=Jh (show Rd wq 1 (some ⟨g,k,none⟩) (n-k) (cs.drop k) from by have h9:=own_rd_drop HOq.o hk hc;rwa[if_neg (by omega)] at h9);go_upto_region 6 with fail
   go_upto_region 7 with(
    at_builtin
    refine wpList_append_rd _ rfl (.const (.slice none 0 0)) (.tmp 38) 36 rfl wq.heap.size 32 i0 _ 1 24 Tryz.underlying36 hi0 hy0 hy1 hy2 rfl (by decide) (.slice none 0 0) 0 [] rfl (World.ownsRow_nil _ _ _ _) (some ⟨g,0,none⟩) k c (cs.take k) rfl (own_rd_take HOq.o hk) (fun u hu=>cts_one HCt.o u (List.mem_of_mem_take hu)) (by unfold maxLen;omega) (by omega) (Nat.le_refl _) ?_;intro v5 w5 hown5 hg5
    rw[Nat.zero_add,List.nil_append] at hown5;have HB5:=Jh (show Below wq.heap.size wq w5 from(bR wq).grown hg5 (Nat.le_refl _) (fun r e=>by cases e));obtain⟨A5,c5,rfl,_,_⟩:=own_slice hown5;have HO5:=Jh hown5;clear hown5 hg5)
   have HNw:=Jh (heap_alloc_new w5 (.cells #[.slice B m d] 32));have kA:Below w5.heap.size w5 (w5.alloc (.cells #[.slice B m d] 32)):=bA (bR w5);have HOl:=Jh (own_tk (T:=[]) HO5.o (Tk.below kA) (by decide));have HBl:=Jh (bT HB5.o kA);clear kA;go_upto_region 8 with(
    at_builtin
    refine wpList_append_rd _ rfl (.tmp 40) (.tmp 42) 36 rfl wq.heap.size 32 i0 _ 1 24 Tryz.underlying36 hi0 hy0 hy1 hy2 rfl (by decide) (.slice A5 k c5) k (cs.take k) rfl HOl.o (some ⟨w5.heap.size,0,none⟩) 1 1 [.slice B m d] rfl ⟨rfl,fun _=>⟨w5.heap.size,0,rfl,blk_lt HNw.o,fun j u hu=>one_cell HNw.o hu⟩⟩ (by simp[Value.oneCell']) (by unfold maxLen;omega) (by omega) HBl.o.size ?_;intro v7 w7 hown7 hg7
    have HB7:=Jh (show Below wq.heap.size wq w7 from HBl.o.grown hg7 HBl.o.size (fun r e=>(HOl.o.lt r e).1));obtain⟨A7,c7,rfl,_,_⟩:=own_slice hown7;have HO7:=Jh hown7;clear hown7 hg7)
   go_wp2_with (
    at_builtin
    refine wpList_append_rd _ rfl (.tmp 44) (.tmp 47) 36 rfl wq.heap.size 32 i0 _ 1 24 Tryz.underlying36 hi0 hy0 hy1 hy2 rfl (by decide) (.slice A7 (k+1) c7) (k+1) ((cs.take k)++[.slice B m d]) rfl HO7.o (some ⟨g,k,none⟩) (n-k) (c-k) (cs.drop k) rfl (HRD.o.below HB7.o) (fun u hu=>cts_one HCt.o u (List.mem_of_mem_drop hu)) (by unfold maxLen;omega) (by omega) HB7.o.size ?_;intro v9 w9 hown9 hg9
    have HB9:=Jh (show Below wq.heap.size wq w9 from HB7.o.grown hg9 HB7.o.size (fun r e=>(HO7.o.lt r e).1));have HO9:=Jh hown9;clear hown9 hg9)
   all_goals (
    go_ret;refine⟨⟨v9,rfl,(cs.take k)++[.slice B m d]++(cs.drop k),?_,?_⟩,bT HBq.o HB9.o⟩
    ·have h9:=own_low' HO9.o (Nat.le_trans HBw.o HBq.o.size);rw[show(putP L xs).length=k+1+(n-k) from by rw[HPut.o,HM2.o]];exact h9
    rw[HPut.o];have hc9:=HCt.o.below (bT HBq.o HB9.o);have hx9:=HX.o.below (bT HBq.o HB9.o);exact cts_append (cts_append (cts_take hc9 k) (cts_single HM.o hd hx9)) (cts_drop hc9 k))
  have hlb:decide ((k:Int)<(n:Int))=false:=by simp;omega
  have hlb2:decide (k<n)=false:=by simpa using hlt
  have HPut:=Jh (show putP L xs=L.take k++[xs]++L.drop k from by
   have hkl:k=L.length:=by have:=HN.o;omega
   rw[hkl,List.take_length,List.drop_length,List.append_nil];exact putP_end fun j y hj hy=>HAll.o j y (by omega) hy)
  obtain⟨wq,rfl⟩:=exE wo;have HBq:=HBW;have HOq:=HOo;go_upto_region 6 with fail
  go_upto_region 7 with(
   at_builtin
   refine wpList_append_rd _ rfl (.const (.slice none 0 0)) (.tmp 38) 36 rfl wq.heap.size 32 i0 _ 1 24 Tryz.underlying36 hi0 hy0 hy1 hy2 rfl (by decide) (.slice none 0 0) 0 [] rfl (World.ownsRow_nil _ _ _ _) (some ⟨g,0,none⟩) k c (cs.take k) rfl (own_rd_take HOq.o hk) (fun u hu=>cts_one HCt.o u (List.mem_of_mem_take hu)) (by unfold maxLen;omega) (by omega) (Nat.le_refl _) ?_;intro v5 w5 hown5 hg5
   rw[Nat.zero_add,List.nil_append] at hown5;have HB5:=Jh (show Below wq.heap.size wq w5 from(bR wq).grown hg5 (Nat.le_refl _) (fun r e=>by cases e));obtain⟨A5,c5,rfl,_,_⟩:=own_slice hown5;have HO5:=Jh hown5;clear hown5 hg5)
  have HNw:=Jh (heap_alloc_new w5 (.cells #[.slice B m d] 32));have kA:Below w5.heap.size w5 (w5.alloc (.cells #[.slice B m d] 32)):=bA (bR w5);have HOl:=Jh (own_tk (T:=[]) HO5.o (Tk.below kA) (by decide));have HBl:=Jh (bT HB5.o kA);clear kA;go_upto_region 8 with(
   at_builtin
   refine wpList_append_rd _ rfl (.tmp 40) (.tmp 42) 36 rfl wq.heap.size 32 i0 _ 1 24 Tryz.underlying36 hi0 hy0 hy1 hy2 rfl (by decide) (.slice A5 k c5) k (cs.take k) rfl HOl.o (some ⟨w5.heap.size,0,none⟩) 1 1 [.slice B m d] rfl ⟨rfl,fun _=>⟨w5.heap.size,0,rfl,blk_lt HNw.o,fun j u hu=>one_cell HNw.o hu⟩⟩ (by simp[Value.oneCell']) (by unfold maxLen;omega) (by omega) HBl.o.size ?_;intro v7 w7 hown7 hg7
   have HB7:=Jh (show Below wq.heap.size wq w7 from HBl.o.grown hg7 HBl.o.size (fun r e=>(HOl.o.lt r e).1));obtain⟨A7,c7,rfl,_,_⟩:=own_slice hown7;have HO7:=Jh hown7;clear hown7 hg7)
  go_wp2_with (
   at_builtin
   refine wpList_append_rd _ rfl (.tmp 44) (.tmp 47) 36 rfl wq.heap.size 32 i0 _ 1 24 Tryz.underlying36 hi0 hy0 hy1 hy2 rfl (by decide) (.slice A7 (k+1) c7) (k+1) ((cs.take k)++[.slice B m d]) rfl HO7.o (if c=k then some ⟨g,0,none⟩ else some ⟨g,k,none⟩) (n-k) (c-k) (cs.drop k) rfl ((own_rd_drop HOq.o hk hc).below HB7.o) (fun u hu=>cts_one HCt.o u (List.mem_of_mem_drop hu)) (by unfold maxLen;omega) (by omega) HB7.o.size ?_
   intro v9 w9 hown9 hg9;have HB9:=Jh (show Below wq.heap.size wq w9 from HB7.o.grown hg9 HB7.o.size (fun r e=>(HO7.o.lt r e).1));have HO9:=Jh hown9;clear hown9 hg9)
  all_goals (
   go_ret;refine⟨⟨v9,rfl,(cs.take k)++[.slice B m d]++(cs.drop k),?_,?_⟩,bT HBq.o HB9.o⟩
   ·have h9:=own_low' HO9.o (Nat.le_trans HBw.o HBq.o.size);rw[show(putP L xs).length=k+1+(n-k) from by rw[HPut.o,HM2.o]];exact h9
   rw[HPut.o];have hc9:=HCt.o.below (bT HBq.o HB9.o);have hx9:=HX.o.below (bT HBq.o HB9.o);exact cts_append (cts_append (cts_take hc9 k) (cts_single HM.o hd hx9)) (cts_drop hc9 k))
end Go.Proofs.YtnigadeohmlpiaaGreatDoor
namespace Go.Proofs.YtnigadeohmlpiaaGreatDoor
open Go.RowKit
open Classical in
noncomputable def addS (i:Nat) (L:List St) (s:St):List St:=if s∈L.drop (i+1) then L else L++[s]
noncomputable def stepS (l:List Ev) (s:St) (i:Nat) (L:List St) (p:Pk):List St:=match s.next l p with
 |some s'=>addS i L s'
 |none=>L
noncomputable def expL (l:List Ev) (s:St) (i:Nat) (ps:List Pk) (L:List St):List St:=ps.foldl (stepS l s i) L
theorem expL_snoc(l:List Ev)(s:St)(i:Nat)(ps:List Pk)(p:Pk)(L:List St):expL l s i (ps++[p]) L=stepS l s i (expL l s i ps L) p:=by unfold expL;rw[List.foldl_append];rfl
theorem stepS_pre(l:List Ev)(s:St)(i:Nat)(L:List St)(p:Pk):∃N,stepS l s i L p=L++N:=by
 unfold stepS;split
 ·unfold addS;split
  ·exact⟨[],by simp⟩
  exact⟨_,rfl⟩
 exact⟨[],by simp⟩
theorem expL_pre(l:List Ev)(s:St)(i:Nat):∀(ps:List Pk) (L:List St),∃N,expL l s i ps L=L++N
 |[],L=>⟨[],by simp[expL]⟩
 |p::ps,L=>by obtain⟨N,hN⟩:=stepS_pre l s i L p;obtain⟨N',hN'⟩:=expL_pre l s i ps (stepS l s i L p);exact⟨N++N',by show expL l s i ps (stepS l s i L p)=_;rw[hN',hN,List.append_assoc]⟩
theorem expL_at{l:List Ev}{s x:St}{i k:Nat}{ps:List Pk}{L:List St}(h:L[k]?=some x):(expL l s i ps L)[k]?=some x:=by obtain⟨N,hN⟩:=expL_pre l s i ps L;rw[hN,List.getElem?_append_left (List.getElem?_eq_some_iff.1 h).1];exact h
theorem stepS_len(l:List Ev)(s:St)(i:Nat)(L:List St)(p:Pk):(stepS l s i L p).length<=L.length+1:=by
 unfold stepS;split
 ·unfold addS;split
  ·omega
  simp
 omega
theorem expL_len(l:List Ev)(s:St)(i:Nat):∀(ps:List Pk) (L:List St),(expL l s i ps L).length<=L.length+ps.length
 |[],L=>by simp[expL]
 |p::ps,L=>by have h1:=expL_len l s i ps (stepS l s i L p);have h2:=stepS_len l s i L p;show(expL l s i ps (stepS l s i L p)).length<=_;rw[List.length_cons];omega
theorem stepS_mem{l:List Ev}{s x:St}{i:Nat}{L:List St}{p:Pk}(h:x∈stepS l s i L p):x∈L\/s.next l p=some x:=by
 unfold stepS at h;split at h
 ·rename_i s' hs;unfold addS at h;split at h
  ·exact .inl h
  rcases List.mem_append.1 h with h|h
  ·exact .inl h
  rw[List.mem_singleton.1 h];exact .inr hs
 exact .inl h
theorem expL_mem{l:List Ev}{s x:St}{i:Nat}:∀{ps:List Pk} {L:List St},x∈expL l s i ps L->x∈L\/∃p,s.next l p=some x
 |[],_,h=>.inl h
 |p::ps,L,h=>by
  rcases expL_mem (ps:=ps) (L:=stepS l s i L p) h with h|h
  ·rcases stepS_mem h with h|h
   ·exact .inl h
   exact .inr ⟨p,h⟩
  exact .inr h
theorem expL_all{l:List Ev}{s x:St}{i:Nat}:∀{ps:List Pk} {L:List St} {p:Pk},p∈ps->s.next l p=some x->x∈expL l s i ps L
 |p::ps,L,q,hq,hx=>by
  rcases List.mem_cons.1 hq with rfl|hq
  ·have h1:x∈stepS l s i L q:=by
    unfold stepS;rw[hx];show x∈addS i L x;unfold addS;split
    ·rename_i h;exact List.mem_of_mem_drop h
    exact List.mem_append_right _ (List.mem_singleton.2 rfl)
   obtain⟨N,hN⟩:=expL_pre l s i ps (stepS l s i L q);show x∈expL l s i ps (stepS l s i L q);rw[hN];exact List.mem_append_left _ h1
  exact expL_all (L:=stepS l s i L p) hq hx
def wtN:Nat->Nat
 |0=>1
 |k+1=>(k+6)*wtN k
theorem wtN_pos:∀k,1<=wtN k
 |0=>Nat.le_refl _
 |k+1=>Nat.mul_pos (by omega) (wtN_pos k)
theorem wtN_mono:∀{j k:Nat},j<=k->wtN j<=wtN k
 |j,k,h=>by
  induction h with
  |refl=>exact Nat.le_refl _
  |step h ih=>rename_i k;refine Nat.le_trans ih ?_;show wtN k<=(k+6)*wtN k;exact Nat.le_mul_of_pos_left _ (by omega)
def sumT(L:List St):Nat:=(L.map fun s=>wtN s.meas).sum
theorem sumT_append(L K:List St):sumT (L++K)=sumT L+sumT K:=by simp[sumT]
theorem sumT_cons(s:St)(L:List St):sumT (s::L)=wtN s.meas+sumT L:=rfl
theorem sumT_len(L:List St):L.length<=sumT L:=by
 induction L with
 |nil=>simp
 |cons s L ih=>
  have:=wtN_pos s.meas;have h:sumT (s::L)=wtN s.meas+sumT L:=by simp[sumT]
  rw[h,List.length_cons];omega
theorem stepS_sum{l:List Ev}{s:St}{i d:Nat}{L:List St}{p:Pk}(hi:i+1<=L.length)(hs:s.meas=d+1):sumT ((stepS l s i L p).drop (i+1))<=sumT (L.drop (i+1))+wtN d:=by
 unfold stepS;split
 ·rename_i s' h;unfold addS;split
  ·omega
  rw[List.drop_append_of_le_length hi,sumT_append];have h1:=next_meas h;have h2:=wtN_mono (show s'.meas<=d by omega);have h3:sumT [s']=wtN s'.meas:=by simp[sumT]
  omega
 omega
theorem expL_sum{l:List Ev}{s:St}{i d:Nat}(hs:s.meas=d+1):∀(ps:List Pk) (L:List St),i+1<=L.length->sumT ((expL l s i ps L).drop (i+1))<=sumT (L.drop (i+1))+ps.length*wtN d
 |[],L,_=>by simp[expL]
 |p::ps,L,hi=>by obtain⟨N,hN⟩:=stepS_pre l s i L p;have h1:=expL_sum (l:=l) (i:=i) hs ps (stepS l s i L p) (by rw[hN,List.length_append];omega);have h2:=stepS_sum (l:=l) (p:=p) hi hs;show sumT ((expL l s i ps (stepS l s i L p)).drop (i+1))<=_;rw[List.length_cons,Nat.succ_mul];omega
def outsP(l:List Ev)(L:List St):List (List Int):=L.foldl (fun O s=>if s.done.all id=true then putP O (toldL l s.told) else O) []
theorem outsP_snoc(l:List Ev)(L:List St)(s:St):outsP l (L++[s])=if s.done.all id=true then putP (outsP l L) (toldL l s.told) else outsP l L:=by unfold outsP;rw[List.foldl_append];rfl
theorem outsP_is(l:List Ev):∀(n:Nat) (L:List St),L.length=n->Rising (outsP l L)/\(outsP l L).length<=n/\∀z,z∈outsP l L↔∃s∈L,s.done.all id=true/\z=toldL l s.told
 |0,L,h=>by rw[List.eq_nil_of_length_eq_zero h];exact⟨List.Pairwise.nil,Nat.zero_le _,fun z=>by simp[outsP]⟩
 |n+1,L,h=>by
  obtain⟨K,s,rfl⟩:∃K s,L=K++[s]:=⟨L.dropLast,L.getLast (by intro e;rw[e] at h;cases h),(List.dropLast_concat_getLast _).symm⟩;obtain⟨h1,h2,h3⟩:=outsP_is l n K (by simpa using h);rw[outsP_snoc];split
  ·rename_i hd;refine⟨putP_rising h1,by have:=putP_len (outsP l K) (toldL l s.told);omega,fun z=>?_⟩;rw[putP_mem,h3];constructor
   ·rintro(h4|⟨x,hx,h4⟩)
    ·exact⟨s,List.mem_append_right _ (List.mem_singleton.2 rfl),hd,h4⟩
    exact⟨x,List.mem_append_left _ hx,h4⟩
   rintro⟨x,hx,h4⟩;rcases List.mem_append.1 hx with hx|hx
   ·exact .inr ⟨x,hx,h4⟩
   rw[List.mem_singleton.1 hx] at h4;exact .inl h4.2
  rename_i hd;refine⟨h1,by omega,fun z=>?_⟩;rw[h3];constructor
  ·rintro⟨x,hx,h4⟩;exact⟨x,List.mem_append_left _ hx,h4⟩
  rintro⟨x,hx,h4⟩;rcases List.mem_append.1 hx with hx|hx
  ·exact⟨x,hx,h4⟩
  rw[List.mem_singleton.1 hx] at h4;exact absurd h4.1 hd
structure BInv(l:List Ev)(i:Nat)(L:List St):Prop where
 le:i<=L.length
 reach:∀s∈L,∃xs,(St.first l.length).run l xs=some s
 first:St.first l.length∈L
 close:∀(k:Nat) s,k<i->L[k]?=some s->s.done.all id=false->∀p s',s.next l p=some s'->s'∈L
 sum:i+sumT (L.drop i)<=10897286400
theorem BInv.start{l:List Ev}(hl:l.length<=5):BInv l 0 [St.first l.length]:=by
 refine⟨Nat.zero_le _,fun s hs=>⟨[],by rw[List.mem_singleton.1 hs];rfl⟩,List.mem_singleton.2 rfl,fun k s hk=>absurd hk (by omega),?_⟩;have h1:sumT [St.first l.length]=wtN (St.first l.length).meas:=by simp[sumT]
 rw[List.drop_zero,h1,first_meas];have h2:=wtN_mono (show 2*l.length<=10 by omega);have h3:wtN 10=10897286400:=by decide
 omega
theorem BInv.ended{l:List Ev}{i:Nat}{L:List St}{s:St}(h:BInv l i L)(hs:L[i]?=some s)(hd:s.done.all id=true):BInv l (i+1) L:=by
 obtain⟨hi,rfl⟩:=List.getElem?_eq_some_iff.1 hs;refine⟨hi,h.reach,h.first,fun k x hk hx hxd=>?_,?_⟩
 ·rcases Nat.lt_or_ge k i with h1|h1
  ·exact h.close k x h1 hx hxd
  obtain rfl:k=i:=by omega
  rw[hs] at hx;rw[<-Option.some.inj hx,hd] at hxd;cases hxd
 have h1:=h.sum;rw[List.drop_eq_getElem_cons hi] at h1;have h2:=sumT_cons L[i] (L.drop (i+1));have:=wtN_pos L[i].meas;omega
theorem BInv.opened{l:List Ev}(hl:Prog l){i:Nat}{L:List St}{s:St}(h:BInv l i L)(hs:L[i]?=some s)(hd:s.done.all id=false):BInv l (i+1) (expL l s i (candK s 4) L):=by
 obtain⟨hi,hLi⟩:=List.getElem?_eq_some_iff.1 hs;obtain⟨xs,hrun⟩:=h.reach s (List.mem_of_getElem? hs);have hok:=run_lens hl (St.first_ok l.length) hrun;obtain⟨N,hN⟩:=expL_pre l s i (candK s 4) L;have hsub:∀x∈L,x∈expL l s i (candK s 4) L:=fun x hx=>by rw[hN];exact List.mem_append_left _ hx
 refine⟨by rw[hN,List.length_append];omega,fun x hx=>?_,hsub _ h.first,fun k x hk hx hxd p s' hp=>?_,?_⟩
 ·rcases expL_mem hx with hx|⟨p,hp⟩
  ·exact h.reach x hx
  exact⟨xs++[p],by rw[run_snoc,hrun];exact hp⟩
 ·rcases Nat.lt_or_ge k i with h1|h1
  ·have hx':L[k]?=some x:=by rw[hN,List.getElem?_append_left (by omega)] at hx;exact hx
   exact hsub _ (h.close k x h1 hx' hxd p s' hp)
  obtain rfl:k=i:=by omega
  rw[expL_at hs] at hx;rw[<-Option.some.inj hx] at hp;have hm:=cand_all hl hp;unfold mayK at hm;exact expL_all (List.mem_filter.1 hm).1 hp
 obtain⟨d,hdm⟩:∃d,s.meas=d+1:=by obtain⟨c,_,hc⟩:=can_go hl hok hd;obtain⟨s',hs'⟩:=Option.isSome_iff_exists.1 hc;have:=next_meas hs';exact⟨s.meas-1,by omega⟩
 have h1:=h.sum;rw[List.drop_eq_getElem_cons hi,hLi] at h1;have h2:=sumT_cons s (L.drop (i+1));have h3:=expL_sum (l:=l) (i:=i) hdm (candK s 4) L hi;have h4:=cand_len hok;have h5:(candK s 4).length*wtN d<=(d+5)*wtN d:=Nat.mul_le_mul_right _ (by omega);have h6:wtN s.meas=(d+5)*wtN d+wtN d:=by rw[hdm,show wtN (d+1)=(d+6)*wtN d from rfl,<-Nat.succ_mul]
 have h7:=wtN_pos d;omega
theorem BInv.few{l:List Ev}{i:Nat}{L:List St}(h:BInv l i L):L.length<=10897286400:=by have h1:=sumT_len (L.drop i);rw[List.length_drop] at h1;have h2:=h.sum;have h3:=h.le;omega
theorem BInv.last{l:List Ev}(_hl:Prog l){L:List St}(h:BInv l L.length L)(z:List Int):z∈outsP l L↔∃xs,playP l xs=some z:=by
 rw[(outsP_is l L.length L rfl).2.2 z];have hout:∀s:St,s.done.all id=true->s.outcome l=some (toldL l s.told):=fun s hd=>by unfold St.outcome;rw[if_pos hd];rfl
 constructor
 ·rintro⟨s,hs,hd,rfl⟩;obtain⟨xs,hx⟩:=h.reach s hs;exact⟨xs,by unfold playP;rw[hx];exact hout s hd⟩
 rintro⟨xs,hp⟩;obtain⟨u,hu,hz⟩:=Option.bind_eq_some_iff.1 hp;have key:∀(ys:List Pk) (s:St),s∈L->s.run l ys=some u->∃s∈L,s.done.all id=true/\z=toldL l s.told:=by
  intro ys;induction ys with
  |nil=>
   intro s hs hr;have hsu:s=u:=Option.some.inj hr;rw[hsu] at hs;have hd:u.done.all id=true:=by
    unfold St.outcome at hz;split at hz
    ·assumption
    cases hz
   refine⟨u,hs,hd,?_⟩;rw[hout u hd] at hz;exact(Option.some.inj hz).symm
  |cons p ys ih=>
   intro s hs hr;cases hd:s.done.all id with
   |true=>
    have h1:∀(ys:List Pk) (s:St),s.outcome l=some (toldL l s.told)->∀z0,s.outcome l=some z0->s.run l ys=some u->u.outcome l=some z0:=by
     intro ys;induction ys with
     |nil=>intro s _ z0 h0 hr;rw[<-Option.some.inj hr];exact h0
     |cons q ys ih2=>
      intro s _ z0 h0 hr;have hr':(s.next l q).bind (fun s'=>s'.run l ys)=some u:=hr
      obtain⟨s',hn,hr2⟩:=Option.bind_eq_some_iff.1 hr';have h2:=next_ended h0 hn;obtain⟨hdn,hzz⟩:=outcome_parts h2;exact ih2 s' (outcome_eq hdn) z0 h2 hr2
    have h2:=h1 (p::ys) s (hout s hd) _ (hout s hd) hr;rw[hz] at h2;exact⟨s,hs,hd,Option.some.inj h2⟩
   |false=>
    have hr':(s.next l p).bind (fun s'=>s'.run l ys)=some u:=hr
    obtain⟨s',hn,hr2⟩:=Option.bind_eq_some_iff.1 hr';obtain⟨k,hk,hks⟩:=List.getElem_of_mem hs;exact ih s' (h.close k s hk (by rw[<-hks];exact List.getElem?_eq_getElem hk) hd p s' hn) hr2
 exact key xs _ h.first hu
end Go.Proofs.YtnigadeohmlpiaaGreatDoor
