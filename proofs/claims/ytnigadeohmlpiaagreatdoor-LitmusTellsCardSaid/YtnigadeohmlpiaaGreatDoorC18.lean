/- A contract: all outcomes that the axioms let be. Its condition: that the events are a program. -/
import Derived.Test.YtnigadeohmlpiaaGreatDoorC17
set_option maxHeartbeats 32000000
set_option maxRecDepth 100000
namespace Go.Proofs.YtnigadeohmlpiaaGreatDoor
open Go.RowKit
attribute [local go_sem] Oper.semAt_some
theorem rows_info:(Tryz.prog.info? 32).map (fun i=>(i.zero,i.size,i.bytes))=some (some (.slice none 0 0),1,24):=by kernel_rfl
theorem LL.below{w w':World}{base n:Nat}{v:Value}{L:List (List Ev)}(h:LL w base n v L)(hb:Below w.heap.size w w'):LL w' base n v L:=h.tk (T:=[]) (Tk.below hb) (by simp) (by simp)
theorem LL.app{w w':World}{base n:Nat}{v':Value}{L L9:List (List Ev)}{cs cs9:List Value}(hcl:cs.length=L.length)(hL:∀(k:Nat) l,L[k]?=some l->∃A c,cs[k]?=some (.slice A n c)/\IsEvs w A n c l)
  (hL9:∀(k:Nat) l,L9[k]?=some l->∃A c,cs9[k]?=some (.slice A n c)/\IsEvs w A n c l)
  (ho:w'.ownsRow base 22 1 v' (L.length+L9.length) (cs++cs9)) (hk:Tk [22] w w'):LL w' base n v' (L++L9):=by
 refine⟨cs++cs9,by rw[List.length_append];exact ho,fun k l hl=>?_⟩;rcases Nat.lt_or_ge k L.length with h1|h1
 ·rw[List.getElem?_append_left h1] at hl;obtain⟨A,c,h5,h6⟩:=hL k l hl;exact⟨A,c,by rw[List.getElem?_append_left (by omega)];exact h5,h6.tk hk (by decide)⟩
 rw[List.getElem?_append_right h1] at hl;obtain⟨A,c,h5,h6⟩:=hL9 _ l hl;exact⟨A,c,by rw[List.getElem?_append_right (by omega),hcl];exact h5,h6.tk hk (by decide)⟩
theorem ll_one{w:World}{n:Nat}{L:List (List Ev)}{cs:List Value}(hlen:cs.length=L.length)(h:∀(k:Nat) l,L[k]?=some l->∃A c,cs[k]?=some (.slice A n c)/\IsEvs w A n c l):∀u∈cs,u.oneCell'=true:=by intro u hu;obtain⟨i,hi⟩:=List.getElem?_of_mem hu;have hil:=(List.getElem?_eq_some_iff.1 hi).1;obtain⟨A,c,h1,_⟩:=h i _ (List.getElem?_eq_getElem (by omega));rw[hi] at h1;rw[Option.some.inj h1];rfl
theorem LL.at_{w:World}{base n k:Nat}{A:Option Addr}{c:Nat}{L:List (List Ev)}(h:LL w base n (.slice A L.length c) L)(hk:k<L.length):∃g l B d,A=some ⟨g,0,none⟩/\L[k]?=some l/\w.cell? ⟨g,k,none⟩=some (.slice B n d)/\IsEvs w B n d l:=by
 obtain⟨cs,h1,h2⟩:=h;have hx:L[k]?=some L[k]:=List.getElem?_eq_getElem hk;obtain⟨B,d,h3,h4⟩:=h2 k _ hx;obtain⟨g,c',hv,_⟩:=own_form h1 (by omega);injection hv with hA _ _
 subst hA;exact⟨g,_,B,d,rfl,hx,(h1.cellAt k (by omega)).trans h3,h4⟩
theorem own_rd{w:World}{base:Nat}{e:TypeId}{n:Nat}{A:Option Addr}{c:Nat}{cs:List Value}(h:w.ownsRow base e 1 (.slice A n c) n cs):Rd w 1 A n cs:=(Row.of_own h).rd
noncomputable def okP (m:List Ev):Bool:=@decide (CanEnd m AS.zero) (Classical.propDecidable _)
theorem okP_iff(m:List Ev):okP m=true↔CanEnd m AS.zero:=by unfold okP;exact@decide_eq_true_iff _ (Classical.propDecidable _)
theorem SS.below{w w':World}{base:Nat}{v:Value}{L:List (List Int)}(h:SS w base v L)(hb:Below w.heap.size w w'):SS w' base v L:=by obtain⟨cs,h1,h2⟩:=h;exact⟨cs,own_tk (T:=[]) h1 (Tk.below hb) (by simp),h2.tk (T:=[]) (Tk.below hb) (by simp)⟩
theorem SS.low{w:World}{base base':Nat}{v:Value}{L:List (List Int)}(h:SS w base v L)(hb:base'<=base):SS w base' v L:=by obtain⟨cs,h1,h2⟩:=h;exact⟨cs,own_low h1 hb,h2⟩
theorem SS.nil(w:World)(base:Nat):SS w base (.slice none 0 0) []:=⟨[],⟨rfl,.inl ⟨rfl,rfl⟩⟩,rfl,fun k z h=>by cases h⟩
theorem SS.slice{w:World}{base:Nat}{v:Value}{L:List (List Int)}(h:SS w base v L):∃A c,v=.slice A L.length c:=by obtain⟨cs,h1,_⟩:=h;obtain⟨A,c,e,_⟩:=own_slice h1;exact⟨A,c,e⟩
theorem SS.snoc{w w':World}{base:Nat}{v':Value}{L:List (List Int)}{z:List Int}{cs:List Value}{A:Option Addr}{c:Nat}(hc:Cts w cs L)(hz:Row w 3 1 A z.length (ints z))(hzc:z.length<=c)
  (ho:w'.ownsRow base 32 1 v' (L.length+1) (cs++[.slice A z.length c])) (hk:Tk [32] w w'):SS w' base v' (L++[z]):=by
 refine⟨cs++[.slice A z.length c],by rw[List.length_append];exact ho,by simp[hc.1],fun k y hy=>?_⟩;rcases Nat.lt_or_ge k L.length with h1|h1
 ·rw[List.getElem?_append_left h1] at hy;obtain⟨B,d,h5,h6,h7⟩:=hc.2 k y hy;exact⟨B,d,by rw[List.getElem?_append_left (by have:=hc.1;omega)];exact h5,h6,h7.tk hk (by decide)⟩
 rw[List.getElem?_append_right h1] at hy;have h0:k-L.length=0:=by have:=(List.getElem?_eq_some_iff.1 hy).1;simp at this;omega
 rw[h0] at hy;obtain rfl:z=y:=by simpa using hy
 exact⟨A,c,by rw[List.getElem?_append_right (by have:=hc.1;omega),hc.1,h0];rfl,hzc,hz.tk hk (by decide)⟩
def loadsK(m:List Ev)(i:Nat):List Int:=loadsOf (m.take i)
theorem loadsK_yes{m:List Ev}{i:Nat}{e:Ev}(h:m[i]?=some e)(hk:e.k=1):loadsK m (i+1)=loadsK m i++[e.n]:=by unfold loadsK loadsOf;rw[List.take_add_one,h,List.filterMap_append];simp[hk]
theorem loadsK_no{m:List Ev}{i:Nat}{e:Ev}(h:m[i]?=some e)(hk:e.k≠1):loadsK m (i+1)=loadsK m i:=by unfold loadsK loadsOf;rw[List.take_add_one,h,List.filterMap_append];simp[hk]
theorem loadsK_len(m:List Ev)(i:Nat):(loadsK m i).length<=i:=by unfold loadsK loadsOf;refine Nat.le_trans (List.length_filterMap_le _ _) ?_;exact List.length_take_le i m
noncomputable def outsK (L:List (List Ev)) (j:Nat):List (List Int):=((L.take j).filter okP).map loadsOf
theorem outsK_yes{L:List (List Ev)}{j:Nat}{m:List Ev}(h:L[j]?=some m)(hk:okP m=true):outsK L (j+1)=outsK L j++[loadsOf m]:=by unfold outsK;rw[List.take_add_one,h,List.filter_append];simp[hk]
theorem outsK_no{L:List (List Ev)}{j:Nat}{m:List Ev}(h:L[j]?=some m)(hk:okP m=false):outsK L (j+1)=outsK L j:=by unfold outsK;rw[List.take_add_one,h,List.filter_append];simp[hk]
theorem outsK_len(L:List (List Ev))(j:Nat):(outsK L j).length<=j:=by unfold outsK;have h1:=List.length_filter_le okP (L.take j);have h2:=List.length_take_le j L;rw[List.length_map];omega
theorem axioms_any(A:Option Addr)(n c:Nat)(l:List Ev)(w:World)(he:IsEvs w A n c l)(hl:Prog l):
  Calls Tryz.prog 21 #[.slice A n c] w fun o w'=>SortedIs (((axAll l n).filter okP).map loadsOf) w.heap.size o w'/\Below w.heap.size w w':=by
 have hn6:n<=6:=he.len▸hl.few;have hI:∀x∈l,I32 x.n:=fun x hx=>(hl.ok x hx).n;have HR:=Jh (right_yes A n c l w he hl);have HE:=Jh he;have HP:=Jh hl;have HI:=Jh hI;have HAL:=Jh (fun k (hk:k<=n)=>Nat.le_trans (axAll_len hI hl.few k) (Nat.pow_le_pow_right (show 0<7 by omega) (Nat.le_trans hk hn6)));clear he hl hI;go_enter Tryz.func21,Tryz.ntmps21;go_wp2_with fail;refine HR.o.mono ?_
 rintro o w2 ⟨rfl,hb2⟩;obtain⟨W3,hW3⟩:=exE (w2.alloc (.cells #[.slice A n c] 22));obtain⟨g3,hg3⟩:=exE (w2.heap.size);have k3:Below w2.heap.size w2 W3:=hW3▸bA (bR w2);have HB3:=Jh (bT hb2 k3);have HLL:=Jh (show LL W3 w.heap.size n (.slice (some ⟨g3,0,none⟩) 1 1) (axAll l 0) from⟨[.slice A n c],by rw[hW3,hg3];exact World.ownsRow_lit w2 #[.slice A n c] 1 hb2.size (by decide) rfl,fun k m hk=>by
  have h0:k=0:=by have:=(List.getElem?_eq_some_iff.1 hk).1;simp[axAll] at this;omega
  subst h0;obtain rfl:l=m:=by simpa[axAll] using hk
  exact⟨A,c,rfl,HE.o.sees (Below.sees (bT hb2 k3))⟩⟩)
 clear hb2 k3;go_upto_region 4 with fail
 rw[<-hW3,<-hg3];clear hW3 hg3;go_wp2_with fail;go_loopw [3,21] (fun va vi wr=>∃(k:Nat) (AA:Option Addr) (cA:Nat),k<=n/\vi=.int .i64 k/\va=.slice AA (axAll l k).length cA/\LL wr w.heap.size n va (axAll l k)/\Below w.heap.size w wr) (fun _ vi _=>n-(intOf vi).toNat);case atStart=>exact⟨0,some ⟨g3,0,none⟩,1,Nat.zero_le _,rfl,rfl,HLL.o,HB3.o⟩
 case round=>
  obtain⟨k,AA,cA,hk,rfl,rfl,hll,hbw⟩:=hrel;obtain⟨w5,rfl⟩:=exE wr;have HL5:=Jh hll;have HB5:=Jh hbw;clear hll hbw;by_cases hlt:k<n
  ·have hlb:decide ((k:Int)<(n:Int))=true:=by simp;omega
   have hkn:(k:Int)<(n:Int):=by omega
   have hk0:decide ((k:Int)<0)=false:=by simp
   obtain⟨ge,oe,e,hA,hek,hc0,hc1,hc2,hc3⟩:=(HE.o.sees (Below.sees HB5.o)).at_ hlt;subst hA;have HEk:=Jh hek;obtain⟨W6,hW6⟩:=exE (w5.alloc (.cells #[.int .i64 e.h,.int .i64 e.k,.int .i64 e.a,.int .i64 e.n] 44));obtain⟨b5,hb5⟩:=exE (w5.heap.size);have k6:Below w5.heap.size w5 W6:=hW6▸bA (bR w5)
   have H56:=Jh (show W6.heap[b5]?=some (.cells #[.int .i64 e.h,.int .i64 e.k,.int .i64 e.a,.int .i64 e.n] 44) by rw[hW6,hb5];exact heap_alloc_new w5 _);have HL6:=Jh (HL5.o.below k6);have HB6:=Jh (bT HB5.o k6);have HAx:=Jh (show axAll l (k+1)=if e.k=1 then(axAll l k).flatMap (fun m=>toldP m k e.a) else axAll l k by rw[axAll,hek])
   obtain⟨ek,hek2⟩:=exE (e.k);go_upto_region 7 with fail
   rw[<-hW6,<-hb5];clear hW6 hb5 k6 hek hc0 hc1 hc2 hc3;obtain⟨q0,q1,q2,q3,_⟩:=cells4 H56.o;rw[<-hek2] at q1 HAx;have HEk2:=Jh hek2;clear hek2;by_cases hk1:ek=1
   ·have hkb:(ek !=1)=false:=by simp[hk1]
    have HAx:=Jh (HAx.o.trans (if_pos hk1));clear hk1;go_wp2_with fail;obtain⟨N,hN⟩:=exE ((axAll l k).length);have HN:=Jh hN;have hN7:N<=117649:=by have:=HAL.o k (by omega);omega
    rw[<-hN];clear hN;go_loopw [6,31] (fun v6 vj wr=>∃(j:Nat) (A6:Option Addr) (c6:Nat),j<=N/\vj=.int .i64 j/\v6=.slice A6 (((axAll l k).take j).flatMap fun m=>toldP m k e.a).length c6/\LL wr W6.heap.size n v6 (((axAll l k).take j).flatMap fun m=>toldP m k e.a)/\Below W6.heap.size W6 wr) (fun _ vj _=>N-(intOf vj).toNat);case atStart=>exact⟨0,none,0,Nat.zero_le _,rfl,rfl,LL.nil _ _ _,bR W6⟩
    case round=>
     obtain⟨j,A6,c6,hj,rfl,rfl,hll6,hbw6⟩:=hrel;obtain⟨w7,rfl⟩:=exE wr;have HLx:=Jh hll6;have HB7:=Jh hbw6;clear hll6 hbw6 q0 q1 q2 q3;by_cases hltj:j<N
     ·have hlbj:decide ((j:Int)<(N:Int))=true:=by simp;omega
      have hjn:(j:Int)<(N:Int):=by omega
      have hj0:decide ((j:Int)<0)=false:=by simp
      obtain⟨g7,m7,B7,d7,hAA,hm7,hcell7,hIs7⟩:=(HL6.o.below HB7.o).at_ (show j<_ by have:=HN.o;omega);subst hAA;have hT7:=axAll_told HI.o k m7 (List.mem_of_getElem? hm7);obtain⟨z7,hz7,_⟩:=hT7.at_ k e HEk.o;have HTd:=Jh (told_any B7 n d7 k m7 (e.tell z7) w7 (by omega) hIs7 hz7)
      have HTd:=Jh (show Calls Tryz.prog 44 #[.slice B7 n d7,.int .i64 k] w7 fun o w'=>(∃v,o=.returned v/\LL w' w7.heap.size n v (toldP m7 k e.a))/\Below w7.heap.size w7 w' from HTd.o);have HM7:=Jh hm7;have HT7:=Jh hT7;clear hm7 hIs7 hT7 hz7;go_wp2_with fail;refine HTd.o.mono ?_;rintro o w8 ⟨⟨v9,rfl,hl9⟩,hb8⟩;obtain⟨A9,c9,rfl⟩:=hl9.slice;obtain⟨cs9,ho9,he9⟩:=hl9;obtain⟨cs6,ho6,he6⟩:=HLx.o.below hb8
      have HB8:=Jh (bT HB7.o hb8);have HO9:=Jh ho9;have HE9:=Jh he9;have HO6:=Jh ho6;have HE6:=Jh he6;have HNx:=Jh (show((axAll l k).take (j+1)).flatMap (fun m=>toldP m k e.a)=((axAll l k).take j).flatMap (fun m=>toldP m k e.a)++toldP m7 k e.a by rw[List.take_add_one,HM7.o,List.flatMap_append];simp);obtain⟨P6,hP6⟩:=exE (((axAll l k).take j).flatMap (fun m=>toldP m k e.a));have h6n:P6.length<=823543:=by
       rw[hP6];refine Nat.le_trans (flatMap_len _ 7 _ fun m hm=>Nat.le_trans (toldP_len _ _ _) (by have h1:=(axAll_told HI.o k m (List.mem_of_mem_take hm)).len;have h2:=HE.o.len;omega)) ?_;have:((axAll l k).take j).length<=117649:=by rw[List.length_take];have:=HN.o;omega
       omega
      have h9n:(toldP m7 k e.a).length<=7:=Nat.le_trans (toldP_len _ _ _) (by have h1:=HT7.o.len;have h2:=HE.o.len;omega);obtain⟨P9,hP9⟩:=exE (toldP m7 k e.a);rw[<-hP6] at HO6 HE6 HNx⊢;rw[<-hP9] at HO9 HE9 HNx h9n⊢;clear hb8 ho9 he9 ho6 he6 hP6 hP9;obtain⟨i0,hi1,hz0,hz1,hz2⟩:=info_parts evs_info;have HBs:=Jh HB8.o.size
      go_wp2_with (at_builtin;refine wpList_append_rd _ rfl (.tmp 35) (.tmp 38) 30 rfl W6.heap.size 22 i0 _ 1 24 Tryz.underlying30 hi1 hz0 hz1 hz2 rfl (by decide) (.slice A6 P6.length c6) P6.length cs6 rfl HO6.o A9 P9.length c9 cs9 rfl (own_rd HO9.o) (ll_one (by have:=HO9.o.1;omega) HE9.o) (by unfold maxLen;omega) (by omega) HBs.o ?_;intro v' w10 hown' hgrow;obtain⟨A10,c10,rfl,hc10,_⟩:=own_slice hown')
      go_roundw;case rel=>refine⟨j+1,A10,c10,by omega,by go_num,by rw[HNx.o,List.length_append],?_,HB8.o.grown hgrow HB8.o.size (fun r e=>own_block_ge HO6.o e)⟩;rw[HNx.o];have h:=LL.app (by have:=HO6.o.1;omega) HE6.o HE9.o hown' (tk_grown HO6.o hgrow);exact h
      case measure=>simp[intOf];omega
     have hlbj:decide ((j:Int)<(N:Int))=false:=by simp;omega
     have HF:=Jh (show((axAll l k).take j).flatMap (fun m=>toldP m k e.a)=axAll l (k+1) by rw[HAx.o,List.take_of_length_le (by have:=HN.o;omega)]);rw[HF.o] at HLx⊢;go_wp2_with fail;go_roundw;case rel=>exact⟨k+1,A6,c6,by omega,by go_num,rfl,HLx.o.low HB6.o.size,HB6.o.trans (HB7.o.mono HB6.o.size)⟩
     case measure=>simp[intOf];omega
   have hkb:(ek !=1)=true:=by simpa using hk1
   have HAx:=Jh (HAx.o.trans (if_neg hk1));clear hk1;go_wp2_with fail;go_roundw;case rel=>exact⟨k+1,AA,cA,by omega,by go_num,by rw[HAx.o],by rw[HAx.o];exact HL6.o,HB6.o⟩
   case measure=>simp[intOf];omega
  have hlb:decide ((k:Int)<(n:Int))=false:=by simp;omega
  obtain rfl:k=n:=by omega
  go_wp2_with fail;obtain⟨N,hN⟩:=exE ((axAll l k).length);have HN:=Jh hN;have hN7:N<=117649:=by have:=HAL.o k (by omega);omega
  rw[<-hN];clear hN;go_loopw [2,45] (fun v2 vj wr=>∃(j:Nat) (A2:Option Addr) (c2:Nat),j<=N/\vj=.int .i64 j/\v2=.slice A2 (outsK (axAll l k) j).length c2/\SS wr w5.heap.size v2 (outsK (axAll l k) j)/\Below w5.heap.size w5 wr) (fun _ vj _=>N-(intOf vj).toNat);case atStart=>exact⟨0,none,0,Nat.zero_le _,rfl,rfl,SS.nil _ _,bR w5⟩
  case round=>
   obtain⟨j,A2,c2,hj,rfl,rfl,hss,hbw7⟩:=hrel;obtain⟨w7,rfl⟩:=exE wr;have HS7:=Jh hss;have HB7:=Jh hbw7;clear hss hbw7;by_cases hltj:j<N
   ·have hlbj:decide ((j:Int)<(N:Int))=true:=by simp;omega
    have hjn:(j:Int)<(N:Int):=by omega
    have hj0:decide ((j:Int)<0)=false:=by simp
    obtain⟨g7,m7,B7,d7,hAA,hm7,hcell7,hIs7⟩:=(HL5.o.below HB7.o).at_ (show j<_ by have:=HN.o;omega);subst hAA;have hT7:=axAll_told HI.o k m7 (List.mem_of_getElem? hm7);have HAw:=Jh (allowed_any B7 k d7 m7 w7 hIs7 (by omega) (told_ok hT7 HP.o.ok));have HM7:=Jh hm7;have HI7:=Jh hIs7;clear hm7 hIs7 hT7;go_wp2_with fail;refine HAw.o.mono ?_;rintro o w8 ⟨⟨b,rfl,hb⟩,hb8⟩;have HB8:=Jh (bT HB7.o hb8)
    have HS8:=Jh (HS7.o.below hb8);have HI8:=Jh (HI7.o.sees (Below.sees hb8));have HOk:=Jh (show okP m7=b by
     cases hx:okP m7
     ·cases b
      ·rfl
      exact absurd ((okP_iff m7).2 (hb.1 rfl)) (by simp[hx])
     exact(hb.2 ((okP_iff m7).1 hx)).symm)
    clear hb hb8;cases b
    ·have HNx:=Jh (outsK_no HM7.o HOk.o);go_wp2_with fail;go_roundw;case rel=>exact⟨j+1,A2,c2,by omega,by go_num,by rw[HNx.o],by rw[HNx.o];exact HS8.o,HB8.o⟩
     case measure=>simp[intOf];omega
    have HNx:=Jh (outsK_yes HM7.o HOk.o);go_wp2_with fail;go_loopw [11,54] (fun vo vi wr=>∃(i:Nat) (Ao:Option Addr) (co:Nat),i<=k/\vi=.int .i64 i/\vo=.slice Ao (loadsK m7 i).length co/\wr.ownsRow w8.heap.size 3 1 vo (loadsK m7 i).length (ints (loadsK m7 i))/\Below w8.heap.size w8 wr) (fun _ vi _=>k-(intOf vi).toNat);case atStart=>exact⟨0,none,0,Nat.zero_le _,rfl,rfl,⟨rfl,.inl ⟨rfl,rfl⟩⟩,bR w8⟩
    case round=>
     obtain⟨i,Ao,co,hi,rfl,rfl,hro,hbw9⟩:=hrel;obtain⟨w9,rfl⟩:=exE wr;have HR9:=Jh hro;have HB9:=Jh hbw9;clear hro hbw9;by_cases hlti:i<k
     ·have hlbi:decide ((i:Int)<(k:Int))=true:=by simp;omega
      have hik:(i:Int)<(k:Int):=by omega
      have hi0:decide ((i:Int)<0)=false:=by simp
      obtain⟨ge,oe,e,hA,hek,hc0,hc1,hc2,hc3⟩:=(HI8.o.sees (Below.sees HB9.o)).at_ hlti;subst hA;have HEk:=Jh hek;obtain⟨W10,hW10⟩:=exE (w9.alloc (.cells #[.int .i64 e.h,.int .i64 e.k,.int .i64 e.a,.int .i64 e.n] 44));obtain⟨b13,hb13⟩:=exE (w9.heap.size);have k10:Below w9.heap.size w9 W10:=hW10▸bA (bR w9)
      have H1310:=Jh (show W10.heap[b13]?=some (.cells #[.int .i64 e.h,.int .i64 e.k,.int .i64 e.a,.int .i64 e.n] 44) by rw[hW10,hb13];exact heap_alloc_new w9 _);have HR10:=Jh (own_tk (T:=[]) HR9.o (Tk.below k10) (by simp));have HB10:=Jh (bT HB9.o k10);go_upto_region 24 with fail
      rw[<-hW10,<-hb13];clear hW10 hb13 k10 hek hc0 hc1 hc2 hc3;obtain⟨ek,hek2⟩:=exE (e.k);obtain⟨en,hen⟩:=exE (e.n);obtain⟨q0,q1,q2,q3,_⟩:=cells4 H1310.o;rw[<-hek2] at q1;rw[<-hen] at q3;have HEn:=Jh (And.intro hek2 hen);clear hek2 hen;by_cases hk1:ek=1
      ·have hkb:(ek==1)=true:=by simpa using hk1
       have HLx:=Jh (show loadsK m7 (i+1)=loadsK m7 i++[en] by rw[loadsK_yes HEk.o (by rw[<-HEn.o.1];exact hk1),HEn.o.2]);have hlen:=loadsK_len m7 i;clear hk1;obtain⟨i0,hi1,hz0,hz1,hz2⟩:=info_parts int_info;obtain⟨P9,hP9⟩:=exE (loadsK m7 i);rw[<-hP9] at HR10 HLx hlen⊢;clear hP9;have HNw:=Jh (heap_alloc_new W10 (.cells #[.int .i64 en] 3));have HR11:=Jh (HR10.o.alloc (.cells #[.int .i64 en] 3))
       have HB11:=Jh (show Below w8.heap.size w8 (W10.alloc (.cells #[.int .i64 en] 3)) from bA HB10.o)
       go_wp2_with (at_builtin;refine wpList_append_rd _ rfl (.tmp 61) (.tmp 64) 32 rfl w8.heap.size 3 i0 _ 1 8 Tryz.underlying32 hi1 hz0 hz1 hz2 rfl (by decide) (.slice Ao P9.length co) P9.length _ rfl HR11.o (some ⟨W10.heap.size,0,none⟩) 1 1 [.int .i64 en] rfl ⟨rfl,fun _=>⟨W10.heap.size,0,rfl,blk_lt HNw.o,fun j u hu=>one_cell HNw.o hu⟩⟩ (by simp[Value.oneCell']) (by unfold maxLen;omega) (by omega) HB11.o.size ?_;intro v' w12 hown' hgrow;obtain⟨A12,c12,rfl,hc12,_⟩:=own_slice hown')
       go_roundw;case rel=>refine⟨i+1,A12,c12,by omega,by go_num,by rw[HLx.o,List.length_append];rfl,?_,HB11.o.grown hgrow HB11.o.size (fun r e=>own_block_ge HR11.o e)⟩;rw[HLx.o,List.length_append];simpa[ints] using hown'
       case measure=>simp[intOf];omega
      have hkb:(ek==1)=false:=by simpa using hk1
      have HLx:=Jh (loadsK_no HEk.o (fun h=>hk1 (HEn.o.1.trans h)));clear hk1;go_wp2_with fail;go_roundw;case rel=>exact⟨i+1,Ao,co,by omega,by go_num,by rw[HLx.o],by rw[HLx.o];exact HR10.o,HB10.o⟩
      case measure=>simp[intOf];omega
     have hlbi:decide ((i:Int)<(k:Int))=false:=by simp;omega
     obtain rfl:i=k:=by omega
     have HF:=Jh (show loadsK m7 i=loadsOf m7 by unfold loadsK;rw[List.take_of_length_le (by have:=HI8.o.len;omega)]);have hl9:=loadsK_len m7 i;obtain⟨P9,hP9⟩:=exE (loadsK m7 i);rw[<-hP9] at HR9 HF hl9⊢;clear hP9;have hlo:=outsK_len (axAll l i) j;obtain⟨P2,hP2⟩:=exE (outsK (axAll l i) j);rw[<-hP2] at HS8 HNx hlo⊢;clear hP2;obtain⟨cs2,ho2,hc2⟩:=HS8.o.below HB9.o;have hpc:P9.length<=co:=by
      rcases own_forms HR9.o with⟨_,h0⟩|⟨g9,c9,h,_,h2⟩
      ·omega
      injection h with _ _ h3
      omega
     have HO2:=Jh (ho2.alloc (.cells #[.slice Ao P9.length co] 32));have HC2:=Jh (hc2.tk (T:=[]) (Tk.below (bA (o:=.cells #[.slice Ao P9.length co] 32) (bR w9))) (by simp));have HRo:=Jh ((Row.of_own HR9.o).below (bA (o:=.cells #[.slice Ao P9.length co] 32) (bR w9)));have HNw:=Jh (heap_alloc_new w9 (.cells #[.slice Ao P9.length co] 32))
     have HB11:=Jh (show Below w5.heap.size w5 (w9.alloc (.cells #[.slice Ao P9.length co] 32)) from bA (HB8.o.trans (HB9.o.mono HB8.o.size)));clear ho2 hc2;obtain⟨i0,hi1,hz0,hz1,hz2⟩:=info_parts rows_info
     go_wp2_with (at_builtin;refine wpList_append_rd _ rfl (.tmp 67) (.tmp 69) 36 rfl w5.heap.size 32 i0 _ 1 24 Tryz.underlying36 hi1 hz0 hz1 hz2 rfl (by decide) (.slice A2 P2.length c2) P2.length _ rfl HO2.o (some ⟨w9.heap.size,0,none⟩) 1 1 [.slice Ao P9.length co] rfl ⟨rfl,fun _=>⟨w9.heap.size,0,rfl,blk_lt HNw.o,fun j u hu=>one_cell HNw.o hu⟩⟩ (by simp[Value.oneCell']) (by unfold maxLen;omega) (by omega) HB11.o.size ?_;intro v' w12 hown' hgrow;obtain⟨A12,c12,rfl,hc12,_⟩:=own_slice hown')
     go_roundw;case rel=>refine⟨j+1,A12,c12,by omega,by go_num,by rw[HNx.o,List.length_append];rfl,?_,HB11.o.grown hgrow HB11.o.size (fun r e=>own_block_ge HO2.o e)⟩;rw[HNx.o,<-HF.o];exact SS.snoc HC2.o HRo.o hpc hown' (tk_grown HO2.o hgrow)
     case measure=>simp[intOf];omega
   have hlbj:decide ((j:Int)<(N:Int))=false:=by simp;omega
   have HF:=Jh (show outsK (axAll l k) j=((axAll l k).filter okP).map loadsOf by unfold outsK;rw[List.take_of_length_le (by have:=HN.o;omega)]);have hlo:=outsK_len (axAll l k) j;have HSo:=Jh (sorted_any w.heap.size (.slice A2 (outsK (axAll l k) j).length c2) (outsK (axAll l k) j) w7 (by omega) (HS7.o.low HB5.o.size) (fun z hz=>by
    obtain⟨m,hm,rfl⟩:=List.mem_map.1 hz;have:=List.length_filterMap_le (fun e:Ev=>if e.k=1 then some e.n else none) m
    have h2:=(axAll_told HI.o k m (List.mem_of_mem_take (List.mem_filter.1 hm).1)).len;have h3:=HE.o.len;unfold loadsOf;omega) (Nat.le_trans HB5.o.size HB7.o.size))
   obtain⟨P2,hP2⟩:=exE (outsK (axAll l k) j);rw[<-hP2] at HSo HS7 HF⊢;clear hP2 hlo;go_wp2_with fail;refine HSo.o.mono ?_;rintro o w9 ⟨⟨v9,R,rfl,hR1,hR2,hR3⟩,hb9⟩;have HR:=Jh (And.intro hR1 (And.intro hR2 hR3));have HB9:=Jh (show Below w.heap.size w w9 from(HB5.o.trans (HB7.o.mono HB5.o.size)).trans hb9);clear hR1 hR2 hR3 hb9;obtain⟨A9,c9,rfl⟩:=HR.o.1.slice;go_wp2_with fail;go_ret
   exact⟨⟨_,R,rfl,HR.o.1,HR.o.2.1,fun z=>by rw[<-HF.o];exact HR.o.2.2 z⟩,HB9.o⟩
end Go.Proofs.YtnigadeohmlpiaaGreatDoor
