/- Contracts and words: how much, and out of what; a state's outcome; whether two lists, and two memories, are the same; whether two states are the same. No condition of ours. -/
import Derived.Test.YtnigadeohmlpiaaGreatDoorC41
import Derived.Test.YtnigadeohmlpiaaGreatDoorC35
import Derived.Test.YtnigadeohmlpiaaGreatDoorC39
import Derived.Test.YtnigadeohmlpiaaGreatDoorC26
import Derived.Test.YtnigadeohmlpiaaGreatDoorC37
set_option maxHeartbeats 32000000
set_option maxRecDepth 100000
namespace Go.Proofs.YtnigadeohmlpiaaGreatDoor
open Go.RowKit
theorem toldL_len:∀{l:List Ev} {T:List Int},T.length=l.length->(toldL l T).length=(loadsOf l).length
 |[],T,_=>by cases T<;>rfl
 |e::l,[],h=>by simp at h
 |e::l,t::T,h=>by have ih:=toldL_len (l:=l) (T:=T) (by simpa using h);unfold toldL loadsOf at*;rw[List.zip_cons_cons,List.filterMap_cons,List.filterMap_cons];by_cases h1:e.k=1<;>simp[h1,ih]
theorem toldL_mem{l:List Ev}{T:List Int}{y:Int}(h:y∈toldL l T):y∈T:=by
 unfold toldL at h;rw[List.mem_filterMap] at h;obtain⟨⟨e,t⟩,hx,h⟩:=h;have ht:=(List.of_mem_zip hx).2;by_cases h1:e.k=1
 ·simp[h1] at h;rwa[<-h]
 simp[h1] at h
theorem playP_parts{pl:List Ev}(hl:Prog pl){xs:List Pk}{z:List Int}(h:playP pl xs=some z):z.length=(loadsOf pl).length/\∀y∈z,I32 y:=by obtain⟨s,h1,h2⟩:=Option.bind_eq_some_iff.1 h;have hs:=run_lens hl (St.first_ok _) h1;obtain⟨_,rfl⟩:=outcome_parts h2;exact⟨toldL_len hs.t,fun y hy=>hs.i y (toldL_mem hy)⟩
theorem loads_more{pl:List Ev}{k:Nat}{e:Ev}(h:pl[k]?=some e)(h1:e.k=1):(loadsOf (pl.take k)).length<(loadsOf pl).length:=by
 have h2:=List.take_append_drop k pl;have h3:pl.drop k=e::pl.drop (k+1):=by obtain⟨hk,rfl⟩:=List.getElem?_eq_some_iff.1 h;exact List.drop_eq_getElem_cons hk
 have h4:loadsOf pl=loadsOf (pl.take k)++(e.n::loadsOf (pl.drop (k+1))):=by
  conv=>lhs;rw[<-h2,h3]
  unfold loadsOf;rw[List.filterMap_append,List.filterMap_cons];simp[h1]
 rw[h4,List.length_append,List.length_cons];omega
end Go.Proofs.YtnigadeohmlpiaaGreatDoor
namespace Go.Proofs.YtnigadeohmlpiaaGreatDoor
open Go.RowKit
attribute [local go_sem] Oper.semAt_some
theorem outK_end{l:List Ev}{s:St}{k:Nat}(h:l.length<=k):outK l s k=toldL l s.told:=by unfold outK toldL;rw[List.take_of_length_le (by rw[List.length_zip];omega)];rfl
def OutV(b:Nat)(z:List Int)(e:Ending)(w:World):Prop:=∃A c,e=.returned (.slice A z.length c)/\w.ownsRow b 3 1 (.slice A z.length c) z.length (ints z)/\z.length<=c
theorem outcome34_any(A:Option Addr)(n c:Nat)(pl:List Ev)(v:Value)(s:St)(w:World)(he:IsEvs w A n c pl)(hs:IsSt w v n s)(hn:n<=6):
  Calls Tryz.prog 34 #[.slice A n c,v] w fun e w'=>OutV w.heap.size (toldL pl s.told) e w'/\Below w.heap.size w w':=by
 obtain⟨i3,hi3,hz0,hz1,hz2⟩:=info_parts int_info;have ht:=hs.ok.t;obtain⟨v1,v2,v3,AD,cD,AT,cT,rfl,him,_,hrt,_,hcT⟩:=hs.is;obtain⟨A1,c1,rfl,_⟩:=him.ws;obtain⟨A2,c2,pv,rfl,_,_⟩:=him.ps;obtain⟨A3,c3,rfl,_⟩:=him.rs;obtain⟨b,hb⟩:=exE (w.heap.size);obtain⟨W,hW⟩:=exE (w.alloc (.cells #[.slice A1 4 c1,.slice A2 4 c2,.slice A3 4 c3,.slice AD n cD,.slice AT n cT] 62))
 have kW:Below w.heap.size w W:=hW▸bA (bR w);have HB:=Jh kW;have HH:=Jh (show W.heap[b]?=some (.cells #[.slice A1 4 c1,.slice A2 4 c2,.slice A3 4 c3,.slice AD n cD,.slice AT n cT] 62) by rw[hW,hb];exact heap_alloc_new w _);have HT:=Jh (hrt.below kW);have HE:=Jh (he.sees (Below.sees kW));have HL:=Jh ht;have HLe:=Jh (Nat.le_of_eq hb.symm);clear hs him hrt kW he ht;go_enter Tryz.func34,Tryz.ntmps34
 go_upto_region 3 with fail
 rw[<-hW,<-hb];clear hW hb;go_loopw [5,6] (fun vx vk wr=>∃(k m:Nat) (X:List Int),k<=n/\vk=.int .i64 k/\X=outK pl s k/\m=X.length/\Below W.heap.size W wr/\wr.ownsRow W.heap.size 3 1 vx m (ints X)) (fun _ vk _=>n-(intOf vk).toNat);case atStart=>exact⟨0,0,[],Nat.zero_le _,rfl,rfl,rfl,bR W,World.ownsRow_nil _ _ _ _⟩
 case round=>
  obtain⟨k,m,X,hk,rfl,hX,hm,hbW,hox⟩:=hrel;obtain⟨wo,rfl⟩:=exE wr;have hm6:m<=6:=by rw[hm,hX];exact Nat.le_trans (outK_len _ _ _) (by omega)
  have HX:=Jh hX;have HM:=Jh hm;have HBW:=Jh hbW;have HOX:=Jh hox;obtain⟨AX,cX,rfl,hmc,_⟩:=own_slice hox;clear hX hm hbW hox;by_cases hlt:k<n
  ·have hlb:decide ((k:Int)<(n:Int))=true:=by simp;omega
   have hlb2:decide (k<n)=true:=by simpa using hlt
   have hkn:(k:Int)<(n:Int):=by omega
   have hk0:decide ((k:Int)<0)=false:=by simp
   obtain⟨g,off,ev,rfl,hx,_,hc1,_,_⟩:=(HE.o.sees (Below.sees HBW.o)).at_ hlt;obtain⟨g2,o2,tv,rfl,htv,hct⟩:=(HT.o.below HBW.o).rd.int hlt;have HS:=Jh (outK_succ (s:=s) hx htv);obtain⟨ek,hek⟩:=exE (ev.k);rw[<-hek] at hc1 HS;obtain⟨_,_,_,_,r4,_⟩:=cells5 (blk_below HBW.o HH.o);clear hx htv hek;by_cases h1:ek=1
   ·have hb1:(ek==1)=true:=by simpa using h1
    have HS1:=Jh (show outK pl s (k+1)=X++[tv] from by rw[HS.o,if_pos h1,HX.o]);have HNw:=Jh (heap_alloc_new wo (.cells #[.int .i64 tv] 3));have kA:Below wo.heap.size wo (wo.alloc (.cells #[.int .i64 tv] 3)):=bA (bR wo);have HOl:=Jh (own_tk (T:=[]) HOX.o (Tk.below kA) (by decide));have HBL:=Jh (bT HBW.o kA);clear h1 kA;go_upto_region 6 with fail
    go_wp2_with (
     at_builtin
     refine wpList_append_rd _ rfl (.tmp 19) (.tmp 25) 32 rfl W.heap.size 3 i3 _ 1 8 Tryz.underlying32 hi3 hz0 hz1 hz2 rfl (by decide) (.slice AX m cX) m (ints X) rfl HOl.o (some ⟨wo.heap.size,0,none⟩) 1 1 [.int .i64 tv] rfl ⟨rfl,fun _=>⟨wo.heap.size,0,rfl,blk_lt HNw.o,fun j u hu=>one_cell HNw.o hu⟩⟩ (by simp[Value.oneCell']) (by unfold maxLen;omega) (by omega) HBL.o.size ?_;intro v5 w5 hown5 hg5
     obtain⟨A5,c5,rfl,_,_⟩:=own_slice hown5;have HO5:=Jh (show w5.ownsRow W.heap.size 3 1 (.slice A5 (m+1) c5) (m+1) (ints (X++[tv])) from by rw[show ints (X++[tv])=ints X++[.int .i64 tv] from by simp[ints]];exact hown5);have HB5:=Jh (HBL.o.grown hg5 HBL.o.size (fun r e=>(HOl.o.lt r e).1));clear hown5 hg5)
    go_roundw;case rel=>exact⟨k+1,m+1,X++[tv],by omega,by go_num,HS1.o.symm,by rw[List.length_append,<-HM.o];rfl,HB5.o,HO5.o⟩
    case measure=>simp[intOf];omega
   have hb1:(ek==1)=false:=by simpa using h1
   have HS1:=Jh (show outK pl s (k+1)=X from by rw[HS.o,if_neg h1,HX.o]);clear h1;go_wp2_with fail;go_roundw;case rel=>exact⟨k+1,m,X,by omega,by go_num,HS1.o.symm,HM.o,HBW.o,HOX.o⟩
   case measure=>simp[intOf];omega
  have hlb:decide ((k:Int)<(n:Int))=false:=by simp;omega
  have hlb2:decide (k<n)=false:=by simpa using hlt
  have HF:=Jh (show X=toldL pl s.told from by rw[HX.o,outK_end (by have:=HE.o.len;omega)]);go_wp2_with fail;go_ret;refine⟨⟨AX,cX,?_,?_,?_⟩,bT HB.o HBW.o⟩
  ·rw[<-HF.o,<-HM.o];rfl
  ·rw[<-HF.o,<-HM.o];exact own_low' HOX.o HB.o.size
  rw[<-HF.o,<-HM.o];exact hmc
end Go.Proofs.YtnigadeohmlpiaaGreatDoor
namespace Go.Proofs.YtnigadeohmlpiaaGreatDoor
open Go.RowKit
attribute [local go_sem] Oper.semAt_some
theorem take_same{α:Type}{xs ys:List α}{k:Nat}{x y:α}(hx:xs[k]?=some x)(hy:ys[k]?=some y)(h:xs.take k=ys.take k)(hxy:x=y):xs.take (k+1)=ys.take (k+1):=by rw[List.take_add_one,List.take_add_one,hx,hy,h,hxy]
theorem take_end{α:Type}{xs ys:List α}{k:Nat}(h:xs.take k=ys.take k)(hx:xs.length<=k)(hy:ys.length<=k):xs=ys:=by rwa[List.take_of_length_le hx,List.take_of_length_le hy] at h
theorem ints100_any(A:Option Addr)(n c:Nat)(xs:List Int)(B:Option Addr)(m d:Nat)(ys:List Int)(w:World)(hx:Rd w 1 A n (ints xs))(hy:Rd w 1 B m (ints ys))(hn:n<=1000000)(hm:m<=1000000):
  Calls Tryz.prog 100 #[.slice A n c,.slice B m d] w fun e w'=>e=.returned (.bool (decide (xs=ys)))/\Below w.heap.size w w':=by
 have hln:xs.length=n:=by simpa[ints] using hx.1
 have hlm:ys.length=m:=by simpa[ints] using hy.1
 have HX:=Jh hx;have HY:=Jh hy;have HLN:=Jh hln;have HLM:=Jh hlm;clear hx hy;by_cases hnm:n=m
 ·subst hnm;clear hln hlm hm;go_enter Tryz.func100,Tryz.ntmps100;go_wp2_with fail;go_loopw [5] (fun v wr=>∃k:Nat,k<=n/\v=.int .i64 k/\Below w.heap.size w wr/\xs.take k=ys.take k) (fun v _=>n-(intOf v).toNat);case atStart=>exact⟨0,by omega,rfl,bR w,rfl⟩
  case round=>
   obtain⟨k,hk,rfl,hbw,hsm⟩:=hrel;obtain⟨wo,rfl⟩:=exE wr;have HBW:=Jh hbw;have HSM:=Jh hsm;clear hbw hsm;by_cases hlt:k<n
   ·have hlb:decide ((k:Int)<(n:Int))=true:=by simp;omega
    have hlb2:decide (k<n)=true:=by simpa using hlt
    have hkn:(k:Int)<(n:Int):=by omega
    have hk0:decide ((k:Int)<0)=false:=by simp
    obtain⟨g,o,x,rfl,hx,hcx⟩:=(HX.o.below HBW.o).int hlt;obtain⟨g',o',y,rfl,hy,hcy⟩:=(HY.o.below HBW.o).int hlt;have HXY:=Jh (And.intro hx hy);clear hx hy;go_upto_region 6 with fail
    by_cases hxy:x=y
    ·have hb:(x==y)=true:=by simpa using hxy
     have HS1:=Jh (take_same HXY.o.1 HXY.o.2 HSM.o hxy);go_quiet (fail)
     obtain⟨W6,hW6⟩:=exE (wo.drewN nq);rw[<-hW6];have HB6:=Jh (show Below wo.heap.size wo W6 from hW6▸bN (bR wo));clear hW6 hcx hcy hxy;go_wp2_with fail;go_roundw;case rel=>exact⟨k+1,by omega,by go_num,bT HBW.o HB6.o,HS1.o⟩
     case measure=>simp[intOf];omega
    have hb:(x==y)=false:=by simpa using hxy
    have HN:=Jh (show decide (xs=ys)=false from decide_eq_false fun h=>hxy (by have h1:=HXY.o.1;rw[h,HXY.o.2] at h1;exact(Option.some.inj h1).symm));go_quiet (fail)
    obtain⟨W6,hW6⟩:=exE (wo.drewN nq);rw[<-hW6];have HB6:=Jh (show Below wo.heap.size wo W6 from hW6▸bN (bR wo));clear hW6 hcx hcy hxy;go_wp2_with fail;go_ret;exact⟨ret_bool HN.o.symm,bT HBW.o HB6.o⟩
   have hlb:decide ((k:Int)<(n:Int))=false:=by simp;omega
   have hlb2:decide (k<n)=false:=by simpa using hlt
   have HY2:=Jh (show decide (xs=ys)=true from decide_eq_true (take_end HSM.o (by have:=HLN.o;omega) (by have:=HLM.o;omega)));go_wp2_with fail;go_ret;exact⟨ret_bool HY2.o.symm,HBW.o⟩
 have hnb:((n:Int)==(m:Int))=false:=by simp;omega
 have hnb2:(n==m)=false:=by simpa using hnm
 have HN:=Jh (show decide (xs=ys)=false from decide_eq_false fun h=>hnm (by rw[<-hln,<-hlm,h]));clear hln hlm;go_enter Tryz.func100,Tryz.ntmps100;go_wp2_with fail;go_ret;exact⟨ret_bool HN.o.symm,bR w⟩
theorem same70_any(v1 v2 v3:Value)(M:Mm)(u1 u2 u3:Value)(M':Mm)(w:World)(hm:IsMem w v1 v2 v3 M)(hm':IsMem w u1 u2 u3 M'):
  Calls Tryz.prog 70 #[.agg #[v1,v2,v3],.agg #[u1,u2,u3]] w fun e w'=>(∃b,e=.returned (.bool b)/\(b=true↔M=M'))/\Below w.heap.size w w':=by
 have HM:=Jh hm;have HM':=Jh hm';obtain⟨A1,c1,rfl,hr1⟩:=hm.ws;obtain⟨A2,c2,p0,rfl,hr2,hp⟩:=hm.ps;obtain⟨A3,c3,rfl,hr3⟩:=hm.rs;obtain⟨B1,d1,rfl,hs1⟩:=hm'.ws;obtain⟨B2,d2,q0,rfl,hs2,hq⟩:=hm'.ps;obtain⟨B3,d3,rfl,hs3⟩:=hm'.rs;obtain⟨b2,hb2⟩:=exE (w.heap.size);obtain⟨b3,hb3⟩:=exE (b2+1);obtain⟨X1,hX1⟩:=exE (w.alloc (.cells #[.slice A1 4 c1,.slice A2 4 c2,.slice A3 4 c3] 59))
 obtain⟨W0,hW0⟩:=exE (X1.alloc (.cells #[.slice B1 4 d1,.slice B2 4 d2,.slice B3 4 d3] 59));have s1:X1.heap.size=b2+1:=by rw[hX1,World.size_alloc,hb2]
 have k1:Below X1.heap.size X1 W0:=hW0▸bA (bR X1);have k0:Below w.heap.size w W0:=bT (hX1▸bA (bR w)) k1;have HB0:=Jh k0;have H2:=Jh (show W0.heap[b2]?=some (.cells #[.slice A1 4 c1,.slice A2 4 c2,.slice A3 4 c3] 59) from blk_below k1 (by rw[hX1,hb2];exact heap_alloc_new w _))
 have H3:=Jh (show W0.heap[b3]?=some (.cells #[.slice B1 4 d1,.slice B2 4 d2,.slice B3 4 d3] 59) by rw[hW0,hb3,<-s1];exact heap_alloc_new X1 _);have hWW:W0=(w.alloc (.cells #[.slice A1 4 c1,.slice A2 4 c2,.slice A3 4 c3] 59)).alloc (.cells #[.slice B1 4 d1,.slice B2 4 d2,.slice B3 4 d3] 59):=by rw[hW0,hX1]
 have HR2:=Jh (And.intro (hr2.below k0) (hs2.below k0));have HPP:=Jh hp;have HQQ:=Jh hq;have HI1:=Jh (ints100_any A1 4 c1 M.words B1 4 d1 M'.words W0 (hr1.below k0).rd (hs1.below k0).rd (by omega) (by omega));obtain⟨wb,hwb⟩:=exE (decide (M.words=M'.words));rw[<-hwb] at HI1;have HWb:=Jh hwb;have HR3:=Jh (And.intro hr3 hs3);clear hm hm' hr1 hr2 hr3 hs1 hs2 hs3 hp hq s1 k1 k0 hX1 hW0 hwb
 obtain⟨p0',p1',p2',_⟩:=cells3 H2.o;obtain⟨r0,r1,r2,_⟩:=cells3 H3.o;go_enter Tryz.func70,Tryz.ntmps70;go_upto_region 1 with fail
 rw[<-hWW,<-hb2,<-hb3];clear hWW hb2 hb3;go_wp2_with fail;refine HI1.o.mono ?_;rintro e w2 ⟨rfl,hbw2⟩;have HB2:=Jh hbw2;have HI2:=Jh (ints100_any A3 4 c3 [-1,-1,-1,-1] B3 4 d3 [-1,-1,-1,-1] w2 (HR3.o.1.below (bT HB0.o hbw2)).rd (HR3.o.2.below (bT HB0.o hbw2)).rd (by omega) (by omega));rw[show decide (([-1,-1,-1,-1]:List Int)=[-1,-1,-1,-1])=true from rfl] at HI2;clear hbw2 p0' p1' p2' r0 r1 r2
 obtain⟨p0',p1',p2',_⟩:=cells3 (blk_below HB2.o H2.o);obtain⟨r0,r1,r2,_⟩:=cells3 (blk_below HB2.o H3.o);go_wp2_with fail;refine HI2.o.mono ?_;rintro e w3 ⟨rfl,hbw3⟩;have HB3:=Jh (bT HB2.o hbw3);clear hbw3 p0' p1' p2' r0 r1 r2;obtain⟨p0',p1',p2',_⟩:=cells3 (blk_below HB3.o H2.o);obtain⟨r0,r1,r2,_⟩:=cells3 (blk_below HB3.o H3.o);cases wb with
 |false=>go_wp2_with fail;go_ret;refine⟨⟨false,rfl,fun h=>(by cases h),fun h=>?_⟩,bT HB0.o HB3.o⟩;have h1:=HWb.o;rw[h] at h1;simp at h1
 |true=>
  have HWE:=Jh (show M.words=M'.words from by simpa using HWb.o.symm);go_wp2_with fail;go_loopw [7] (fun v wr=>∃i:Nat,i<=4/\v=.int .i64 i/\Below W0.heap.size W0 wr/\M.pend.take i=M'.pend.take i) (fun v _=>4-(intOf v).toNat);case atStart=>exact⟨0,by omega,rfl,HB3.o,rfl⟩
  case round=>
   obtain⟨i,hi,rfl,hbw,hsm⟩:=hrel;obtain⟨wo,rfl⟩:=exE wr;have HBW:=Jh hbw;have HSM:=Jh hsm;clear hbw hsm p0' p1' p2' r0 r1 r2;obtain⟨p0',p1',p2',_⟩:=cells3 (blk_below HBW.o H2.o);obtain⟨r0,r1,r2,_⟩:=cells3 (blk_below HBW.o H3.o);by_cases hlt:i<4
   ·have hlb:decide ((i:Int)<4)=true:=by simp;omega
    have hi4:(i:Int)<4:=by omega
    have hi0:decide ((i:Int)<0)=false:=by simp
    obtain⟨p,hp⟩:∃p,M.pend[i]?=some p:=⟨_,List.getElem?_eq_getElem (by rw[HM.o.ok.lp];exact hlt)⟩;obtain⟨q,hq⟩:∃q,M'.pend[i]?=some q:=⟨_,List.getElem?_eq_getElem (by rw[HM'.out.ok.lp];exact hlt)⟩;obtain⟨A4,c4,he4,_,hr4⟩:=HPP.o i p hp;obtain⟨B4,d4,hf4,_,hs4⟩:=HQQ.o i q hq;obtain⟨ga,oa,ua,hA2,hua,hca⟩:=(HR2.o.1.below HBW.o).rd.at1 hlt;obtain rfl:=Option.some.inj (he4.symm.trans hua)
    obtain⟨gb,ob,ub,hB2,hub,hcb⟩:=(HR2.o.2.below HBW.o).rd.at1 hlt;obtain rfl:=Option.some.inj (hf4.symm.trans hub);subst hA2 hB2;obtain⟨np,hnp⟩:=exE (p.length);obtain⟨nq',hnq⟩:∃k,k=q.length:=⟨_,rfl⟩;rw[<-hnp] at hca hr4;rw[<-hnq] at hcb hs4;have hnp8:np<=8:=hnp▸HM.o.ok.few p (List.mem_of_getElem? hp);have HP:=Jh (And.intro hp hq);have HNP:=Jh (And.intro hnp hnq)
    have HCA:=Jh (fun(wx:World) (hb:Below wo.heap.size wo wx)=>(hb.cell (cell_lt hca)).trans hca);have HCB:=Jh (fun(wx:World) (hb:Below wo.heap.size wo wx)=>(hb.cell (cell_lt hcb)).trans hcb);have HR4:=Jh (And.intro (hr4.below (bT HB0.o HBW.o)).rd (hs4.below (bT HB0.o HBW.o)).rd);clear hp hq he4 hf4 hua hub hnp hnq hr4 hs4;go_upto_region 8 with fail
    by_cases hnn:np=nq'
    ·subst hnn;have hb:((np:Int)==(np:Int))=true:=by simp
     go_quiet (fail)
     obtain⟨W6,hW6⟩:=exE (wo.drewN nq);rw[<-hW6];have HB6:=Jh (show Below wo.heap.size wo W6 from hW6▸bN (bR wo));clear hW6 hca hcb p0' p1' p2' r0 r1 r2;go_upto_region 11 with fail
     go_loopw [8] (fun v wr=>∃j:Nat,j<=np/\v=.int .i64 j/\Below wo.heap.size wo wr/\p.take j=q.take j) (fun v _=>np-(intOf v).toNat);case atStart=>exact⟨0,by omega,rfl,HB6.o,rfl⟩
     case round=>
      obtain⟨j,hj,rfl,hbj,hsj⟩:=hrel;obtain⟨wn,rfl⟩:=exE wr;have HBJ:=Jh hbj;have HSJ:=Jh hsj;clear hbj hsj;obtain⟨p0',p1',p2',_⟩:=cells3 (blk_below (bT HBW.o HBJ.o) H2.o);obtain⟨r0,r1,r2,_⟩:=cells3 (blk_below (bT HBW.o HBJ.o) H3.o);have hca:=HCA.o wn HBJ.o;have hcb:=HCB.o wn HBJ.o;by_cases hlj:j<np
      ·have hljb:decide ((j:Int)<(np:Int))=true:=by simp;omega
       have hljb2:decide (j<np)=true:=by simpa using hlj
       have hj0:decide ((j:Int)<0)=false:=by simp
       have hjn:(j:Int)<(np:Int):=by omega
       obtain⟨ge,oe,x,rfl,hx,hx1,hx2⟩:=(HR4.o.1.below HBJ.o).ent HNP.o.1 hlj;obtain⟨gf,of,y,rfl,hy,hy1,hy2⟩:=(HR4.o.2.below HBJ.o).ent HNP.o.2 hlj;have HXY:=Jh (And.intro hx hy);obtain⟨xa,hxa⟩:=exE (x.1);obtain⟨xn,hxn⟩:=exE (x.2);obtain⟨ya,hya⟩:=exE (y.1);obtain⟨yn,hyn⟩:=exE (y.2);rw[<-hxa] at hx1;rw[<-hxn] at hx2;rw[<-hya] at hy1;rw[<-hyn] at hy2
       have HXE:=Jh (show x=(xa,xn)/\y=(ya,yn) from⟨by rw[hxa,hxn],by rw[hya,hyn]⟩);clear hx hy hxa hxn hya hyn;go_upto_region 13 with fail
       by_cases hab:xa=ya/\xn=yn
       ·obtain⟨e1,e2⟩:=hab;have hb1:(xa==ya)=true:=by simpa using e1
        have hb2:(xn==yn)=true:=by simpa using e2
        have HS1:=Jh (take_same HXY.o.1 HXY.o.2 HSJ.o (by rw[HXE.o.1,HXE.o.2,e1,e2]));go_quiet (fail)
        obtain⟨W6,hW6⟩:=exE (wn.drewN nq);rw[<-hW6];have HB6:=Jh (show Below wn.heap.size wn W6 from hW6▸bN (bR wn));clear hW6 hca hcb p0' p1' p2' r0 r1 r2 hx1 hx2 hy1 hy2 e1 e2;go_wp2_with fail;go_roundw;case rel=>exact⟨j+1,by omega,by go_num,bT HBJ.o HB6.o,HS1.o⟩
        case measure=>simp[intOf];omega
       by_cases h1:xa=ya
       ·have h2:¬xn=yn:=fun h=>hab ⟨h1,h⟩;have hb1:(xa==ya)=true:=by simpa using h1
        have hb2:(xn==yn)=false:=by simpa using h2
        have HN:=Jh (show¬M=M' from fun h=>hab (by have h1:=HP.o.1;rw[h,HP.o.2] at h1;have h2:=HXY.o.2;rw[Option.some.inj h1,HXY.o.1,HXE.o.1,HXE.o.2] at h2;simpa using h2));go_quiet (fail)
        obtain⟨W6,hW6⟩:=exE (wn.drewN nq);rw[<-hW6];have HB6:=Jh (show Below wn.heap.size wn W6 from hW6▸bN (bR wn));clear hW6 hca hcb p0' p1' p2' r0 r1 r2 hx1 hx2 hy1 hy2;go_wp2_with fail;go_ret;exact⟨⟨false,rfl,fun h=>(by cases h),fun h=>absurd h HN.o⟩,bT HB0.o (bT HBW.o (bT HBJ.o HB6.o))⟩
       have hb1:(xa==ya)=false:=by simpa using h1
       have HN:=Jh (show¬M=M' from fun h=>hab (by have h1:=HP.o.1;rw[h,HP.o.2] at h1;have h2:=HXY.o.2;rw[Option.some.inj h1,HXY.o.1,HXE.o.1,HXE.o.2] at h2;simpa using h2));go_quiet (fail)
       obtain⟨W6,hW6⟩:=exE (wn.drewN nq);rw[<-hW6];have HB6:=Jh (show Below wn.heap.size wn W6 from hW6▸bN (bR wn));clear hW6 hca hcb p0' p1' p2' r0 r1 r2 hx1 hx2 hy1 hy2;go_wp2_with fail;go_ret;exact⟨⟨false,rfl,fun h=>(by cases h),fun h=>absurd h HN.o⟩,bT HB0.o (bT HBW.o (bT HBJ.o HB6.o))⟩
      have hljb:decide ((j:Int)<(np:Int))=false:=by simp;omega
      have hljb2:decide (j<np)=false:=by simpa using hlj
      have HE:=Jh (take_same HP.o.1 HP.o.2 HSM.o (take_end HSJ.o (by have:=HNP.o.1;omega) (by have:=HNP.o.2;omega)));go_wp2_with fail;go_roundw;case rel=>exact⟨i+1,by omega,by go_num,bT HBW.o HBJ.o,HE.o⟩
      case measure=>simp[intOf];omega
    have hb:((np:Int)==(nq':Int))=false:=by simp;omega
    have hb2:(np==nq')=false:=by simpa using hnn
    have HN:=Jh (show¬M=M' from fun h=>hnn (by have h1:=HP.o.1;rw[h,HP.o.2] at h1;rw[HNP.o.1,HNP.o.2,Option.some.inj h1]));go_quiet (fail)
    obtain⟨W6,hW6⟩:=exE (wo.drewN nq);rw[<-hW6];have HB6:=Jh (show Below wo.heap.size wo W6 from hW6▸bN (bR wo));clear hW6 hca hcb p0' p1' p2' r0 r1 r2;go_wp2_with fail;go_ret;exact⟨⟨false,rfl,fun h=>(by cases h),fun h=>absurd h HN.o⟩,bT HB0.o (bT HBW.o HB6.o)⟩
   have hlb:decide ((i:Int)<4)=false:=by simp;omega
   have HE:=Jh (show M=M' from by have h1:=take_end HSM.o (by have:=HM.o.ok.lp;omega) (by have:=HM'.out.ok.lp;omega);have h2:=HWE.o;cases M;cases M';simp only at h1 h2;rw[h1,h2]);go_wp2_with fail;go_ret;exact⟨⟨true,rfl,fun _=>HE.o,fun _=>rfl⟩,bT HB0.o HBW.o⟩
end Go.Proofs.YtnigadeohmlpiaaGreatDoor
namespace Go.Proofs.YtnigadeohmlpiaaGreatDoor
open Go.RowKit
attribute [local go_sem] Oper.semAt_some
theorem same43_any(n:Nat)(v:Value)(s:St)(u:Value)(s':St)(w:World)(hs:IsSt w v n s)(hs':IsSt w u n s')(hn:n<=6):
  Calls Tryz.prog 43 #[v,u] w fun e w'=>(∃b,e=.returned (.bool b)/\(b=true↔s=s'))/\Below w.heap.size w w':=by
 have HOk:=Jh (And.intro hs.ok hs'.ok);obtain⟨v1,v2,v3,AD,cD,AT,cT,rfl,him,hrd,hrt,_,_⟩:=hs.is;obtain⟨A1,c1,rfl,_⟩:=him.ws;obtain⟨A2,c2,pv,rfl,_,_⟩:=him.ps;obtain⟨A3,c3,rfl,_⟩:=him.rs;obtain⟨u1,u2,u3,BD,dD,BT,dT,rfl,him',hrd',hrt',_,_⟩:=hs'.is;obtain⟨B1,d1,rfl,_⟩:=him'.ws;obtain⟨B2,d2,pu,rfl,_,_⟩:=him'.ps;obtain⟨B3,d3,rfl,_⟩:=him'.rs;obtain⟨b2,hb2⟩:=exE (w.heap.size);obtain⟨b3,hb3⟩:=exE (b2+1)
 obtain⟨X1,hX1⟩:=exE (w.alloc (.cells #[.slice A1 4 c1,.slice A2 4 c2,.slice A3 4 c3,.slice AD n cD,.slice AT n cT] 62));obtain⟨W0,hW0⟩:=exE (X1.alloc (.cells #[.slice B1 4 d1,.slice B2 4 d2,.slice B3 4 d3,.slice BD n dD,.slice BT n dT] 62));have s1:X1.heap.size=b2+1:=by rw[hX1,World.size_alloc,hb2]
 have k1:Below X1.heap.size X1 W0:=hW0▸bA (bR X1);have k0:Below w.heap.size w W0:=bT (hX1▸bA (bR w)) k1;have HB0:=Jh k0;have H2:=Jh (show W0.heap[b2]?=some (.cells #[.slice A1 4 c1,.slice A2 4 c2,.slice A3 4 c3,.slice AD n cD,.slice AT n cT] 62) from blk_below k1 (by rw[hX1,hb2];exact heap_alloc_new w _))
 have H3:=Jh (show W0.heap[b3]?=some (.cells #[.slice B1 4 d1,.slice B2 4 d2,.slice B3 4 d3,.slice BD n dD,.slice BT n dT] 62) by rw[hW0,hb3,<-s1];exact heap_alloc_new X1 _);have hWW:W0=(w.alloc (.cells #[.slice A1 4 c1,.slice A2 4 c2,.slice A3 4 c3,.slice AD n cD,.slice AT n cT] 62)).alloc (.cells #[.slice B1 4 d1,.slice B2 4 d2,.slice B3 4 d3,.slice BD n dD,.slice BT n dT] 62):=by rw[hW0,hX1]
 have HD:=Jh (And.intro (hrd.below k0) (hrd'.below k0));have HT:=Jh (And.intro (hrt.below k0) (hrt'.below k0));have HM:=Jh (And.intro (him.sees (Below.sees k0)) (him'.sees (Below.sees k0)));clear hs hs' him him' hrd hrd' hrt hrt' s1 k1 k0 hX1 hW0;go_enter Tryz.func43,Tryz.ntmps43;go_upto_region 2 with fail
 rw[<-hWW,<-hb2,<-hb3];clear hWW hb2 hb3;go_loopw [5] (fun x wr=>∃k:Nat,k<=n/\x=.int .i64 k/\Below W0.heap.size W0 wr/\s.done.take k=s'.done.take k/\s.told.take k=s'.told.take k) (fun x _=>n-(intOf x).toNat);case atStart=>exact⟨0,Nat.zero_le _,rfl,bR W0,rfl,rfl⟩
 case round=>
  obtain⟨k,hk,rfl,hbw,hsd,hst⟩:=hrel;obtain⟨wo,rfl⟩:=exE wr;have HBW:=Jh hbw;have HSD:=Jh hsd;have HST:=Jh hst;clear hbw hsd hst;obtain⟨p0,p1,p2,p3,p4,_⟩:=cells5 (blk_below HBW.o H2.o);obtain⟨r0,r1,r2,r3,r4,_⟩:=cells5 (blk_below HBW.o H3.o);by_cases hlt:k<n
  ·have hlb:decide ((k:Int)<(n:Int))=true:=by simp;omega
   have hlb2:decide (k<n)=true:=by simpa using hlt
   have hkn:(k:Int)<(n:Int):=by omega
   have hk0:decide ((k:Int)<0)=false:=by simp
   obtain⟨g1,o1,x,rfl,hx,hcx⟩:=(HD.o.1.below HBW.o).bool hlt;obtain⟨g2,o2,y,rfl,hy,hcy⟩:=(HD.o.2.below HBW.o).bool hlt;obtain⟨g3,o3,z,rfl,hz,hcz⟩:=(HT.o.1.below HBW.o).rd.int hlt;obtain⟨g4,o4,t,rfl,ht,hct⟩:=(HT.o.2.below HBW.o).rd.int hlt;have HXY:=Jh (And.intro (And.intro hx hy) (And.intro hz ht));clear hx hy hz ht;go_upto_region 4 with fail
   by_cases hxy:x=y
   ·have hb1:(x==y)=true:=by simpa using hxy
    by_cases hzt:z=t
    ·have hb2:(z==t)=true:=by simpa using hzt
     have HS1:=Jh (And.intro (take_same HXY.o.1.1 HXY.o.1.2 HSD.o hxy) (take_same HXY.o.2.1 HXY.o.2.2 HST.o hzt));go_quiet (fail)
     obtain⟨W6,hW6⟩:=exE (wo.drewN nq);rw[<-hW6];have HB6:=Jh (show Below wo.heap.size wo W6 from hW6▸bN (bR wo));clear hW6 hcx hcy hcz hct p0 p1 p2 p3 p4 r0 r1 r2 r3 r4;go_wp2_with fail;go_roundw;case rel=>exact⟨k+1,by omega,by go_num,bT HBW.o HB6.o,HS1.o⟩
     case measure=>simp[intOf];omega
    have hb2:(z==t)=false:=by simpa using hzt
    have HN:=Jh (show¬s=s' from fun h=>hzt (by have h1:=HXY.o.2.1;rw[h,HXY.o.2.2] at h1;exact(Option.some.inj h1).symm));go_quiet (fail)
    obtain⟨W6,hW6⟩:=exE (wo.drewN nq);rw[<-hW6];have HB6:=Jh (show Below wo.heap.size wo W6 from hW6▸bN (bR wo));clear hW6 hcx hcy hcz hct p0 p1 p2 p3 p4 r0 r1 r2 r3 r4;go_wp2_with fail;go_ret;exact⟨⟨false,rfl,fun h=>(by cases h),fun h=>absurd h HN.o⟩,bT HB0.o (bT HBW.o HB6.o)⟩
   have hb1:(x==y)=false:=by simpa using hxy
   have HN:=Jh (show¬s=s' from fun h=>hxy (by have h1:=HXY.o.1.1;rw[h,HXY.o.1.2] at h1;exact(Option.some.inj h1).symm));go_quiet (fail)
   obtain⟨W6,hW6⟩:=exE (wo.drewN nq);rw[<-hW6];have HB6:=Jh (show Below wo.heap.size wo W6 from hW6▸bN (bR wo));clear hW6 hcx hcy hcz hct p0 p1 p2 p3 p4 r0 r1 r2 r3 r4;go_wp2_with fail;go_ret;exact⟨⟨false,rfl,fun h=>(by cases h),fun h=>absurd h HN.o⟩,bT HB0.o (bT HBW.o HB6.o)⟩
  have hlb:decide ((k:Int)<(n:Int))=false:=by simp;omega
  have hlb2:decide (k<n)=false:=by simpa using hlt
  have HE:=Jh (show s.done=s'.done/\s.told=s'.told from⟨take_end HSD.o (by have:=HOk.o.1.d;omega) (by have:=HOk.o.2.d;omega),take_end HST.o (by have:=HOk.o.1.t;omega) (by have:=HOk.o.2.t;omega)⟩);have HSm:=Jh (same70_any _ _ _ s.m _ _ _ s'.m wo (HM.o.1.sees (Below.sees HBW.o)) (HM.o.2.sees (Below.sees HBW.o)));go_wp2_with fail;refine HSm.o.mono ?_;rintro e w9 ⟨⟨b,rfl,hb⟩,hb9⟩
  have HB9:=Jh (bT HB0.o (bT HBW.o hb9));have HBb:=Jh (show b=true↔s=s' from hb.trans ⟨fun h=>by obtain⟨h1,h2⟩:=HE.o;cases s;cases s';simp only at h h1 h2;rw[h,h1,h2],fun h=>by rw[h]⟩);clear hb hb9;go_wp2_with fail;go_ret;exact⟨⟨b,rfl,HBb.o⟩,HB9.o⟩
end Go.Proofs.YtnigadeohmlpiaaGreatDoor
