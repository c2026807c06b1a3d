/- Contracts: what a script plays, by the document's answer and by the program, whatever the events are. Their condition: where the events and the script stand. -/
import Derived.Test.YtnigadeohmlpiaaGreatDoorC46
set_option maxHeartbeats 32000000
set_option maxRecDepth 100000
namespace Go.Proofs.YtnigadeohmlpiaaGreatDoor
open Go.RowKit
attribute [local go_sem] Oper.semAt_some
open Classical in
noncomputable def playQ (l:List Ev) (xs:List Pk):Option (List Int):=if Prog l then playP l xs else none
theorem playQ_no{l:List Ev}(h:¬Prog l)(xs:List Pk):playQ l xs=none:=if_neg h
theorem playQ_yes{l:List Ev}(h:Prog l)(xs:List Pk):playQ l xs=playP l xs:=if_pos h
theorem run_take{l:List Ev}{s s':St}{xs:List Pk}{k:Nat}{x:Pk}(hx:xs[k]?=some x)(h:s.run l (xs.take k)=some s'):s.run l (xs.take (k+1))=s'.next l x:=by rw[List.take_add_one,hx];show s.run l (xs.take k++[x])=_;rw[run_snoc,h];rfl
theorem run_stop{l:List Ev}{s s':St}{xs:List Pk}{k:Nat}{x:Pk}(hx:xs[k]?=some x)(h:s.run l (xs.take k)=some s')(hn:s'.next l x=none):s.run l xs=none:=by have h1:=run_take hx h;rw[hn] at h1;rw[<-List.take_append_drop (k+1) xs];exact run_none l s _ _ h1
theorem play14_all(A:Option Addr)(n c:Nat)(l:List Ev)(B:Option Addr)(m d:Nat)(xs:List Pk)(w:World)(he:IsEvs w A n c l)(hx:IsPks w B m d xs)(hm:m<=1000000)(hn:n<=1000000):
  Calls Tryz.prog 14 #[.slice A n c,.slice B m d] w fun e w'=>OutIs w.heap.size (playQ l xs) e w'/\Below w.heap.size w w':=by
 by_cases hl:Prog l
 ·rw[playQ_yes hl];exact play_any A n c l B m d xs w he hl hx hm
 have HR:=Jh (right17_any A n c l w he hn);have HP:=Jh (playQ_no hl xs);have HN:=Jh hl;clear hl;go_enter Tryz.func14,Tryz.ntmps14;go_wp2_with fail;refine HR.o.mono ?_;rintro o w2 ⟨⟨b,rfl,hb⟩,hb2⟩;have HB:=Jh hb2;obtain rfl:b=false:=by
  cases b with
  |false=>rfl
  |true=>exact absurd (hb.1 rfl) HN.o
 clear hb hb2;go_wp2_with fail;exact bodyPost_ret (results_tmp2 rfl _ _ _) rfl ⟨by rw[HP.o];rfl,HB.o⟩
theorem play15_any(A:Option Addr)(n c:Nat)(pl:List Ev)(B:Option Addr)(m d:Nat)(xs:List Pk)(w:World)(he:IsEvs w A n c pl)(hx:IsPks w B m d xs)(hm:m<=1000000)(hn:n<=1000000):
  Calls Tryz.prog 15 #[.slice A n c,.slice B m d] w fun e w'=>OutIs w.heap.size (playQ pl xs) e w'/\Below w.heap.size w w':=by
 have HR:=Jh (right18_any A n c pl w he hn);have HE:=Jh he;have HX:=Jh hx;by_cases hl:Prog pl
 ·have HP:=Jh hl;have HPQ:=Jh (playQ_yes hl xs);have hn6:n<=6:=he.len▸hl.few;clear hl he hx;go_enter Tryz.func15,Tryz.ntmps15;go_wp2_with fail;refine HR.o.mono ?_;rintro o w1 ⟨⟨b,rfl,hb⟩,hb1⟩;have HB1:=Jh hb1;obtain rfl:b=true:=hb.2 HP.o;have HSt:=Jh (start28_any A n c w1 hn6);clear hb hb1;go_wp2_with fail;refine HSt.o.mono ?_;rintro e w2 ⟨⟨v0,rfl,hs0⟩,hb2⟩
  obtain⟨A1,c1,A2,c2,A3,c3,AD,cD,AT,cT,rfl⟩:=hs0.form;obtain⟨b7,hb7⟩:=exE (w2.heap.size);obtain⟨W3,hW3⟩:=exE (w2.alloc (.cells #[.slice A1 4 c1,.slice A2 4 c2,.slice A3 4 c3,.slice AD n cD,.slice AT n cT] 62));have k3:Below w2.heap.size w2 W3:=hW3▸bA (bR w2);have HB3:=Jh (bT HB1.o (bT hb2 k3))
  have H73:=Jh (show W3.heap[b7]?=some (.cells #[.slice A1 4 c1,.slice A2 4 c2,.slice A3 4 c3,.slice AD n cD,.slice AT n cT] 62) by rw[hW3,hb7];exact heap_alloc_new w2 _);have HS3:=Jh (hs0.sees (Below.sees k3));have HLb:=Jh (show w.heap.size<=b7 from by rw[hb7];exact(bT HB1.o hb2).size);clear k3 hb2 hs0;go_upto_region 6 with fail
  rw[<-hW3,<-hb7];clear hW3 hb7;go_loopw [8] (fun vi wr=>∃(k:Nat) (s:St) (x1 x2 x3 x4 x5:Value),k<=m/\vi=.int .i64 k/\Below w.heap.size w wr/\wr.heap[b7]?=some (.cells #[x1,x2,x3,x4,x5] 62)/\IsSt wr (.agg #[x1,x2,x3,x4,x5]) n s/\(St.first n).run pl (xs.take k)=some s) (fun vi _=>m-(intOf vi).toNat)
  case atStart=>exact⟨0,St.first n,_,_,_,_,_,Nat.zero_le _,rfl,HB3.o,H73.o,HS3.o,rfl⟩
  case round=>
   obtain⟨k,s,x1,x2,x3,x4,x5,hk,rfl,hbw,h7,hst,hrun⟩:=hrel;obtain⟨wo,rfl⟩:=exE wr;have HBW:=Jh hbw;have H7:=Jh h7;have HST:=Jh hst;have HRU:=Jh hrun;clear hbw h7 hst hrun;by_cases hlt:k<m
   ·have hlb:decide ((k:Int)<(m:Int))=true:=by simp;omega
    have hlb2:decide (k<m)=true:=by simpa using hlt
    have hkm:(k:Int)<(m:Int):=by omega
    have hk0:decide ((k:Int)<0)=false:=by simp
    obtain⟨gp,op,x,rfl,hxk,hc0,hc1,hc2⟩:=(HX.o.below HBW.o).at_ hlt;obtain⟨xh,hxh⟩:=exE (x.h);obtain⟨xd,hxd⟩:=exE (x.d);obtain⟨xw,hxw⟩:=exE (x.w);rw[<-hxh] at hc0;rw[<-hxd] at hc1;rw[<-hxw] at hc2;have HPv:=Jh (show pickV x=.agg #[.int .i64 xh,.bool xd,.int .i64 xw] from by rw[hxh,hxd,hxw];rfl);have HXK:=Jh hxk;have HCl:=Jh (And.intro hc0 (And.intro hc1 hc2));obtain⟨qb,hqb⟩:=exE ((s.next pl x).isSome)
    have HQb:=Jh hqb;have HEo:=Jh (HE.o.sees (Below.sees HBW.o));clear hxh hxd hxw hxk hqb hc0 hc1 hc2;go_upto_region 8 with fail
    have hq:∀(k9:Nat) (l:Nat->Bool) (wx:World),Below wo.heap.size wo wx->Below wo.heap.size wo wx:=fun _ _ _ h=>h;have rr:∀{T:List TypeId} (wx:World),Tk T wx wx:=fun wx=>Tk.refl _ wx;have nt:∀(i e:Nat),e≠62->e∉(if i=11 then[62] else[]:List TypeId):=fun i e h=>by
     split
     ·simpa using h
     simp
    refine wp_region_det (by kernel_rfl) (fun f=>(⟨#[Value.slice A n c,Value.slice (some ⟨gp,op,none⟩) m d,undef,undef,u4,u5,Value.bool true,Value.pointer (some ⟨b7,0,none⟩),.int .i64 (k:Int),f 10,f 12,undef,Value.slice A n c,Value.bool true,Value.bool true,Value.bool false,Value.slice A n c,Value.agg #[Value.slice A1 4 c1,Value.slice A2 4 c2,Value.slice A3 4 c3,Value.slice AD n cD,Value.slice AT n cT],.int .i64 (k:Int),Value.slice (some ⟨gp,op,none⟩) m d,.int .i64 (m:Int),Value.bool true,u22,u23,f 7,f 0,f 1,f 2,f 3,f 4,f 5,f 6,f 8,f 9,u34,u35,u36,undef,undef,undef,undef,undef,undef,undef],[]⟩:Act)) (fun(iv:Nat) (lv:Nat->Bool) (fv:Nat->Value) (wx:World)=>match iv with|0=>fv 0=.slice A n c|1=>fv 1=.agg #[x1,x2,x3,x4,x5]|2=>fv 2=.slice (some ⟨gp,op,none⟩) m d|3=>fv 3=.int .i64 (k:Int)|4=>fv 4=.pointer (some ⟨gp,op+k*3,none⟩)|5=>fv 5=.agg #[.int .i64 xh,.bool xd,.int .i64 xw]|6=>∃ga1 gm1 gd1 ga2 gm2 gd2 ga3 gm3 gd3 ga4 gm4 gd4 ga5 gm5 gd5,(fv 6)=.tuple #[.agg #[.slice ga1 gm1 gd1,.slice ga2 gm2 gd2,.slice ga3 gm3 gd3,.slice ga4 gm4 gd4,.slice ga5 gm5 gd5],.bool qb]/\(∀s',s.next pl x=some s'->IsSt wx (.agg #[.slice ga1 gm1 gd1,.slice ga2 gm2 gd2,.slice ga3 gm3 gd3,.slice ga4 gm4 gd4,.slice ga5 gm5 gd5]) n s')|7=>∃y,(fv 7)=.tuple #[y,.bool qb]/\(fv 6)=.tuple #[y,.bool qb]|8=>∃y,(fv 7)=.tuple #[y,.bool qb]/\(fv 8)=y|9=>fv 9=.bool qb|10=>∃g,(fv 10)=.pointer (some ⟨g,0,none⟩)/\wo.heap.size<=g/\((lv 11)=false->∃x y z u v,wx.heap[g]?=some (.cells #[x,y,z,u,v] 62))|11=>∃g ga1 gm1 gd1 ga2 gm2 gd2 ga3 gm3 gd3 ga4 gm4 gd4 ga5 gm5 gd5,(fv 10)=.pointer (some ⟨g,0,none⟩)/\wo.heap.size<=g/\(fv 8)=.agg #[.slice ga1 gm1 gd1,.slice ga2 gm2 gd2,.slice ga3 gm3 gd3,.slice ga4 gm4 gd4,.slice ga5 gm5 gd5]/\wx.heap[g]?=some (.cells #[.slice ga1 gm1 gd1,.slice ga2 gm2 gd2,.slice ga3 gm3 gd3,.slice ga4 gm4 gd4,.slice ga5 gm5 gd5] 62)/\(∀s',s.next pl x=some s'->IsSt wx (.agg #[.slice ga1 gm1 gd1,.slice ga2 gm2 gd2,.slice ga3 gm3 gd3,.slice ga4 gm4 gd4,.slice ga5 gm5 gd5]) n s')|12=>fv 12=.bool qb|_=>True) (fun _ wx=>Below wo.heap.size wo wx) (fun i w1 w2=>Tk (if i=11 then[62] else[]) w1 w2) (by kernel_rfl) (fun k=>match k with|0=>u25|1=>u26|2=>u27|3=>u28|4=>u29|5=>u30|6=>u31|7=>u24|8=>u32|9=>u33|10=>u9|12=>u10|_=>undef) rfl ?keep (bD (bR wo)) ?steps ?fin
    case keep=>
     intro iv j hij hd l f f' w1 w2 hf hR
     match j with
     |0|1|2|3|4|5|9|12=>exact fun h=>(hf _ (Ne.symm hij)).trans h
     |6=>
      intro h;have h:∃ga1 gm1 gd1 ga2 gm2 gd2 ga3 gm3 gd3 ga4 gm4 gd4 ga5 gm5 gd5,(f 6)=.tuple #[.agg #[.slice ga1 gm1 gd1,.slice ga2 gm2 gd2,.slice ga3 gm3 gd3,.slice ga4 gm4 gd4,.slice ga5 gm5 gd5],.bool qb]/\(∀s',s.next pl x=some s'->IsSt w1 (.agg #[.slice ga1 gm1 gd1,.slice ga2 gm2 gd2,.slice ga3 gm3 gd3,.slice ga4 gm4 gd4,.slice ga5 gm5 gd5]) n s'):=h
      show∃ga1 gm1 gd1 ga2 gm2 gd2 ga3 gm3 gd3 ga4 gm4 gd4 ga5 gm5 gd5,(f' 6)=.tuple #[.agg #[.slice ga1 gm1 gd1,.slice ga2 gm2 gd2,.slice ga3 gm3 gd3,.slice ga4 gm4 gd4,.slice ga5 gm5 gd5],.bool qb]/\(∀s',s.next pl x=some s'->IsSt w2 (.agg #[.slice ga1 gm1 gd1,.slice ga2 gm2 gd2,.slice ga3 gm3 gd3,.slice ga4 gm4 gd4,.slice ga5 gm5 gd5]) n s')
      rw[hf 6 (Ne.symm hij)]
      exact h.elim fun ga1 h=>h.elim fun gm1 h=>h.elim fun gd1 h=>h.elim fun ga2 h=>h.elim fun gm2 h=>h.elim fun gd2 h=>h.elim fun ga3 h=>h.elim fun gm3 h=>h.elim fun gd3 h=>h.elim fun ga4 h=>h.elim fun gm4 h=>h.elim fun gd4 h=>h.elim fun ga5 h=>h.elim fun gm5 h=>h.elim fun gd5 h=>⟨ga1,gm1,gd1,ga2,gm2,gd2,ga3,gm3,gd3,ga4,gm4,gd4,ga5,gm5,gd5,h.1,fun s' hs=>(h.2 s' hs).tk hR (nt _ 3 (by decide)) (nt _ 87 (by decide)) (nt _ 128 (by decide)) (nt _ 4 (by decide))⟩
     |7=>intro h;have h:∃y,(f 7)=.tuple #[y,.bool qb]/\(f 6)=.tuple #[y,.bool qb]:=h;show∃y,(f' 7)=.tuple #[y,.bool qb]/\(f' 6)=.tuple #[y,.bool qb];rw[hf 7 (Ne.symm hij),hf 6 (fun e=>hd (e▸of_decide_eq_true (by kernel_rfl)))];exact h
     |8=>intro h;have h:∃y,(f 7)=.tuple #[y,.bool qb]/\(f 8)=y:=h;show∃y,(f' 7)=.tuple #[y,.bool qb]/\(f' 8)=y;rw[hf 8 (Ne.symm hij),hf 7 (fun e=>hd (e▸of_decide_eq_true (by kernel_rfl)))];exact h
     |10=>
      intro h;have h:∃g,(f 10)=.pointer (some ⟨g,0,none⟩)/\wo.heap.size<=g/\((l 11)=false->∃x y z u v,w1.heap[g]?=some (.cells #[x,y,z,u,v] 62)):=h;show∃g,(f' 10)=.pointer (some ⟨g,0,none⟩)/\wo.heap.size<=g/\((decide (11=iv)||l 11)=false->∃x y z u v,w2.heap[g]?=some (.cells #[x,y,z,u,v] 62));rw[hf 10 (Ne.symm hij)]
      exact h.elim fun g h=>⟨g,h.1,h.2.1,fun hl=>(h.2.2 (Bool.or_eq_false_iff.1 hl).2).elim fun x h=>h.elim fun y h=>h.elim fun z h=>h.elim fun u h=>h.elim fun v h=>⟨x,y,z,u,v,Tk.at_ hR (by rw[if_neg (fun e=>absurd e.symm (of_decide_eq_false (Bool.or_eq_false_iff.1 hl).1))];exact List.not_mem_nil) h⟩⟩
     |11=>
      intro h
      have h:∃g ga1 gm1 gd1 ga2 gm2 gd2 ga3 gm3 gd3 ga4 gm4 gd4 ga5 gm5 gd5,(f 10)=.pointer (some ⟨g,0,none⟩)/\wo.heap.size<=g/\(f 8)=.agg #[.slice ga1 gm1 gd1,.slice ga2 gm2 gd2,.slice ga3 gm3 gd3,.slice ga4 gm4 gd4,.slice ga5 gm5 gd5]/\w1.heap[g]?=some (.cells #[.slice ga1 gm1 gd1,.slice ga2 gm2 gd2,.slice ga3 gm3 gd3,.slice ga4 gm4 gd4,.slice ga5 gm5 gd5] 62)/\(∀s',s.next pl x=some s'->IsSt w1 (.agg #[.slice ga1 gm1 gd1,.slice ga2 gm2 gd2,.slice ga3 gm3 gd3,.slice ga4 gm4 gd4,.slice ga5 gm5 gd5]) n s'):=h
      show∃g ga1 gm1 gd1 ga2 gm2 gd2 ga3 gm3 gd3 ga4 gm4 gd4 ga5 gm5 gd5,(f' 10)=.pointer (some ⟨g,0,none⟩)/\wo.heap.size<=g/\(f' 8)=.agg #[.slice ga1 gm1 gd1,.slice ga2 gm2 gd2,.slice ga3 gm3 gd3,.slice ga4 gm4 gd4,.slice ga5 gm5 gd5]/\w2.heap[g]?=some (.cells #[.slice ga1 gm1 gd1,.slice ga2 gm2 gd2,.slice ga3 gm3 gd3,.slice ga4 gm4 gd4,.slice ga5 gm5 gd5] 62)/\(∀s',s.next pl x=some s'->IsSt w2 (.agg #[.slice ga1 gm1 gd1,.slice ga2 gm2 gd2,.slice ga3 gm3 gd3,.slice ga4 gm4 gd4,.slice ga5 gm5 gd5]) n s')
      rw[hf 8 (fun e=>hd (e▸of_decide_eq_true (by kernel_rfl))),hf 10 (fun e=>hd (e▸of_decide_eq_true (by kernel_rfl)))]
      exact h.elim fun g h=>h.elim fun ga1 h=>h.elim fun gm1 h=>h.elim fun gd1 h=>h.elim fun ga2 h=>h.elim fun gm2 h=>h.elim fun gd2 h=>h.elim fun ga3 h=>h.elim fun gm3 h=>h.elim fun gd3 h=>h.elim fun ga4 h=>h.elim fun gm4 h=>h.elim fun gd4 h=>h.elim fun ga5 h=>h.elim fun gm5 h=>h.elim fun gd5 h=>⟨g,ga1,gm1,gd1,ga2,gm2,gd2,ga3,gm3,gd3,ga4,gm4,gd4,ga5,gm5,gd5,h.1,h.2.1,h.2.2.1,Tk.at_ hR (by rw[if_neg (fun e=>hij e)];exact List.not_mem_nil) h.2.2.2.1,fun s' hs=>(h.2.2.2.2 s' hs).tk hR (nt _ 3 (by decide)) (nt _ 87 (by decide)) (nt _ 128 (by decide)) (nt _ 4 (by decide))⟩
     |_+13=>exact id
    case steps=>
     refine fun iv hiv=>stepsOf_at (k:=0) (n:=13) ?_ iv (Nat.zero_le _) (by rw[Nat.zero_add];exact hiv);refine sD 0 12 aT0 [] (fun f wq l hl hun hdn hS hd K' HK=>?_) ?_
     ·clear hd;go_simp;exact HK.o _ _ _ rfl rfl (hq 0 l _ hS) (rr _)
     refine sD 1 11 aT1 [] (fun f wq l hl hun hdn hS hd K' HK=>?_) ?_
     ·clear hd;obtain⟨r0,r1,r2,r3,r4,_⟩:=cells5 (blk_below hS H7.o);go_simp;exact HK.o _ _ _ rfl rfl (hq 1 l _ hS) (rr _)
     refine sD 2 10 aT2 [] (fun f wq l hl hun hdn hS hd K' HK=>?_) ?_
     ·clear hd;go_simp;exact HK.o _ _ _ rfl rfl (hq 2 l _ hS) (rr _)
     refine sD 3 9 aT3 [] (fun f wq l hl hun hdn hS hd K' HK=>?_) ?_
     ·clear hd;go_simp;exact HK.o _ _ _ rfl rfl (hq 3 l _ hS) (rr _)
     refine sD 4 8 aT4 [2,3] (fun f wq l hl hun hdn hS hd K' HK=>?_) ?_
     ·obtain⟨e2,e3,-⟩:=hd;have e2:f 2=_:=e2;have e3:f 3=_:=e3;simp only[e2,e3];go_simp;exact HK.o _ _ _ (by simp only[e2,e3];rfl) rfl (hq 4 l _ hS) (rr _)
     refine sD 5 7 aT5 [4] (fun f wq l hl hun hdn hS hd K' HK=>?_) ?_
     ·obtain⟨e4,-⟩:=hd;have e4:f 4=_:=e4;have r0:=(hS.cell (cell_lt HCl.o.1)).trans HCl.o.1;have r1:=(hS.cell (cell_lt HCl.o.2.1)).trans HCl.o.2.1;have r2:=(hS.cell (cell_lt HCl.o.2.2)).trans HCl.o.2.2;simp only[e4];go_simp;exact HK.o _ _ _ (by simp only[e4];rfl) rfl (hq 5 l _ hS) (rr _)
     refine sD 6 6 aT6 [0,1,5] (fun f wq l hl hun hdn hS hd K' HK=>?_) ?_
     ·obtain⟨e0,e1,e5,-⟩:=hd;have e0:f 0=_:=e0;have e1:f 1=_:=e1;have e5:f 5=_:=e5;have HCz:=Jh (next30_any A n c pl (.agg #[x1,x2,x3,x4,x5]) s x wq HP.o (HEo.o.sees (Below.sees hS)) (HST.o.sees (Below.sees hS)));rw[HPv.o] at HCz;have HS:=Jh hS;clear hS;simp only[e0,e1,e5];go_simp;go_wp2_with fail;refine HCz.o.mono ?_;rintro e w9 ⟨hnx,hb9⟩
      obtain⟨ga1,gm1,gd1,ga2,gm2,gd2,ga3,gm3,gd3,ga4,gm4,gd4,ga5,gm5,gd5,rfl,hy⟩:=hnx.form;rw[<-HQb.o];exact HK.o _ _ _ (by simp only[e0,e1,e5];rfl) ⟨_,_,_,_,_,_,_,_,_,_,_,_,_,_,_,rfl,hy⟩ (bT HS.o hb9) (Tk.below hb9)
     refine sD 7 5 aT7 [6] (fun f wq l hl hun hdn hS hd K' HK=>?_) ?_
     ·obtain⟨e6,-⟩:=hd;have e6:∃ga1 gm1 gd1 ga2 gm2 gd2 ga3 gm3 gd3 ga4 gm4 gd4 ga5 gm5 gd5,(f 6)=.tuple #[.agg #[.slice ga1 gm1 gd1,.slice ga2 gm2 gd2,.slice ga3 gm3 gd3,.slice ga4 gm4 gd4,.slice ga5 gm5 gd5],.bool qb]/\(∀s',s.next pl x=some s'->IsSt wq (.agg #[.slice ga1 gm1 gd1,.slice ga2 gm2 gd2,.slice ga3 gm3 gd3,.slice ga4 gm4 gd4,.slice ga5 gm5 gd5]) n s'):=e6
      obtain⟨ga1,gm1,gd1,ga2,gm2,gd2,ga3,gm3,gd3,ga4,gm4,gd4,ga5,gm5,gd5,h6,_⟩:=e6;simp only[h6];go_simp;exact HK.o _ _ _ (by simp only[h6];rfl) ⟨_,rfl,h6⟩ (hq 7 l _ hS) (rr _)
     refine sD 8 4 aT8 [7] (fun f wq l hl hun hdn hS hd K' HK=>?_) ?_
     ·obtain⟨e7,-⟩:=hd;have e7:∃y,(f 7)=.tuple #[y,.bool qb]/\(f 6)=.tuple #[y,.bool qb]:=e7;obtain⟨x7,h7,hz9⟩:=e7;clear hz9;simp only[h7];go_simp;exact HK.o _ _ _ (by simp only[h7];rfl) ⟨_,h7,rfl⟩ (hq 8 l _ hS) (rr _)
     refine sD 9 3 aT9 [7] (fun f wq l hl hun hdn hS hd K' HK=>?_) ?_
     ·obtain⟨e7,-⟩:=hd;have e7:∃y,(f 7)=.tuple #[y,.bool qb]/\(f 6)=.tuple #[y,.bool qb]:=e7;obtain⟨x7,h7,hz9⟩:=e7;clear hz9;simp only[h7];go_simp;exact HK.o _ _ _ (by simp only[h7];rfl) rfl (hq 9 l _ hS) (rr _)
     refine sD 10 2 aT10 [] (fun f wq l hl hun hdn hS hd K' HK=>?_) ?_
     ·clear hd;have HS:=Jh hS;clear hS;go_simp;exact HK.o _ _ _ rfl ⟨_,rfl,HS.o.size,fun _=>⟨_,_,_,_,_,heap_alloc_new wq _⟩⟩ (bT HS.o (bA (bR wq))) (Tk.below (bA (bR wq)))
     refine sD 11 1 aT11 [6,7,8,10] (fun f wq l hl hun hdn hS hd K' HK=>?_) ?_
     ·obtain⟨e6,e7,e8,e10,-⟩:=hd;have e6:∃ga1 gm1 gd1 ga2 gm2 gd2 ga3 gm3 gd3 ga4 gm4 gd4 ga5 gm5 gd5,(f 6)=.tuple #[.agg #[.slice ga1 gm1 gd1,.slice ga2 gm2 gd2,.slice ga3 gm3 gd3,.slice ga4 gm4 gd4,.slice ga5 gm5 gd5],.bool qb]/\(∀s',s.next pl x=some s'->IsSt wq (.agg #[.slice ga1 gm1 gd1,.slice ga2 gm2 gd2,.slice ga3 gm3 gd3,.slice ga4 gm4 gd4,.slice ga5 gm5 gd5]) n s'):=e6
      have e7:∃y,(f 7)=.tuple #[y,.bool qb]/\(f 6)=.tuple #[y,.bool qb]:=e7;have e8:∃y,(f 7)=.tuple #[y,.bool qb]/\(f 8)=y:=e8;have e10:∃g,(f 10)=.pointer (some ⟨g,0,none⟩)/\wo.heap.size<=g/\((l 11)=false->∃x y z u v,wq.heap[g]?=some (.cells #[x,y,z,u,v] 62)):=e10;obtain⟨ga1,gm1,gd1,ga2,gm2,gd2,ga3,gm3,gd3,ga4,gm4,gd4,ga5,gm5,gd5,h6,hy⟩:=e6;obtain⟨x7,h7,hz7⟩:=e7;obtain⟨x8,hz8,h8⟩:=e8;rw[h6] at hz7
      rw[h7] at hz8;obtain rfl:x7=.agg #[.slice ga1 gm1 gd1,.slice ga2 gm2 gd2,.slice ga3 gm3 gd3,.slice ga4 gm4 gd4,.slice ga5 gm5 gd5]:=by injection hz7 with hz7;simpa using hz7.symm
      obtain rfl:x8=.agg #[.slice ga1 gm1 gd1,.slice ga2 gm2 gd2,.slice ga3 gm3 gd3,.slice ga4 gm4 gd4,.slice ga5 gm5 gd5]:=by injection hz8 with hz8;simpa using hz8.symm
      clear hz7 hz8;obtain⟨g,h10,hgo,hgb⟩:=e10;obtain⟨x,y,z,u,v,hx⟩:=hgb hl;obtain⟨r0,r1,r2,r3,r4,r5,r6,r7,r8,r9⟩:=cells5 hx;have HXb:=Jh hx;have HY:=Jh hy;have HS:=Jh hS;clear hS hx hy hgb;simp only[h6,h7,h8,h10];go_simp;have hk:=Tk.set5 (x':=.slice ga1 gm1 gd1) (y':=.slice ga2 gm2 gd2) (z':=.slice ga3 gm3 gd3) (u':=.slice ga4 gm4 gd4) (v':=.slice ga5 gm5 gd5) HXb.o
      exact HK.o undef _ _ (by simp only[h6,h7,h8,h10];rfl) ⟨g,_,_,_,_,_,_,_,_,_,_,_,_,_,_,_,h10,hgo,h8,set5 HXb.o,fun s' hs=>(HY.o s' hs).tk hk (by decide) (by decide) (by decide) (by decide)⟩ (bS5 HS.o hgo) hk
     refine sD 12 0 aT12 [6,7,8,9,10,11] (fun f wq l hl hun hdn hS hd K' HK=>?_) ?_
     ·obtain⟨e6,e7,e8,e9,e10,e11,-⟩:=hd;have e6:∃ga1 gm1 gd1 ga2 gm2 gd2 ga3 gm3 gd3 ga4 gm4 gd4 ga5 gm5 gd5,(f 6)=.tuple #[.agg #[.slice ga1 gm1 gd1,.slice ga2 gm2 gd2,.slice ga3 gm3 gd3,.slice ga4 gm4 gd4,.slice ga5 gm5 gd5],.bool qb]/\(∀s',s.next pl x=some s'->IsSt wq (.agg #[.slice ga1 gm1 gd1,.slice ga2 gm2 gd2,.slice ga3 gm3 gd3,.slice ga4 gm4 gd4,.slice ga5 gm5 gd5]) n s'):=e6
      have e7:∃y,(f 7)=.tuple #[y,.bool qb]/\(f 6)=.tuple #[y,.bool qb]:=e7;have e8:∃y,(f 7)=.tuple #[y,.bool qb]/\(f 8)=y:=e8;have e9:f 9=_:=e9;have e10:∃g,(f 10)=.pointer (some ⟨g,0,none⟩)/\wo.heap.size<=g/\((l 11)=false->∃x y z u v,wq.heap[g]?=some (.cells #[x,y,z,u,v] 62)):=e10
      have e11:∃g ga1 gm1 gd1 ga2 gm2 gd2 ga3 gm3 gd3 ga4 gm4 gd4 ga5 gm5 gd5,(f 10)=.pointer (some ⟨g,0,none⟩)/\wo.heap.size<=g/\(f 8)=.agg #[.slice ga1 gm1 gd1,.slice ga2 gm2 gd2,.slice ga3 gm3 gd3,.slice ga4 gm4 gd4,.slice ga5 gm5 gd5]/\wq.heap[g]?=some (.cells #[.slice ga1 gm1 gd1,.slice ga2 gm2 gd2,.slice ga3 gm3 gd3,.slice ga4 gm4 gd4,.slice ga5 gm5 gd5] 62)/\(∀s',s.next pl x=some s'->IsSt wq (.agg #[.slice ga1 gm1 gd1,.slice ga2 gm2 gd2,.slice ga3 gm3 gd3,.slice ga4 gm4 gd4,.slice ga5 gm5 gd5]) n s'):=e11
      clear e6 e7 e8 e10 e11;simp only[e9];go_simp;exact HK.o _ _ _ (by simp only[e9];rfl) rfl (hq 12 l _ hS) (rr _)
     exact trivial
    case fin=>
     intro fo wz lo hl hall hS;have a6:∃ga1 gm1 gd1 ga2 gm2 gd2 ga3 gm3 gd3 ga4 gm4 gd4 ga5 gm5 gd5,(fo 6)=.tuple #[.agg #[.slice ga1 gm1 gd1,.slice ga2 gm2 gd2,.slice ga3 gm3 gd3,.slice ga4 gm4 gd4,.slice ga5 gm5 gd5],.bool qb]/\(∀s',s.next pl x=some s'->IsSt wz (.agg #[.slice ga1 gm1 gd1,.slice ga2 gm2 gd2,.slice ga3 gm3 gd3,.slice ga4 gm4 gd4,.slice ga5 gm5 gd5]) n s'):=hall 6 (by decide)
     have a7:∃y,(fo 7)=.tuple #[y,.bool qb]/\(fo 6)=.tuple #[y,.bool qb]:=hall 7 (by decide);have a10:∃g,(fo 10)=.pointer (some ⟨g,0,none⟩)/\wo.heap.size<=g/\((lo 11)=false->∃x y z u v,wz.heap[g]?=some (.cells #[x,y,z,u,v] 62)):=hall 10 (by decide)
     have a11:∃g ga1 gm1 gd1 ga2 gm2 gd2 ga3 gm3 gd3 ga4 gm4 gd4 ga5 gm5 gd5,(fo 10)=.pointer (some ⟨g,0,none⟩)/\wo.heap.size<=g/\(fo 8)=.agg #[.slice ga1 gm1 gd1,.slice ga2 gm2 gd2,.slice ga3 gm3 gd3,.slice ga4 gm4 gd4,.slice ga5 gm5 gd5]/\wz.heap[g]?=some (.cells #[.slice ga1 gm1 gd1,.slice ga2 gm2 gd2,.slice ga3 gm3 gd3,.slice ga4 gm4 gd4,.slice ga5 gm5 gd5] 62)/\(∀s',s.next pl x=some s'->IsSt wz (.agg #[.slice ga1 gm1 gd1,.slice ga2 gm2 gd2,.slice ga3 gm3 gd3,.slice ga4 gm4 gd4,.slice ga5 gm5 gd5]) n s'):=hall 11 (by decide)
     have a12:fo 12=_:=hall 12 (by decide);clear hall;obtain⟨g9,ga1,gm1,gd1,ga2,gm2,gd2,ga3,gm3,gd3,ga4,gm4,gd4,ga5,gm5,gd5,h10,hgo,h8,hblk,hy⟩:=a11;obtain⟨_,_,_,_,_,_,_,_,_,_,_,_,_,_,_,h6,_⟩:=a6;obtain⟨x7,h7,_⟩:=a7;simp only[h6,h7,h8,h10,a12];have H9y:=Jh hblk;have HY:=Jh hy;have HSz:=Jh hS;have HGo:=Jh hgo;clear h6 h7 h8 a10 h10 a12 hblk hy hS hgo hq rr nt hl;obtain⟨WE,rfl⟩:=exE wz
     have H7y:=Jh (blk_below HSz.o H7.o);cases qb with
     |false=>
      have HN:=Jh (show playP pl xs=none from by
       have hnx:s.next pl x=none:=by
        have h1:=HQb.o;cases h2:s.next pl x with
        |none=>rfl
        |some s'=>rw[h2] at h1;cases h1
       unfold playP;rw[HE.o.len,run_stop HXK.o HRU.o hnx];rfl)
      go_wp2_with fail;exact bodyPost_ret (results_tmp2 rfl _ _ _) rfl ⟨by rw[HPQ.o,HN.o];rfl,bT HBW.o HSz.o⟩
     |true=>
      obtain⟨s1,hs1⟩:=Option.isSome_iff_exists.1 HQb.o.symm;have HY1:=Jh (HY.o s1 hs1);have HRun:=Jh ((run_take HXK.o HRU.o).trans hs1);clear hs1;obtain⟨q0,q1,q2,q3,q4,_⟩:=cells5 H9y.o;obtain⟨t0,t1,t2,t3,t4,f0,f1,f2,f3,f4⟩:=cells5 H7y.o;go_wp2_with fail;go_roundw
      case rel=>have hk:=Tk.set5 (x':=.slice ga1 gm1 gd1) (y':=.slice ga2 gm2 gd2) (z':=.slice ga3 gm3 gd3) (u':=.slice ga4 gm4 gd4) (v':=.slice ga5 gm5 gd5) H7y.o;exact⟨k+1,s1,_,_,_,_,_,by omega,by go_num,bS5 (bT HBW.o HSz.o) HLb.o,set5 H7y.o,HY1.o.tk hk (by decide) (by decide) (by decide) (by decide),HRun.o⟩
      case measure=>simp[intOf];omega
   have hlb:decide ((k:Int)<(m:Int))=false:=by simp;omega
   have hlb2:decide (k<m)=false:=by simpa using hlt
   have HEn:=Jh (ended29_any n _ s wo HST.o hn6);have HRx:=Jh (show playP pl xs=s.outcome pl from by have h1:=HRU.o;rw[List.take_of_length_le (by have:=HX.o.len;omega)] at h1;unfold playP;rw[HE.o.len,h1];rfl);obtain⟨r0,r1,r2,r3,r4,_⟩:=cells5 H7.o;go_wp2_with fail;refine HEn.o.mono ?_;rintro e w4 ⟨rfl,hb4⟩;have HB4:=Jh hb4;clear r0 r1 r2 r3 r4 hb4;cases hdn:s.done.all id with
   |false=>have HN:=Jh (show playP pl xs=none from by rw[HRx.o];unfold St.outcome;rw[if_neg (by rw[hdn];simp)]);clear hdn;go_wp2_with fail;exact bodyPost_ret (results_tmp2 rfl _ _ _) rfl ⟨by rw[HPQ.o,HN.o];rfl,bT HBW.o HB4.o⟩
   |true=>
    have HY:=Jh (show playP pl xs=some (toldL pl s.told) from by rw[HRx.o];unfold St.outcome;rw[if_pos hdn];rfl);have HO:=Jh (outcome34_any A n c pl _ s w4 (HE.o.sees (Below.sees (bT HBW.o HB4.o))) (HST.o.sees (Below.sees HB4.o)) hn6);obtain⟨r0,r1,r2,r3,r4,_⟩:=cells5 (blk_below HB4.o H7.o);clear hdn;go_wp2_with fail;refine HO.o.mono ?_;rintro e w5 ⟨⟨Ao,co,rfl,hown,hco⟩,hb5⟩
    have HO5:=Jh (own_low' hown (bT HBW.o HB4.o).size);have HB5:=Jh (bT HBW.o (bT HB4.o hb5));clear hown hb5;go_wp2_with fail;exact bodyPost_ret (results_tmp2 rfl _ _ _) rfl ⟨by rw[HPQ.o,HY.o];exact⟨Ao,co,rfl,HO5.o,hco⟩,HB5.o⟩
 have HP:=Jh (playQ_no hl xs);have HN:=Jh hl;clear hl he hx;go_enter Tryz.func15,Tryz.ntmps15;go_wp2_with fail;refine HR.o.mono ?_;rintro o w2 ⟨⟨b,rfl,hb⟩,hb2⟩;have HB:=Jh hb2;obtain rfl:b=false:=by
  cases b with
  |false=>rfl
  |true=>exact absurd (hb.1 rfl) HN.o
 clear hb hb2;go_wp2_with fail;exact bodyPost_ret (results_tmp2 rfl _ _ _) rfl ⟨by rw[HP.o];rfl,HB.o⟩
end Go.Proofs.YtnigadeohmlpiaaGreatDoor
