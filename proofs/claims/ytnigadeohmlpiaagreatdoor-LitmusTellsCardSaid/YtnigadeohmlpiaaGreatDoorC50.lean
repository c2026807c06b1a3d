/- A contract of the statements' player for layer 13: a script out of raw numbers. Its condition: where the numbers stand. -/
import Derived.Test.YtnigadeohmlpiaaGreatDoorC41
set_option maxHeartbeats 32000000
set_option maxRecDepth 100000
namespace Go.Proofs.YtnigadeohmlpiaaGreatDoor
open Go.RowKit
attribute [local go_sem] Oper.semAt_some
def StepOf0(f0:Nat->Value)(P:Program)(ops:Array Oper)(Q:Exit->Act->World->Prop)(frame:(Nat->Value)->Act)(V:Nat->(Nat->Bool)->(Nat->Value)->World->Prop)(S:(Nat->Bool)->World->Prop)(R:Nat->World->World->Prop)(i:Nat):Prop:=
 ∀f w (l:Nat->Bool),(∀j,l j=false->f j=f0 j)->l i=false->(∀j,i∈depsOf .any ops j->l j=false)->(∀d∈depsOf .any ops i,l d=true)->S l w->(∀d∈depsOf .any ops i,V d l f w)->
  wpOp P ops Q i (fun a' w'=>∃v,a'=frame (fun k=>if k=i then v else f k)/\V i (fun k=>decide (k=i)||l k) (fun k=>if k=i then v else f k) w'/\S (fun k=>decide (k=i)||l k) w'/\R i w w') (frame f) w
theorem wp_region_det0{P:Program}{ops:Array Oper}{Q:Exit->Act->World->Prop}{id:Nat}{a:Act}{w:World}(hm:P.follows .mixedOrders=true)(frame:(Nat->Value)->Act)(V:Nat->(Nat->Bool)->(Nat->Value)->World->Prop)(S:(Nat->Bool)->World->Prop)(R:Nat->World->World->Prop)
  (hlow:depsLow .any ops=true) (f0:Nat->Value) (ha:a=frame f0) (hV:∀i j,i≠j->i∉depsOf .any ops j->∀(l:Nat->Bool) f f' w w',(∀k,k≠i->f' k=f k)->R i w w'->V j l f w->V j (fun k=>decide (k=i)||l k) f' w') (hS:S (fun _=>false) w.drew)
  (hstep:∀i,i<ops.size->StepOf0 f0 P ops Q frame V S R i)
  (hend:∀f w l,(∀i,i<ops.size->l i=true)->(∀i,i<ops.size->V i l f w)->S l w->Q .normal (frame f) w):(Code.region id ops true).wp P Q a w:=by
 refine wp_region_inv hm (fun listed a w=>∃f,a=frame f/\(∀i,i<ops.size->listed.getD i false=true->V i (fun k=>listed.getD k false) f w/\∀d∈depsOf .any ops i,listed.getD d false=true)/\S (fun k=>listed.getD k false) w/\∀i,listed.getD i false=false->f i=f0 i) hlow ⟨f0,ha,fun i hi h=>?_,?_,fun _ _=>rfl⟩ ?_ ?_
 ·rw[Array.getD_eq_getD_getElem?] at h;simp[hi] at h
 ·have:(fun k=>(Array.replicate ops.size false).getD k false)=fun _=>false:=by
   funext k
   simp only[Array.getD_eq_getD_getElem?,Array.getElem?_replicate];split<;>rfl
  rw[this];exact hS
 ·rintro i hi listed a w hs ⟨f,rfl,hf,hSw,hf0⟩ hun hdeps;refine wpOp_mono ?_ (hstep i hi f w _ hf0 hun (fun j hj=>?_) hdeps hSw fun d hd=>(hf d ?_ (hdeps d hd)).1)
  ·rintro a' w' ⟨v,rfl,hv,hS',hR⟩;refine⟨_,rfl,fun j hj hl=>?_,?_,fun j hl=>?_⟩
   ·by_cases e:j=i
    ·subst e;rw[set_fun (by omega)];exact⟨hv,fun d hd=>gs_mono (hdeps d hd)⟩
    rw[gs_ne (fun h=>e h.symm)] at hl;obtain⟨h1,h2⟩:=hf j hj hl;rw[set_fun (by omega)];refine⟨hV i j (fun h=>e h.symm) (fun hd=>?_) _ f _ _ _ (fun k hk=>by simp[hk]) hR h1,fun d hd=>gs_mono (h2 d hd)⟩;have:=h2 i hd;rw[hun] at this;cases this
   ·rw[set_fun (by omega)];exact hS'
   have e:j≠i:=fun e=>by
    subst e;have h1:(listed.setIfInBounds j true).getD j false=true:=by rw[Array.getD_eq_getD_getElem?];simp[show j<listed.size by omega]
    rw[h1] at hl;cases hl
   rw[gs_ne (fun h=>e h.symm)] at hl;simp only[if_neg e];exact hf0 j hl
  ·show listed.getD j false=false;by_cases hj':j<ops.size
   ·cases hl:listed.getD j false
    ·rfl
    have:=(hf j hj' hl).2 i hj;rw[hun] at this;cases this
   simp[Array.getD_eq_getD_getElem?,Array.getElem?_eq_none (show listed.size<=j by omega)]
  have:=List.all_eq_true.1 (List.all_eq_true.1 hlow i (List.mem_range.2 hi)) d hd;have hdi:d<i:=by simpa using this
  omega
 rintro listed a w hs hall ⟨f,rfl,hf,hSw,hf0⟩;exact hend f w _ hall (fun i hi=>(hf i hi (hall i hi)).1) hSw
def StepsOf0(f0:Nat->Value)(P:Program)(ops:Array Oper)(Q:Exit->Act->World->Prop)(frame:(Nat->Value)->Act)(V:Nat->(Nat->Bool)->(Nat->Value)->World->Prop)(S:(Nat->Bool)->World->Prop)(R:Nat->World->World->Prop):Nat->Nat->Prop
 |_,0=>True
 |k,n+1=>StepOf0 f0 P ops Q frame V S R k/\StepsOf0 f0 P ops Q frame V S R (k+1) n
theorem stepsOf_at0{f0:Nat->Value}{P:Program}{ops:Array Oper}{Q:Exit->Act->World->Prop}{frame:(Nat->Value)->Act}{V:Nat->(Nat->Bool)->(Nat->Value)->World->Prop}{S:(Nat->Bool)->World->Prop}{R:Nat->World->World->Prop}:∀{n k:Nat},StepsOf0 f0 P ops Q frame V S R k n->∀i,k<=i->i<k+n->StepOf0 f0 P ops Q frame V S R i
 |0,k,_,i,h1,h2=>by omega
 |n+1,k,h,i,h1,h2=>by
  by_cases e:i=k
  ·subst e;exact h.1
  exact stepsOf_at0 h.2 i (by omega) (by omega)
theorem stepsOf_cons0{f0:Nat->Value}{P:Program}{ops:Array Oper}{Q:Exit->Act->World->Prop}{frame:(Nat->Value)->Act}{V:Nat->(Nat->Bool)->(Nat->Value)->World->Prop}{S:(Nat->Bool)->World->Prop}{R:Nat->World->World->Prop}{k n:Nat}(h1:StepOf0 f0 P ops Q frame V S R k)(h2:StepsOf0 f0 P ops Q frame V S R (k+1) n):StepsOf0 f0 P ops Q frame V S R k (n+1):=⟨h1,h2⟩
theorem stepOf_run0{f0:Nat->Value}{P:Program}{ops:Array Oper}{Q:Exit->Act->World->Prop}{frame:(Nat->Value)->Act}{V:Nat->(Nat->Bool)->(Nat->Value)->World->Prop}{S:(Nat->Bool)->World->Prop}{R:Nat->World->World->Prop}{i:Nat}{o:Oper}(ho:ops[i]?=some o)(ds:List Nat)(hds:(ds.all fun d=>(depsOf .any ops i).contains d)=true)
  (hput:∀f v,(frame f).put o.dst v=frame (fun k=>if k=i then v else f k))
  (h:∀f w (l:Nat->Bool),(∀j,l j=false->f j=f0 j)->l i=false->(∀j,i∈depsOf .any ops j->l j=false)->(∀d∈depsOf .any ops i,l d=true)->S l w->DepsOk V l f w ds->∀K':Act->World->Prop,Shut (∀v a' w',a'=(frame f).put o.dst v->V i (fun k=>decide (k=i)||l k) (fun k=>if k=i then v else f k) w'->S (fun k=>decide (k=i)||l k) w'->R i w w'->K' a' w')->
   if Region.wanted o (yielded ops (frame f).tmps)=true then Oper.wp P o (frame f) w K' Q else K' ((frame f).put o.dst undef) w):StepOf0 f0 P ops Q frame V S R i:=by
 intro f w l hf0 hl hun hdn hS hd;have hsub:∀d∈ds,V d l f w:=fun d hdm=>hd d (by simpa using List.all_eq_true.1 hds d hdm);refine wpOp_step ho (fun K' hK=>h f w l hf0 hl hun hdn hS (depsOk_of hsub) K' (fun v a' w' ha hv hS' hR=>hK _ _ ⟨v,ha.trans (hput f v),hv,hS',hR⟩))
theorem script12_any(A:Option Addr)(n c:Nat)(zs:List Int)(w:World)(hz:IsTri w A n zs):
  Calls Tryz.prog 12 #[.slice A n c] w fun o w'=>(∃A' k c' xs,o=.returned (.slice A' k c')/\w'.ownsRow w.heap.size 56 3 (.slice A' k c') k (pkCells xs)/\xs.length=k/\k<=20/\k<=c'/\∀x∈xs,I64ok x.h/\I64ok x.w)/\Below w.heap.size w w':=by
 obtain⟨i0,hi0,hz0,hz1,hz2⟩:=info_parts pick_info;have HZ:=Jh hz;clear hz;go_enter Tryz.func12,Tryz.ntmps12;go_wp2_with fail;go_loopw [3,4] (fun v3 v4 wr=>∃(k:Nat) (xs:List Pk),k<=20/\k<=n/\xs.length=k/\v4=.int .i64 k/\wr.ownsRow w.heap.size 56 3 v3 k (pkCells xs)/\(∀x∈xs,I64ok x.h/\I64ok x.w)/\Below w.heap.size w wr) (fun _ v4 _=>20-(intOf v4).toNat)
 case atStart=>exact⟨0,[],by omega,by omega,rfl,rfl,World.ownsRow_nil _ _ _ _,fun x h=>(by cases h),bR w⟩
 case round=>
  obtain⟨k,xs,hk,hkn,hxl,rfl,hown,hrng,hbw⟩:=hrel;obtain⟨wo,rfl⟩:=exE wr;have HXL:=Jh hxl;have HO:=Jh hown;have HRN:=Jh hrng;have HBW:=Jh hbw;obtain⟨AP,cP,rfl,hcP,_⟩:=own_slice hown;clear hxl hown hrng hbw;by_cases hlt:k<n
  ·have hlb:decide ((k:Int)<(n:Int))=true:=by simp;omega
   have hlb2:decide (k<n)=true:=by simpa using hlt
   by_cases hl2:k<20
   ·have hb20:decide ((k:Int)<20)=true:=by simp;omega
    have hkI:(k:Int)<(n:Int):=by omega
    have hk0:decide ((k:Int)<0)=false:=by simp
    obtain⟨g,o,xa,xb,xc,rfl,hc0,hc1,hc2,ho0,ho1,ho2⟩:=HZ.o.at_ hlt;have HC:=Jh (And.intro hc0 (And.intro hc1 hc2));have HXo:=Jh (And.intro ho0 (And.intro ho1 ho2));obtain⟨xh,hxh⟩:=exE (pk xa 5-1);obtain⟨xd,hxd⟩:=exE ((pk xb 2==1));obtain⟨xw,hxw⟩:=exE ((pk xc 9).tdiv 4)
    have HH:=Jh (show IntKind.i64.wrap (pk xa 5-1)=xh from by rw[hxh];exact IntWalk.i64_in _ (by have h1:=pk_lo xa 5 (by omega);have h2:=pk_hi xa 5 (by omega);omega));have HD:=Jh hxd;have HW:=Jh hxw;have HR1:=Jh (show I64ok xh/\I64ok xw from by
     have h1:=pk_lo xa 5 (by omega);have h2:=pk_hi xa 5 (by omega);have h3:=pk_lo xc 9 (by omega);have h4:=pk_hi xc 9 (by omega);have h5:xw=pk xc 9/4:=by rw[hxw,Int.tdiv_eq_ediv_of_nonneg h3]
     unfold I64ok;omega)
    have HPx:=Jh (show pkCells (xs++[⟨xh,xd,xw⟩])=pkCells xs++[.int .i64 xh,.bool xd,.int .i64 xw] from by rw[pkCells_append];rfl);clear hc0 hc1 hc2 ho0 ho1 ho2 hxh hxd hxw;go_upto_region 5 with fail
    have hq:∀(k9:Nat) (l:Nat->Bool) (wx:World),((l 24=false->Below wo.heap.size wo wx)/\Below w.heap.size w wx)->(((decide (24=k9)||l 24)=false->Below wo.heap.size wo wx)/\Below w.heap.size w wx):=fun _ l wx h=>⟨fun g=>h.1 (Bool.or_eq_false_iff.1 g).2,h.2⟩;have rr:∀{T:List TypeId} (wx:World),Tk T wx wx:=fun wx=>Tk.refl _ wx
    refine wp_region_det0 (by kernel_rfl) (fun f=>(⟨#[Value.slice (some ⟨g,o,none⟩) n c,undef,Value.slice none 0 0,f 25,.int .i64 (k:Int),.int .i64 (k:Int),Value.slice (some ⟨g,o,none⟩) n c,.int .i64 (n:Int),Value.bool true,Value.bool true,.int .i64 (k:Int),Value.bool true,Value.bool true,u13,u14,f 0,f 1,f 2,f 3,f 4,f 5,f 6,f 7,f 8,f 9,f 10,f 11,f 12,f 13,f 14,f 15,f 16,f 17,f 18,f 19,f 20,f 21,f 22,f 23,f 24,undef],[]⟩:Act)) (fun(iv:Nat) (lv:Nat->Bool) (fv:Nat->Value) (wx:World)=>match iv with|0=>fv 0=.slice AP k cP|1=>fv 1=.slice (some ⟨g,o,none⟩) n c|2=>fv 2=.int .i64 (k:Int)|3=>fv 3=.pointer (some ⟨g,o+k*3,none⟩)|4=>fv 4=.pointer (some ⟨g,o+k*3,none⟩)|5=>fv 5=.int .i64 xa|6=>fv 6=.int .i64 (pk xa 5)|7=>fv 7=.int .i64 xh|8=>fv 8=.slice (some ⟨g,o,none⟩) n c|9=>fv 9=.int .i64 (k:Int)|10=>fv 10=.pointer (some ⟨g,o+k*3,none⟩)|11=>fv 11=.pointer (some ⟨g,o+k*3+1,none⟩)|12=>fv 12=.int .i64 xb|13=>fv 13=.int .i64 (pk xb 2)|14=>fv 14=.bool xd|15=>fv 15=.slice (some ⟨g,o,none⟩) n c|16=>fv 16=.int .i64 (k:Int)|17=>fv 17=.pointer (some ⟨g,o+k*3,none⟩)|18=>fv 18=.pointer (some ⟨g,o+k*3+2,none⟩)|19=>fv 19=.int .i64 xc|20=>fv 20=.int .i64 (pk xc 9)|21=>fv 21=.int .i64 xw|22=>fv 22=.agg #[.int .i64 xh,.bool xd,.int .i64 xw]|23=>∃g,(fv 23)=.slice (some ⟨g,0,none⟩) 1 1/\((lv 24)=false->wx.heap[g]?=some (.cells #[.int .i64 xh,.bool xd,.int .i64 xw] 56))|24=>∃A c,(fv 24)=.slice A (k+1) c/\wx.ownsRow w.heap.size 56 3 (.slice A (k+1) c) (k+1) (pkCells (xs++[⟨xh,xd,xw⟩]))|25=>∃A c,(fv 24)=.slice A (k+1) c/\(fv 25)=.slice A (k+1) c|_=>True) (fun lv wx=>(lv 24=false->Below wo.heap.size wo wx)/\Below w.heap.size w wx) (fun i w1 w2=>Tk (if i=24 then[56] else[]) w1 w2) (by kernel_rfl) (fun kv=>match kv with|0=>u15|1=>u16|2=>u17|3=>u18|4=>u19|5=>u20|6=>u21|7=>u22|8=>u23|9=>u24|10=>u25|11=>u26|12=>u27|13=>u28|14=>u29|15=>u30|16=>u31|17=>u32|18=>u33|19=>u34|20=>u35|21=>u36|22=>u37|23=>u38|24=>u39|25=>Value.slice AP k cP|_=>undef) rfl ?keep ⟨fun _=>bD (bR wo),bD HBW.o⟩ ?steps ?fin
    case keep=>
     intro iv j hij hd l f f' w1 w2 hf hR
     match j with
     |0=>exact fun h=>(hf 0 (Ne.symm hij)).trans h
     |1=>exact fun h=>(hf 1 (Ne.symm hij)).trans h
     |2=>exact fun h=>(hf 2 (Ne.symm hij)).trans h
     |3=>exact fun h=>(hf 3 (Ne.symm hij)).trans h
     |4=>exact fun h=>(hf 4 (Ne.symm hij)).trans h
     |5=>exact fun h=>(hf 5 (Ne.symm hij)).trans h
     |6=>exact fun h=>(hf 6 (Ne.symm hij)).trans h
     |7=>exact fun h=>(hf 7 (Ne.symm hij)).trans h
     |8=>exact fun h=>(hf 8 (Ne.symm hij)).trans h
     |9=>exact fun h=>(hf 9 (Ne.symm hij)).trans h
     |10=>exact fun h=>(hf 10 (Ne.symm hij)).trans h
     |11=>exact fun h=>(hf 11 (Ne.symm hij)).trans h
     |12=>exact fun h=>(hf 12 (Ne.symm hij)).trans h
     |13=>exact fun h=>(hf 13 (Ne.symm hij)).trans h
     |14=>exact fun h=>(hf 14 (Ne.symm hij)).trans h
     |15=>exact fun h=>(hf 15 (Ne.symm hij)).trans h
     |16=>exact fun h=>(hf 16 (Ne.symm hij)).trans h
     |17=>exact fun h=>(hf 17 (Ne.symm hij)).trans h
     |18=>exact fun h=>(hf 18 (Ne.symm hij)).trans h
     |19=>exact fun h=>(hf 19 (Ne.symm hij)).trans h
     |20=>exact fun h=>(hf 20 (Ne.symm hij)).trans h
     |21=>exact fun h=>(hf 21 (Ne.symm hij)).trans h
     |22=>exact fun h=>(hf 22 (Ne.symm hij)).trans h
     |23=>
      intro h;have h:∃g,(f 23)=.slice (some ⟨g,0,none⟩) 1 1/\((l 24)=false->w1.heap[g]?=some (.cells #[.int .i64 xh,.bool xd,.int .i64 xw] 56)):=h;show∃g,(f' 23)=.slice (some ⟨g,0,none⟩) 1 1/\((decide (24=iv)||l 24)=false->w2.heap[g]?=some (.cells #[.int .i64 xh,.bool xd,.int .i64 xw] 56));rw[hf 23 (Ne.symm hij)]
      exact h.elim fun g h=>⟨g,h.1,fun hl=>Tk.at_ hR (by rw[if_neg (fun e=>absurd e.symm (of_decide_eq_false (Bool.or_eq_false_iff.1 hl).1))];exact List.not_mem_nil) (h.2 (Bool.or_eq_false_iff.1 hl).2)⟩
     |24=>intro h;have h:∃A c,(f 24)=.slice A (k+1) c/\w1.ownsRow w.heap.size 56 3 (.slice A (k+1) c) (k+1) (pkCells (xs++[⟨xh,xd,xw⟩])):=h;show∃A c,(f' 24)=.slice A (k+1) c/\w2.ownsRow w.heap.size 56 3 (.slice A (k+1) c) (k+1) (pkCells (xs++[⟨xh,xd,xw⟩]));rw[hf 24 (Ne.symm hij)];exact h.elim fun A h=>h.elim fun c h=>⟨A,c,h.1,own_tk h.2 hR (by rw[if_neg (fun e=>hij e)];exact List.not_mem_nil)⟩
     |25=>intro h;have h:∃A c,(f 24)=.slice A (k+1) c/\(f 25)=.slice A (k+1) c:=h;show∃A c,(f' 24)=.slice A (k+1) c/\(f' 25)=.slice A (k+1) c;rw[hf 25 (Ne.symm hij),hf 24 (fun e=>hd (e▸of_decide_eq_true (by kernel_rfl)))];exact h
     |_+26=>exact id
    case steps=>
     refine fun iv hiv=>stepsOf_at0 (k:=0) (n:=26) ?_ iv (Nat.zero_le _) (by rw[Nat.zero_add];exact hiv);refine stepsOf_cons0 (k:=0) (n:=25) ?_ ?_
     ·refine stepOf_run0 (at0) [] (by kernel_rfl) (fun _ _=>rfl) (fun f wq l hf0 hl hun hdn hS hd K' hK=>?_);clear hd;have HK:=Jh hK;clear hK;have e25:f 25=.slice AP k cP:=hf0 25 (hun 25 (of_decide_eq_true (by kernel_rfl)));have HSS:=Jh hS;clear hS;simp only[e25];go_simp;exact HK.o _ _ _ (by simp only[e25];rfl) rfl (hq 0 l _ HSS.o) (rr _)
     refine stepsOf_cons0 (k:=1) (n:=24) ?_ ?_
     ·refine stepOf_run0 (atS (at0)) [] (by kernel_rfl) (fun _ _=>rfl) (fun f wq l hf0 hl hun hdn hS hd K' hK=>?_);clear hd;have HK:=Jh hK;clear hK;have HSS:=Jh hS;clear hS;go_simp;exact HK.o _ _ _ rfl rfl (hq 1 l _ HSS.o) (rr _)
     refine stepsOf_cons0 (k:=2) (n:=23) ?_ ?_
     ·refine stepOf_run0 (atS (atS (at0))) [] (by kernel_rfl) (fun _ _=>rfl) (fun f wq l hf0 hl hun hdn hS hd K' hK=>?_);clear hd;have HK:=Jh hK;clear hK;have HSS:=Jh hS;clear hS;go_simp;exact HK.o _ _ _ rfl rfl (hq 2 l _ HSS.o) (rr _)
     refine stepsOf_cons0 (k:=3) (n:=22) ?_ ?_
     ·refine stepOf_run0 (atS (atS (atS (at0)))) [1,2] (by kernel_rfl) (fun _ _=>rfl) (fun f wq l hf0 hl hun hdn hS hd K' hK=>?_);obtain⟨e1,e2,-⟩:=hd;have e1:f 1=_:=e1;have e2:f 2=_:=e2;have HK:=Jh hK;clear hK;have HSS:=Jh hS;clear hS;simp only[e1,e2];go_simp;exact HK.o _ _ _ (by simp only[e1,e2];rfl) rfl (hq 3 l _ HSS.o) (rr _)
     refine stepsOf_cons0 (k:=4) (n:=21) ?_ ?_
     ·refine stepOf_run0 (atS (atS (atS (atS (at0))))) [3] (by kernel_rfl) (fun _ _=>rfl) (fun f wq l hf0 hl hun hdn hS hd K' hK=>?_);obtain⟨e3,-⟩:=hd;have e3:f 3=_:=e3;have HK:=Jh hK;clear hK;have HSS:=Jh hS;clear hS;simp only[e3];go_simp;exact HK.o _ _ _ (by simp only[e3];rfl) rfl (hq 4 l _ HSS.o) (rr _)
     refine stepsOf_cons0 (k:=5) (n:=20) ?_ ?_
     ·refine stepOf_run0 (atS (atS (atS (atS (atS (at0)))))) [4] (by kernel_rfl) (fun _ _=>rfl) (fun f wq l hf0 hl hun hdn hS hd K' hK=>?_);obtain⟨e4,-⟩:=hd;have e4:f 4=_:=e4;have HK:=Jh hK;clear hK;have hbq:=hS.2;have r0:=(hbq.cell (cell_lt HC.o.1)).trans HC.o.1;clear hbq;have HSS:=Jh hS;clear hS;simp only[e4];go_simp;exact HK.o _ _ _ (by simp only[e4];rfl) rfl (hq 5 l _ HSS.o) (rr _)
     refine stepsOf_cons0 (k:=6) (n:=19) ?_ ?_
     ·refine stepOf_run0 (atS (atS (atS (atS (atS (atS (at0))))))) [5] (by kernel_rfl) (fun _ _=>rfl) (fun f wq l hf0 hl hun hdn hS hd K' hK=>?_);obtain⟨e5,-⟩:=hd;have e5:f 5=_:=e5;have HK:=Jh hK;clear hK;have HSS:=Jh hS;clear hS;simp only[e5];have HCz:=Jh (pick24_any xa 5 wq (by omega) HXo.o.1.1 HXo.o.1.2);go_simp;go_wp2_with fail;refine HCz.o.mono ?_;rintro e w9 ⟨rfl,rfl⟩
      exact HK.o _ _ _ (by simp only[e5];rfl) rfl (hq 6 l _ HSS.o) (rr _)
     refine stepsOf_cons0 (k:=7) (n:=18) ?_ ?_
     ·refine stepOf_run0 (atS (atS (atS (atS (atS (atS (atS (at0)))))))) [6] (by kernel_rfl) (fun _ _=>rfl) (fun f wq l hf0 hl hun hdn hS hd K' hK=>?_);obtain⟨e6,-⟩:=hd;have e6:f 6=_:=e6;have HK:=Jh hK;clear hK;have hw9:=HH.o;have HSS:=Jh hS;clear hS;simp only[e6];go_simp;exact HK.o _ _ _ (by simp only[e6];rfl) rfl (hq 7 l _ HSS.o) (rr _)
     refine stepsOf_cons0 (k:=8) (n:=17) ?_ ?_
     ·refine stepOf_run0 (atS (atS (atS (atS (atS (atS (atS (atS (at0))))))))) [] (by kernel_rfl) (fun _ _=>rfl) (fun f wq l hf0 hl hun hdn hS hd K' hK=>?_);clear hd;have HK:=Jh hK;clear hK;have HSS:=Jh hS;clear hS;go_simp;exact HK.o _ _ _ rfl rfl (hq 8 l _ HSS.o) (rr _)
     refine stepsOf_cons0 (k:=9) (n:=16) ?_ ?_
     ·refine stepOf_run0 (atS (atS (atS (atS (atS (atS (atS (atS (atS (at0)))))))))) [] (by kernel_rfl) (fun _ _=>rfl) (fun f wq l hf0 hl hun hdn hS hd K' hK=>?_);clear hd;have HK:=Jh hK;clear hK;have HSS:=Jh hS;clear hS;go_simp;exact HK.o _ _ _ rfl rfl (hq 9 l _ HSS.o) (rr _)
     refine stepsOf_cons0 (k:=10) (n:=15) ?_ ?_
     ·refine stepOf_run0 (atS (atS (atS (atS (atS (atS (atS (atS (atS (atS (at0))))))))))) [8,9] (by kernel_rfl) (fun _ _=>rfl) (fun f wq l hf0 hl hun hdn hS hd K' hK=>?_);obtain⟨e8,e9,-⟩:=hd;have e8:f 8=_:=e8;have e9:f 9=_:=e9;have HK:=Jh hK;clear hK;have HSS:=Jh hS;clear hS;simp only[e8,e9];go_simp;exact HK.o _ _ _ (by simp only[e8,e9];rfl) rfl (hq 10 l _ HSS.o) (rr _)
     refine stepsOf_cons0 (k:=11) (n:=14) ?_ ?_
     ·refine stepOf_run0 (atS (atS (atS (atS (atS (atS (atS (atS (atS (atS (atS (at0)))))))))))) [10] (by kernel_rfl) (fun _ _=>rfl) (fun f wq l hf0 hl hun hdn hS hd K' hK=>?_);obtain⟨e10,-⟩:=hd;have e10:f 10=_:=e10;have HK:=Jh hK;clear hK;have HSS:=Jh hS;clear hS;simp only[e10];go_simp;exact HK.o _ _ _ (by simp only[e10];rfl) rfl (hq 11 l _ HSS.o) (rr _)
     refine stepsOf_cons0 (k:=12) (n:=13) ?_ ?_
     ·refine stepOf_run0 (atS (atS (atS (atS (atS (atS (atS (atS (atS (atS (atS (atS (at0))))))))))))) [11] (by kernel_rfl) (fun _ _=>rfl) (fun f wq l hf0 hl hun hdn hS hd K' hK=>?_);obtain⟨e11,-⟩:=hd;have e11:f 11=_:=e11;have HK:=Jh hK;clear hK;have hbq:=hS.2;have r0:=(hbq.cell (cell_lt HC.o.2.1)).trans HC.o.2.1;clear hbq;have HSS:=Jh hS;clear hS;simp only[e11];go_simp
      exact HK.o _ _ _ (by simp only[e11];rfl) rfl (hq 12 l _ HSS.o) (rr _)
     refine stepsOf_cons0 (k:=13) (n:=12) ?_ ?_
     ·refine stepOf_run0 (atS (atS (atS (atS (atS (atS (atS (atS (atS (atS (atS (atS (atS (at0)))))))))))))) [6,12] (by kernel_rfl) (fun _ _=>rfl) (fun f wq l hf0 hl hun hdn hS hd K' hK=>?_);obtain⟨e6,e12,-⟩:=hd;have e6:f 6=_:=e6;have e12:f 12=_:=e12;have HK:=Jh hK;clear hK;have HSS:=Jh hS;clear hS;simp only[e6,e12];have HCz:=Jh (pick24_any xb 2 wq (by omega) HXo.o.2.1.1 HXo.o.2.1.2);go_simp
      go_wp2_with fail;refine HCz.o.mono ?_;rintro e w9 ⟨rfl,rfl⟩;exact HK.o _ _ _ (by simp only[e6,e12];rfl) rfl (hq 13 l _ HSS.o) (rr _)
     refine stepsOf_cons0 (k:=14) (n:=11) ?_ ?_
     ·refine stepOf_run0 (atS (atS (atS (atS (atS (atS (atS (atS (atS (atS (atS (atS (atS (atS (at0))))))))))))))) [13] (by kernel_rfl) (fun _ _=>rfl) (fun f wq l hf0 hl hun hdn hS hd K' hK=>?_);obtain⟨e13,-⟩:=hd;have e13:f 13=_:=e13;have HK:=Jh hK;clear hK;have hw9:=HD.o.symm;have HSS:=Jh hS;clear hS;simp only[e13];go_simp;exact HK.o _ _ _ (by simp only[e13];rfl) rfl (hq 14 l _ HSS.o) (rr _)
     refine stepsOf_cons0 (k:=15) (n:=10) ?_ ?_
     ·refine stepOf_run0 (atS (atS (atS (atS (atS (atS (atS (atS (atS (atS (atS (atS (atS (atS (atS (at0)))))))))))))))) [] (by kernel_rfl) (fun _ _=>rfl) (fun f wq l hf0 hl hun hdn hS hd K' hK=>?_);clear hd;have HK:=Jh hK;clear hK;have HSS:=Jh hS;clear hS;go_simp;exact HK.o _ _ _ rfl rfl (hq 15 l _ HSS.o) (rr _)
     refine stepsOf_cons0 (k:=16) (n:=9) ?_ ?_
     ·refine stepOf_run0 (atS (atS (atS (atS (atS (atS (atS (atS (atS (atS (atS (atS (atS (atS (atS (atS (at0))))))))))))))))) [] (by kernel_rfl) (fun _ _=>rfl) (fun f wq l hf0 hl hun hdn hS hd K' hK=>?_);clear hd;have HK:=Jh hK;clear hK;have HSS:=Jh hS;clear hS;go_simp;exact HK.o _ _ _ rfl rfl (hq 16 l _ HSS.o) (rr _)
     refine stepsOf_cons0 (k:=17) (n:=8) ?_ ?_
     ·refine stepOf_run0 (atS (atS (atS (atS (atS (atS (atS (atS (atS (atS (atS (atS (atS (atS (atS (atS (atS (at0)))))))))))))))))) [15,16] (by kernel_rfl) (fun _ _=>rfl) (fun f wq l hf0 hl hun hdn hS hd K' hK=>?_);obtain⟨e15,e16,-⟩:=hd;have e15:f 15=_:=e15;have e16:f 16=_:=e16;have HK:=Jh hK;clear hK;have HSS:=Jh hS;clear hS;simp only[e15,e16];go_simp
      exact HK.o _ _ _ (by simp only[e15,e16];rfl) rfl (hq 17 l _ HSS.o) (rr _)
     refine stepsOf_cons0 (k:=18) (n:=7) ?_ ?_
     ·refine stepOf_run0 (atS (atS (atS (atS (atS (atS (atS (atS (atS (atS (atS (atS (atS (atS (atS (atS (atS (atS (at0))))))))))))))))))) [17] (by kernel_rfl) (fun _ _=>rfl) (fun f wq l hf0 hl hun hdn hS hd K' hK=>?_);obtain⟨e17,-⟩:=hd;have e17:f 17=_:=e17;have HK:=Jh hK;clear hK;have HSS:=Jh hS;clear hS;simp only[e17];go_simp;exact HK.o _ _ _ (by simp only[e17];rfl) rfl (hq 18 l _ HSS.o) (rr _)
     refine stepsOf_cons0 (k:=19) (n:=6) ?_ ?_
     ·refine stepOf_run0 (atS (atS (atS (atS (atS (atS (atS (atS (atS (atS (atS (atS (atS (atS (atS (atS (atS (atS (atS (at0)))))))))))))))))))) [18] (by kernel_rfl) (fun _ _=>rfl) (fun f wq l hf0 hl hun hdn hS hd K' hK=>?_);obtain⟨e18,-⟩:=hd;have e18:f 18=_:=e18;have HK:=Jh hK;clear hK;have hbq:=hS.2;have r0:=(hbq.cell (cell_lt HC.o.2.2)).trans HC.o.2.2;clear hbq;have HSS:=Jh hS;clear hS;simp only[e18]
      go_simp;exact HK.o _ _ _ (by simp only[e18];rfl) rfl (hq 19 l _ HSS.o) (rr _)
     refine stepsOf_cons0 (k:=20) (n:=5) ?_ ?_
     ·refine stepOf_run0 (atS (atS (atS (atS (atS (atS (atS (atS (atS (atS (atS (atS (atS (atS (atS (atS (atS (atS (atS (atS (at0))))))))))))))))))))) [13,19] (by kernel_rfl) (fun _ _=>rfl) (fun f wq l hf0 hl hun hdn hS hd K' hK=>?_);obtain⟨e13,e19,-⟩:=hd;have e13:f 13=_:=e13;have e19:f 19=_:=e19;have HK:=Jh hK;clear hK;have HSS:=Jh hS;clear hS;simp only[e13,e19]
      have HCz:=Jh (pick24_any xc 9 wq (by omega) HXo.o.2.2.1 HXo.o.2.2.2);go_simp;go_wp2_with fail;refine HCz.o.mono ?_;rintro e w9 ⟨rfl,rfl⟩;exact HK.o _ _ _ (by simp only[e13,e19];rfl) rfl (hq 20 l _ HSS.o) (rr _)
     refine stepsOf_cons0 (k:=21) (n:=4) ?_ ?_
     ·refine stepOf_run0 (atS (atS (atS (atS (atS (atS (atS (atS (atS (atS (atS (atS (atS (atS (atS (atS (atS (atS (atS (atS (atS (at0)))))))))))))))))))))) [20] (by kernel_rfl) (fun _ _=>rfl) (fun f wq l hf0 hl hun hdn hS hd K' hK=>?_);obtain⟨e20,-⟩:=hd;have e20:f 20=_:=e20;have HK:=Jh hK;clear hK;have hw9:=HW.o.symm;have hw8:=IntWalk.i64_in xw (by have:=HR1.o.2;unfold I64ok at this;omega)
      have HSS:=Jh hS;clear hS;simp only[e20];go_simp;exact HK.o _ _ _ (by simp only[e20];rfl) rfl (hq 21 l _ HSS.o) (rr _)
     refine stepsOf_cons0 (k:=22) (n:=3) ?_ ?_
     ·refine stepOf_run0 (atS (atS (atS (atS (atS (atS (atS (atS (atS (atS (atS (atS (atS (atS (atS (atS (atS (atS (atS (atS (atS (atS (at0))))))))))))))))))))))) [7,14,21] (by kernel_rfl) (fun _ _=>rfl) (fun f wq l hf0 hl hun hdn hS hd K' hK=>?_);obtain⟨e7,e14,e21,-⟩:=hd;have e7:f 7=_:=e7;have e14:f 14=_:=e14;have e21:f 21=_:=e21;have HK:=Jh hK;clear hK;have HSS:=Jh hS;clear hS;simp only[e7,e14,e21]
      go_simp;exact HK.o _ _ _ (by simp only[e7,e14,e21];rfl) rfl (hq 22 l _ HSS.o) (rr _)
     refine stepsOf_cons0 (k:=23) (n:=2) ?_ ?_
     ·refine stepOf_run0 (atS (atS (atS (atS (atS (atS (atS (atS (atS (atS (atS (atS (atS (atS (atS (atS (atS (atS (atS (atS (atS (atS (atS (at0)))))))))))))))))))))))) [22] (by kernel_rfl) (fun _ _=>rfl) (fun f wq l hf0 hl hun hdn hS hd K' hK=>?_);obtain⟨e22,-⟩:=hd;have e22:f 22=_:=e22;have HK:=Jh hK;clear hK;have HSS:=Jh hS;clear hS;simp only[e22];go_simp
      exact HK.o _ _ _ (by simp only[e22];rfl) ⟨_,rfl,fun _=>heap_alloc_new wq _⟩ (hq 23 l _ ⟨fun h=>bA (HSS.o.1 h),bA HSS.o.2⟩) (Tk.below (bA (bR wq)))
     refine stepsOf_cons0 (k:=24) (n:=1) ?_ ?_
     ·refine stepOf_run0 (atS (atS (atS (atS (atS (atS (atS (atS (atS (atS (atS (atS (atS (atS (atS (atS (atS (atS (atS (atS (atS (atS (atS (atS (at0))))))))))))))))))))))))) [0,20,23] (by kernel_rfl) (fun _ _=>rfl) (fun f wq l hf0 hl hun hdn hS hd K' hK=>?_);obtain⟨e0,e20,e23,-⟩:=hd;have e0:f 0=_:=e0;have e20:f 20=_:=e20
      have e23:∃g,(f 23)=.slice (some ⟨g,0,none⟩) 1 1/\((l 24)=false->wq.heap[g]?=some (.cells #[.int .i64 xh,.bool xd,.int .i64 xw] 56)):=e23;have HK:=Jh hK;clear hK;obtain⟨g9,h23,hgb⟩:=e23;have hx:=hgb hl;clear hf0;have hbq:=hS.1 hl;have hown:=own_tk (T:=[]) HO.o (Tk.below hbq) (by decide);have hS2:=hS.2;rw[if_pos (by rfl)]
      refine wp_append_rd _ _ _ 27 rfl w.heap.size 56 i0 _ 3 24 Tryz.underlying27 hi0 hz0 hz1 hz2 rfl (by decide) (.slice AP k cP) k (pkCells xs) (by simp only[e0];rfl) hown (some ⟨g9,0,none⟩) 1 1 [.int .i64 xh,.bool xd,.int .i64 xw] (by simp only[h23];rfl) ⟨rfl,fun _=>⟨g9,0,rfl,blk_lt hx,fun j u hu=>three_cell hx hu⟩⟩ (by simp[Value.oneCell']) (by unfold maxLen;omega) (by omega) hS2.size ?_
      intro v9 w9 hown9 hg9;obtain⟨A9,c9,rfl,_,_⟩:=own_slice hown9;have htk:=tk_grown hown hg9;rw[<-HPx.o] at hown9;exact HK.o _ _ _ (by first|rfl|(simp only[e0,e20,h23];rfl)) ⟨_,_,rfl,hown9⟩ ⟨fun h=>absurd h (by simp),hS2.grown hg9 hS2.size (fun r e=>(hown.lt r e).1)⟩ htk
     refine stepsOf_cons0 (k:=25) (n:=0) ?_ ?_
     ·refine stepOf_run0 (atS (atS (atS (atS (atS (atS (atS (atS (atS (atS (atS (atS (atS (atS (atS (atS (atS (atS (atS (atS (atS (atS (atS (atS (atS (at0)))))))))))))))))))))))))) [0,1,2,3,4,5,6,7,8,9,10,11,12,13,14,15,16,17,18,19,20,21,22,23,24] (by kernel_rfl) (fun _ _=>rfl) (fun f wq l hf0 hl hun hdn hS hd K' hK=>?_)
      obtain⟨e0,e1,e2,e3,e4,e5,e6,e7,e8,e9,e10,e11,e12,e13,e14,e15,e16,e17,e18,e19,e20,e21,e22,e23,e24,-⟩:=hd;have e0:f 0=_:=e0;have e1:f 1=_:=e1;have e2:f 2=_:=e2;have e3:f 3=_:=e3;have e4:f 4=_:=e4;have e5:f 5=_:=e5;have e6:f 6=_:=e6;have e7:f 7=_:=e7;have e8:f 8=_:=e8;have e9:f 9=_:=e9;have e10:f 10=_:=e10;have e11:f 11=_:=e11;have e12:f 12=_:=e12;have e13:f 13=_:=e13;have e14:f 14=_:=e14
      have e15:f 15=_:=e15;have e16:f 16=_:=e16;have e17:f 17=_:=e17;have e18:f 18=_:=e18;have e19:f 19=_:=e19;have e20:f 20=_:=e20;have e21:f 21=_:=e21;have e22:f 22=_:=e22;have e23:∃g,(f 23)=.slice (some ⟨g,0,none⟩) 1 1/\((l 24)=false->wq.heap[g]?=some (.cells #[.int .i64 xh,.bool xd,.int .i64 xw] 56)):=e23
      have e24:∃A c,(f 24)=.slice A (k+1) c/\wq.ownsRow w.heap.size 56 3 (.slice A (k+1) c) (k+1) (pkCells (xs++[⟨xh,xd,xw⟩])):=e24;have HK:=Jh hK;clear hK;obtain⟨A9,c9,h24,_⟩:=e24;have HSS:=Jh hS;clear hS;clear e23;simp only[h24,e0,e1,e2,e3,e4,e5,e6,e7,e8,e9,e10,e11,e12,e13,e14,e15,e16,e17,e18,e19,e20,e21,e22];go_simp
      exact HK.o _ _ _ (by simp only[h24,e0,e1,e2,e3,e4,e5,e6,e7,e8,e9,e10,e11,e12,e13,e14,e15,e16,e17,e18,e19,e20,e21,e22];rfl) ⟨_,_,h24,rfl⟩ (hq 25 l _ HSS.o) (rr _)
     exact trivial
    case fin=>
     intro fo wz lo hl hall hS;have a0:fo 0=_:=hall 0 (by decide);have a1:fo 1=_:=hall 1 (by decide);have a2:fo 2=_:=hall 2 (by decide);have a3:fo 3=_:=hall 3 (by decide);have a4:fo 4=_:=hall 4 (by decide);have a5:fo 5=_:=hall 5 (by decide);have a6:fo 6=_:=hall 6 (by decide);have a7:fo 7=_:=hall 7 (by decide);have a8:fo 8=_:=hall 8 (by decide);have a9:fo 9=_:=hall 9 (by decide)
     have a10:fo 10=_:=hall 10 (by decide);have a11:fo 11=_:=hall 11 (by decide);have a12:fo 12=_:=hall 12 (by decide);have a13:fo 13=_:=hall 13 (by decide);have a14:fo 14=_:=hall 14 (by decide);have a15:fo 15=_:=hall 15 (by decide);have a16:fo 16=_:=hall 16 (by decide);have a17:fo 17=_:=hall 17 (by decide);have a18:fo 18=_:=hall 18 (by decide);have a19:fo 19=_:=hall 19 (by decide)
     have a20:fo 20=_:=hall 20 (by decide);have a21:fo 21=_:=hall 21 (by decide);have a22:fo 22=_:=hall 22 (by decide);have a23:∃g,(fo 23)=.slice (some ⟨g,0,none⟩) 1 1/\((lo 24)=false->wz.heap[g]?=some (.cells #[.int .i64 xh,.bool xd,.int .i64 xw] 56)):=hall 23 (by decide)
     have a24:∃A c,(fo 24)=.slice A (k+1) c/\wz.ownsRow w.heap.size 56 3 (.slice A (k+1) c) (k+1) (pkCells (xs++[⟨xh,xd,xw⟩])):=hall 24 (by decide);have a25:∃A c,(fo 24)=.slice A (k+1) c/\(fo 25)=.slice A (k+1) c:=hall 25 (by decide);clear hall;obtain⟨A9,c9,h24,hown9⟩:=a24;obtain⟨Az,cz,hz24,h25⟩:=a25;rw[h24] at hz24;injection hz24 with hz1x _ hz3x
     subst hz1x hz3x;simp only[h25];have HO9:=Jh hown9;have HB9:=Jh hS.2;clear a0 a1 a2 a3 a4 a5 a6 a7 a8 a9 a10 a11 a12 a13 a14 a15 a16 a17 a18 a19 a20 a21 a22 a23 h24 h25 hown9 hS hl hq rr;obtain⟨WE,rfl⟩:=exE wz;go_wp2_with fail;go_roundw
     case rel=>exact⟨k+1,xs++[⟨xh,xd,xw⟩],by omega,by omega,by rw[List.length_append,HXL.o];rfl,by go_num,HO9.o,fun x hx=>(List.mem_append.1 hx).elim (HRN.o x) fun h=>by rw[List.mem_singleton.1 h];exact HR1.o,HB9.o⟩
     case measure=>simp[intOf];omega
   have hb20:decide ((k:Int)<20)=false:=by simp;omega
   go_wp2_with fail;go_ret;exact⟨⟨AP,k,cP,xs,rfl,HO.o,HXL.o,hk,hcP,HRN.o⟩,HBW.o⟩
  have hlb:decide ((k:Int)<(n:Int))=false:=by simp;omega
  have hlb2:decide (k<n)=false:=by simpa using hlt
  go_wp2_with fail;go_ret;exact⟨⟨AP,k,cP,xs,rfl,HO.o,HXL.o,hk,hcP,HRN.o⟩,HBW.o⟩
end Go.Proofs.YtnigadeohmlpiaaGreatDoor
