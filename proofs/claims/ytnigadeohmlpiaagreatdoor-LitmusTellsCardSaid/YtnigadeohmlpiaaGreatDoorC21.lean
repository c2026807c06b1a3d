/- Contracts and words: all picks that may be, handed out one by one; the picks that may be are handed out one by one. No condition of ours. -/
import Derived.Test.YtnigadeohmlpiaaGreatDoorC20
import Derived.Test.YtnigadeohmlpiaaGreatDoorC08
set_option maxHeartbeats 32000000
set_option maxRecDepth 100000
namespace Go.Proofs.YtnigadeohmlpiaaGreatDoor
open Go.RowKit
attribute [local go_sem] Oper.semAt_some
theorem pick_info:(Tryz.prog.info? 56).map (fun i=>(i.zero,i.size,i.bytes))=some (some (.agg #[.int .i64 0,.bool false,.int .i64 0]),3,24):=by kernel_rfl
def PxAt(px:Nat)(W:World)(fb pb:Option Nat):Prop:=
 ∃x0 x1 vF x3 x4 vP,W.heap[px]?=some (.cells #[x0,x1,vF,x3,x4,vP] 82)/\vF.ownBlock=fb/\vP.ownBlock=pb/\
  (∀g,fb=some g->∃cur fz,W.heap[g]?=some (.cells cur 32 fz))/\(∀g,pb=some g->∃cur fz,W.heap[g]?=some (.cells cur 56 fz))
theorem PxAt.same{px:Nat}{W:World}{fb pb fb' pb':Option Nat}(h:PxAt px W fb pb)(h':PxAt px W fb' pb'):fb=fb'/\pb=pb':=by obtain⟨x0,x1,vF,x3,x4,vP,h1,h2,h3,_⟩:=h;obtain⟨y0,y1,uF,y3,y4,uP,k1,k2,k3,_⟩:=h';rw[h1] at k1;simp only[Option.some.injEq,Obj.cells.injEq,Array.mk.injEq,List.cons.injEq,and_true] at k1;obtain⟨-,-,e1,-,-,e2⟩:=k1;exact⟨by rw[<-h2,<-k2,e1],by rw[<-h3,<-k3,e2]⟩
theorem PxAt.grown{px:Nat}{W W':World}{fb pb:Option Nat}(h:PxAt px W fb pb)(hg:W.grownBy W' none):PxAt px W' fb pb:=by
 obtain⟨x0,x1,vF,x3,x4,vP,h1,h2,h3,h4,h5⟩:=h;have key:∀{k:Nat} {o:Obj},W.heap[k]?=some o->W'.heap[k]?=some o:=fun hk=>(hg.block _ (blk_lt hk) (by simp)).trans hk;exact⟨x0,x1,vF,x3,x4,vP,key h1,h2,h3,fun g e=>(h4 g e).imp fun c h=>h.imp fun f h=>key h,fun g e=>(h5 g e).imp fun c h=>h.imp fun f h=>key h⟩
theorem PxAt.below{px:Nat}{W W':World}{fb pb:Option Nat}(h:PxAt px W fb pb)(hb:Below W.heap.size W W'):PxAt px W' fb pb:=h.grown (grown_below hb none)
def Kp(px:Nat)(W W':World):Prop:=
 ∀fb pb,PxAt px W fb pb->∃fb' pb',PxAt px W' fb' pb'/\W.heap.size<=W'.heap.size/\
  (∀(k:Nat) (cur:Array Value) (e:TypeId) (fz:Nat×Nat),W.heap[k]?=some (.cells cur e fz)->k≠px->some k≠fb->some k≠pb->W'.heap[k]?=some (.cells cur e fz))/\
  (fb'=fb\/∃g,fb'=some g/\W.heap.size<=g)/\(pb'=pb\/∃g,pb'=some g/\W.heap.size<=g)
theorem Kp.trans{px:Nat}{A B C:World}(h:Kp px A B)(k:Kp px B C):Kp px A C:=by
 intro fb pb hp;obtain⟨fb1,pb1,hp1,hs1,hk1,hf1,hq1⟩:=h fb pb hp;obtain⟨fb2,pb2,hp2,hs2,hk2,hf2,hq2⟩:=k fb1 pb1 hp1;refine⟨fb2,pb2,hp2,Nat.le_trans hs1 hs2,fun i cur e fz hi h1 h2 h3=>?_,?_,?_⟩
 ·refine hk2 i cur e fz (hk1 i cur e fz hi h1 h2 h3) h1 (fun e=>?_) (fun e=>?_)
  ·rcases hf1 with hf1|⟨g,hf1,hg⟩
   ·exact h2 (by rw[e,hf1])
   rw[hf1] at e;injection e with e
   have:=blk_lt hi;omega
  rcases hq1 with hq1|⟨g,hq1,hg⟩
  ·exact h3 (by rw[e,hq1])
  rw[hq1] at e;injection e with e
  have:=blk_lt hi;omega
 ·rcases hf2 with hf2|⟨g,hf2,hg⟩
  ·rw[hf2];exact hf1
  exact .inr ⟨g,hf2,by omega⟩
 rcases hq2 with hq2|⟨g,hq2,hg⟩
 ·rw[hq2];exact hq1
 exact .inr ⟨g,hq2,by omega⟩
theorem Kp.of_same{px:Nat}{W W':World}(hs:W.heap.size<=W'.heap.size)(hk:∀(k:Nat) (cur:Array Value) (e:TypeId) (fz:Nat×Nat),W.heap[k]?=some (.cells cur e fz)->W'.heap[k]?=some (.cells cur e fz)):Kp px W W':=by
 intro fb pb h;refine⟨fb,pb,?_,hs,fun k cur e fz hk' _ _ _=>hk k cur e fz hk',.inl rfl,.inl rfl⟩;obtain⟨x0,x1,vF,x3,x4,vP,h1,h2,h3,h4,h5⟩:=h;exact⟨x0,x1,vF,x3,x4,vP,hk _ _ _ _ h1,h2,h3,fun g e=>(h4 g e).imp fun c h=>h.imp fun f h=>hk _ _ _ _ h,fun g e=>(h5 g e).imp fun c h=>h.imp fun f h=>hk _ _ _ _ h⟩
theorem Kp.below{px:Nat}{W W':World}(hb:Below W.heap.size W W'):Kp px W W':=Kp.of_same hb.size fun _ _ _ _ hk=>blk_below hb hk
theorem Kp.put{px:Nat}(W:World)(l:Nat)(o o':Obj)(h:W.heap[l]?=some o)(hc:o.isCells=false):Kp px W (W.putObj l o'):=
 Kp.of_same (by simp) fun k cur e fz hk=>(World.putObj_heap_other (fun e1=>by subst e1;rw[h] at hk;cases hk;cases hc)).trans hk
theorem Kp.sees{px:Nat}{W W':World}{fb pb:Option Nat}(h:Kp px W W')(hp:PxAt px W fb pb):Sees W W':=by
 obtain⟨fb1,pb1,_,hs1,hk1,_,_⟩:=h fb pb hp;obtain⟨x0,x1,vF,x3,x4,vP,h1,h2,h3,h4,h5⟩:=hp;refine⟨hs1,fun k cur e fz e1 e2 e3 hk=>hk1 k cur e fz hk (fun e=>?_) (fun e=>?_) (fun e=>?_)⟩
 ·subst e;rw[h1] at hk;cases hk;exact e1 rfl
 ·obtain⟨c9,f9,h9⟩:=h4 k e.symm;rw[h9] at hk;cases hk;exact e2 rfl
 obtain⟨c9,f9,h9⟩:=h5 k e.symm;rw[h9] at hk;cases hk;exact e3 rfl
def candH(s:St)(h:Nat):List Pk:=⟨(h:Int),false,0⟩::(List.range (s.m.pend.getD h []).length).map fun(i:Nat)=>(⟨(h:Int),true,(i:Int)⟩:Pk)
def candK(s:St)(h:Nat):List Pk:=(List.range h).flatMap (candH s)
def mayK(l:List Ev)(s:St)(L:List Pk):List Pk:=L.filter fun x=>(s.next l x).isSome
abbrev Hand:=Pk×St×Value
def handV(x:Hand):Array Value:=#[pickV x.1,x.2.2]
def HandOk(l:List Ev)(n:Nat)(s:St)(pre:List Hand)(x:Hand)(W:World):Prop:=(pre++[x]).map (·.1)<+:mayK l s (candK s 4)/\s.next l x.1=some x.2.1/\IsSt W x.2.2 n x.2.1/\I64ok x.1.h/\I64ok x.1.w
theorem picks_any(A:Option Addr)(n c:Nat)(v:Value)(s:St)(w:World)(hs:IsSt w v n s):
  Calls Tryz.prog 65 #[.agg #[.slice A n c],v] w fun e w'=>∃bP bS cs,e=.returned (.func (.func 96) #[] #[.pointer (some ⟨bS,0,none⟩),.pointer (some ⟨bP,0,none⟩)])/\Below w.heap.size w w'/\v=.agg cs/\
   w'.heap[bP]?=some (.cells #[.slice A n c] 68)/\w'.heap[bS]?=some (.cells cs 70):=by
 obtain⟨A1,c1,A2,c2,A3,c3,AD,cD,AT,cT,rfl⟩:=hs.form;have hmf:∀(fn:Fn) (first cap:Array Value) (w:World),(Instr.makeFunc fn first cap).run Tryz.prog w=.ok (.func fn first cap) w:=fun _ _ _ _=>rfl
 obtain⟨W1,hW1⟩:=exE (w.alloc (.cells #[.slice A n c] 68));have h1:=heap_alloc_new w (.cells #[.slice A n c] 68);have h2:=heap_alloc_new W1 (.cells #[.slice A1 4 c1,.slice A2 4 c2,.slice A3 4 c3,.slice AD n cD,.slice AT n cT] 70);have k1:Below w.heap.size w W1:=hW1▸bA (bR w);have k2:=bA (o:=.cells #[.slice A1 4 c1,.slice A2 4 c2,.slice A3 4 c3,.slice AD n cD,.slice AT n cT] 70) (bR W1)
 have H1:=Jh (blk_below k2 (show W1.heap[w.heap.size]?=_ from hW1▸h1));have H2:=Jh h2;have HB:=Jh (bT k1 k2);have HS:=Jh (show W1.heap.size=w.heap.size+1 by rw[hW1,World.size_alloc]);subst hW1;clear hs h1 h2 k1 k2;go_enter Tryz.func65,Tryz.ntmps65;go_wp2_with fail;go_ret;exact⟨w.heap.size,w.heap.size+1,_,rfl,HB.o,rfl,H1.o,by rw[<-HS.o];exact H2.o⟩
end Go.Proofs.YtnigadeohmlpiaaGreatDoor
namespace Go.Proofs.YtnigadeohmlpiaaGreatDoor
open Go.RowKit
attribute [local go_sem] Oper.semAt_some
def candL(h i:Nat):List Pk:=⟨(h:Int),false,0⟩::(List.range i).map fun(i:Nat)=>(⟨(h:Int),true,(i:Int)⟩:Pk)
theorem candL_len(h i:Nat):(candL h i).length=i+1:=by simp[candL]
theorem candL_succ(h i:Nat):candL h (i+1)=candL h i++[⟨(h:Int),true,(i:Int)⟩]:=by simp[candL,List.range_succ]
theorem candL_mem{h i:Nat}{x:Pk}(hx:x∈candL h i)(hh:h<4)(hi:i<=8):I64ok x.h/\I64ok x.w:=by
 unfold I64ok;rcases List.mem_cons.1 hx with rfl|hx
 ·dsimp only;omega
 obtain⟨j,hj,rfl⟩:=List.mem_map.1 hx;have:=List.mem_range.1 hj;dsimp only;omega
theorem candH_eq{s:St}{h:Nat}{p:List (Int×Int)}(hp:s.m.pend[h]?=some p):candH s h=candL h p.length:=by unfold candH candL;rw[List.getD_eq_getElem?_getD,hp];rfl
theorem candK_succ(s:St)(h:Nat):candK s (h+1)=candK s h++candH s h:=by simp[candK,List.range_succ,List.flatMap_append]
theorem candK_pre(s:St){h m:Nat}(hm:h<=m):candK s h<+:candK s m:=by
 induction m with
 |zero=>
  obtain rfl:h=0:=by omega
  exact List.prefix_refl _
 |succ m ih=>
  rcases Nat.lt_or_ge m h with h1|h1
  ·rw[show h=m+1 by omega];exact List.prefix_refl _
  rw[candK_succ];exact(ih h1).trans (List.prefix_append _ _)
theorem mayK_pre{l:List Ev}{s:St}{h k i:Nat}(hh:h<4)(hc:candH s h=candL h i):mayK l s (candK s h++(candL h i).take k)<+:mayK l s (candK s 4):=by refine List.IsPrefix.filter _ (List.IsPrefix.trans ?_ (candK_pre s (show h+1<=4 by omega)));rw[candK_succ,hc];exact(List.prefix_append_right_inj _).2 (List.take_prefix _ _)
theorem mayK_snoc_yes{l:List Ev}{s s':St}{L:List Pk}{x:Pk}(h:s.next l x=some s'):mayK l s (L++[x])=mayK l s L++[x]:=by simp[mayK,List.filter_append,h]
theorem mayK_snoc_no{l:List Ev}{s:St}{L:List Pk}{x:Pk}(h:s.next l x=none):mayK l s (L++[x])=mayK l s L:=by simp[mayK,List.filter_append,h]
theorem pkCells_snoc(L:List Pk)(x:Pk):pkCells (L++[x])=pkCells L++[.int .i64 x.h,.bool x.d,.int .i64 x.w]:=by simp[pkCells,List.flatMap_append]
theorem take_next{α:Type}{L:List α}{k:Nat}{x:α}(h:L[k]?=some x):L.take (k+1)=L.take k++[x]:=by rw[List.take_add_one,h];rfl
theorem three_cells{w:World}{g j:Nat}{x y z u:Value}{t:TypeId}(h:w.heap[g]?=some (.cells #[x,y,z] t))(hu:[x,y,z][j]?=some u):w.cell? ⟨g,0+j,none⟩=some u:=by rw[cell_of_row w g _ _ _ _ h];simpa using hu
theorem picks1_seq(bS bP n c px:Nat)(A:Option Addr)(cs:Array Value)(l:List Ev)(s:St)(w:World)(fb pb:Option Nat)(hl:Prog l)(he:IsEvs w A n c l)(hs:IsSt w (.agg cs) n s)
  (hbP:w.heap[bP]?=some (.cells #[.slice A n c] 68)) (hbS:w.heap[bS]?=some (.cells cs 70)) (hpx:PxAt px w fb pb):
  SeqV Fence.wide 2 Tryz.prog 96 #[.pointer (some ⟨bS,0,none⟩),.pointer (some ⟨bP,0,none⟩)] handV (HandOk l n s) (Kp px) (fun ys=>ys.map (·.1)=mayK l s (candK s 4)) (fun ys=>ys.map (·.1)<+:mayK l s (candK s 4)) w:=by
 intro l0 J Jx W hb hJ hY h0;obtain⟨i0,hi,hz0,hz1,hz2⟩:=info_parts pick_info;have HS:=Jh hs;obtain⟨v1,v2,v3,AD,cD,AT,cT,hcs,him,_,_,_,_⟩:=hs.is;injection hcs with hcs
 obtain⟨A1,c1,rfl,_⟩:=him.ws;obtain⟨A2,c2,pv,rfl,hr2,hp⟩:=him.ps;obtain⟨A3,c3,rfl,_⟩:=him.rs;subst hcs;have HOk:=Jh him.ok;have HR2:=Jh hr2;have HPv:=Jh hp;have HPr:=Jh hl;have HE:=Jh he;have HbP:=Jh hbP;have HbS:=Jh hbS;have HPx:=Jh hpx;have HJ:=Jh hJ;have HY:=Jh hY;have HK0:=Jh (Kp.below (px:=px) (W:=w) (W':=W) (Below.mono hb (Nat.le_refl _)));have HJ0:=Jh h0
 obtain⟨_,r1,_⟩:=cells5 (blk_below hb hbS);clear hs him hr2 hp hl he hbP hbS hpx hJ hY h0 hb;refine(callsIn_wide (n:=2)).2 ?_;go_enter Tryz.func96,Tryz.ntmps96;go_wp2_with fail;clear r1;go_loopw [16] (fun v wr=>∃(h:Nat) (xs:List Hand),h<=4/\v=.int .i64 (h:Int)/\xs.map (·.1)=mayK l s (candK s h)/\J xs wr/\Kp px w wr) (fun v _=>4-(intOf v).toNat);case atStart=>exact⟨0,[],by omega,rfl,rfl,HJ0.o,HK0.o⟩
 case round=>
  obtain⟨h,xs,hh,rfl,hx,hj,hkp⟩:=hrel;obtain⟨w1,rfl⟩:=exE wr;have HX:=Jh hx;have HJ1:=Jh hj;have HKp:=Jh hkp;have HSee:=Jh (hkp.sees HPx.o);clear hx hj hkp;by_cases hlt:h<4
  ·have h4:(h:Int)<4:=by omega
   obtain⟨p,hpk⟩:∃p,s.m.pend[h]?=some p:=⟨_,List.getElem?_eq_getElem (by rw[HOk.o.lp];exact hlt)⟩;obtain⟨A4,c4,he4,_,_⟩:=HPv.o h p hpk;obtain⟨n4,hn4⟩:=exE (p.length);have hn8:n4<=8:=hn4▸HOk.o.few p (List.mem_of_getElem? hpk);rw[<-hn4] at he4;have HCand:=Jh (show candH s h=candL h n4 by rw[hn4];exact candH_eq hpk)
   obtain⟨ba,off,u,hA2,hu,hcell⟩:=((HR2.o.sees HSee.o (by decide) (by decide) (by decide)).rd.at1 hlt);rw[he4] at hu;injection hu with hu
   subst hu;subst hA2;clear he4 hn4 hpk;obtain⟨W1,hW1⟩:=exE (w1.alloc (.cells #[.int .i64 (h:Int),.bool false,.int .i64 0] 56));obtain⟨g1,hg1⟩:=exE (w1.heap.size);have HB1:=Jh (show Below w1.heap.size w1 W1 from hW1▸bA (bR w1))
   have HO1:=Jh (show W1.ownsRow w1.heap.size 56 3 (.slice (some ⟨g1,0,none⟩) 1 1) 1 (pkCells (candL h 0)) by rw[hW1,hg1];exact World.ownsRow_lit w1 #[.int .i64 (h:Int),.bool false,.int .i64 0] 1 (Nat.le_refl _) (by decide) rfl);have HG1:=Jh hg1;go_upto_region 4 with fail
   rw[<-hW1,<-hg1];clear hW1 hg1 hcell;go_wp2_with fail;go_loopw [6,26] (fun va vi w2=>∃i:Nat,i<=n4/\vi=.int .i64 (i:Int)/\w2.ownsRow w1.heap.size 56 3 va (i+1) (pkCells (candL h i))/\Below w1.heap.size w1 w2) (fun _ vi _=>n4-(intOf vi).toNat);case atStart=>exact⟨0,by omega,rfl,HO1.o,HB1.o⟩
   case round=>
    obtain⟨i,hin,rfl,hown,hb2⟩:=hrel;obtain⟨w2,rfl⟩:=exE wr;have HB2:=Jh hb2;obtain⟨Aa,ca,rfl,hca,_⟩:=own_slice hown;have HO2:=Jh hown;clear hb2 hown;by_cases hlt2:i<n4
    ·have hlb:decide ((i:Int)<(n4:Int))=true:=by simp;omega
     have HNw:=Jh (heap_alloc_new w2 (.cells #[.int .i64 (h:Int),.bool true,.int .i64 (i:Int)] 56));have HOl:=Jh (HO2.o.alloc (.cells #[.int .i64 (h:Int),.bool true,.int .i64 (i:Int)] 56))
     go_wp2_with (at_builtin;refine wpList_append_rd _ rfl (.tmp 29) (.tmp 33) 27 rfl w1.heap.size 56 i0 _ 3 24 Tryz.underlying27 hi hz0 hz1 hz2 rfl (by decide) (.slice Aa (i+1) ca) (i+1) _ rfl HOl.o (some ⟨w2.heap.size,0,none⟩) 1 1 [.int .i64 (h:Int),.bool true,.int .i64 (i:Int)] rfl ⟨rfl,fun _=>⟨w2.heap.size,0,rfl,blk_lt HNw.o,fun j u hu=>three_cells HNw.o hu⟩⟩ (by simp[Value.oneCell']) (by unfold maxLen;omega) (by omega) (by have:=HB2.o.size;simp;omega) ?_;intro v' w3 hown' hgrow)
     go_roundw;case rel=>refine⟨i+1,by omega,by go_num,?_,(bA HB2.o).grown hgrow (bA HB2.o).size (fun r e=>(HOl.o.lt r e).1)⟩;rw[candL_succ,pkCells_snoc];exact hown'
     case measure=>simp[intOf];omega
    have hlb:decide ((i:Int)<(n4:Int))=false:=by simp;omega
    have hie:i=n4:=by omega
    obtain⟨b9,off9,cur,fz,e9,hg9,hc9⟩:=(Row.of_own HO2.o).2 (by omega);have HG9:=Jh (own_block_ge HO2.o (b:=b9) (by rw[e9];rfl));have HLn:=Jh (Row.of_own HO2.o).1;subst e9;have HC9:=Jh hc9;have HH9:=Jh hg9;have HIe:=Jh hie;obtain⟨fb1,pb1,hpx1,_⟩:=HKp.o fb pb HPx.o;have HNe:=Jh (show some b9≠fb1/\some b9≠pb1 from by
     obtain⟨x0,x1,vF,x3,x4,vP,_,_,_,k4,k5⟩:=hpx1;refine⟨fun e=>?_,fun e=>?_⟩
     ·obtain⟨_,_,k⟩:=k4 b9 e.symm;have:=blk_lt k;have:=HG9.o;omega
     obtain⟨_,_,k⟩:=k5 b9 e.symm;have:=blk_lt k;have:=HG9.o;omega)
    have HPx2:=Jh (hpx1.below HB2.o);have HK2:=Jh (HKp.o.trans (Kp.below HB2.o));have HJ2:=Jh (HJ.o xs w1 w2 HJ1.o (grown_below HB2.o none));clear hie hg9 hc9 hpx1 HJ1;go_wp2_with fail
    go_loopw [38] (fun vk w5=>∃(k:Nat) (ys:List Hand) (fb1 pb1:Option Nat),k<=i+1/\vk=.int .i64 (k:Int)/\ys.map (·.1)=mayK l s (candK s h++(candL h i).take k)/\J ys w5/\Kp px w w5/\PxAt px w5 fb1 pb1/\some b9≠fb1/\some b9≠pb1/\w5.heap[b9]?=some (.cells cur 56 fz)) (fun vk _=>i+1-(intOf vk).toNat)
    case atStart=>exact⟨0,xs,fb1,pb1,by omega,rfl,by rw[List.take_zero,List.append_nil];exact HX.o,HJ2.o,HK2.o,HPx2.o,HNe.o.1,HNe.o.2,HH9.o⟩
    case round=>
     obtain⟨k,ys,fb2,pb2,hk,rfl,hyx,hj5,hk5,hp5,hn5,hn6,hg5⟩:=hrel;obtain⟨w5,rfl⟩:=exE wr;have HYX:=Jh hyx;have HJ5:=Jh hj5;have HK5:=Jh hk5;have HP5:=Jh hp5;have HN5:=Jh (And.intro hn5 hn6);have HG5:=Jh hg5;have HSe5:=Jh (hk5.sees HPx.o);clear hyx hj5 hk5 hp5 hn5 hn6 hg5;by_cases hlt3:k<i+1
     ·have hlb3:decide ((k:Int)<((i+1:Nat):Int))=true:=by simp;omega
      have hki:(k:Int)<((i+1:Nat):Int):=by omega
      have hpks:IsPks w5 (some ⟨b9,off9,none⟩) (i+1) ca (candL h i):=⟨candL_len h i,⟨HLn.o,fun _=>⟨b9,off9,cur,fz,rfl,HG5.o,HC9.o⟩⟩,fun x hx=>candL_mem hx hlt (by omega)⟩;obtain⟨bx,ox,x,hB,hxk,hc0,hc1,hc2⟩:=hpks.at_ hlt3;have hrng:=hpks.rng x (List.mem_of_getElem? hxk);simp only[Option.some.injEq,Addr.mk.injEq,and_true] at hB;obtain⟨rfl,rfl⟩:=hB;have HXK:=Jh hxk
      obtain⟨W6,hW6⟩:=exE (w5.alloc (.cells #[.int .i64 x.h,.bool x.d,.int .i64 x.w] 56));have k6:Below w5.heap.size w5 W6:=hW6▸bA (bR w5);have HNx:=Jh (next_any A n c l _ s x W6 HPr.o (HE.o.sees (HSe5.o.trans (Below.sees k6))) (HS.o.sees (HSe5.o.trans (Below.sees k6))) hrng.1 hrng.2);have HB6:=Jh k6;obtain⟨q0,q1,q2,_⟩:=cells3 (heap_alloc_new w5 (.cells #[.int .i64 x.h,.bool x.d,.int .i64 x.w] 56))
      have HRng:=Jh hrng;obtain⟨xh,xd,xw⟩:=x;unfold pickV at HNx;clear k6 hxk hrng hpks;dsimp only at*;go_upto_region 12 with fail
      obtain⟨r0,_⟩:=cell1 (blk_below HB6.o (HSe5.o.2 _ _ _ _ (by decide) (by decide) (by decide) HbP.o));obtain⟨t0,t1,t2,t3,t4,_⟩:=cells5 (blk_below HB6.o (HSe5.o.2 _ _ _ _ (by decide) (by decide) (by decide) HbS.o));have HQ:=Jh (heap_alloc_new w5 (.cells #[.int .i64 xh,.bool xd,.int .i64 xw] 56));obtain⟨b6,hb6⟩:=exE (w5.heap.size);rw[<-hW6,<-hb6] at HQ;rw[<-hW6] at q0 q1 q2;rw[<-hb6] at q0 q1 q2
      rw[<-hW6,<-hb6];clear hW6 hb6 hc0 hc1 hc2;go_wp2_with fail;refine HNx.o.mono ?_;rintro e w7 ⟨hni,hb7⟩;have HB7:=Jh (bT HB6.o hb7);have HQ7:=Jh (blk_below hb7 HQ.o);clear hb7 r0 t0 t1 t2 t3 t4 q0 q1 q2;cases hnx:s.next l ⟨xh,xd,xw⟩ with
      |none=>
       rw[hnx] at hni;obtain⟨_,_,_,_,_,⟨a1,m1,d1,rfl⟩,⟨a2,m2,d2,rfl⟩,⟨a3,m3,d3,rfl⟩,⟨a4,m4,d4,rfl⟩,⟨a5,m5,d5,rfl⟩,rfl⟩:=hni;have HM:=Jh (mayK_snoc_no (L:=candK s h++(candL h i).take k) hnx);clear hnx;have KJ:=Jh (bT HB7.o (bA (o:=.cells #[.slice a1 m1 d1,.slice a2 m2 d2,.slice a3 m3 d3,.slice a4 m4 d4,.slice a5 m5 d5] 70) (bR w7)));go_wp2_with fail;go_roundw
       case rel=>refine⟨k+1,ys,fb2,pb2,by omega,by go_num,?_,HJ.o ys w5 _ HJ5.o (grown_below KJ.o none),HK5.o.trans (Kp.below KJ.o),HP5.o.below KJ.o,HN5.o.1,HN5.o.2,blk_below KJ.o HG5.o⟩;rw[take_next HXK.o,<-List.append_assoc,HM.o];exact HYX.o
       case measure=>simp[intOf];omega
      |some s'=>
       rw[hnx] at hni;obtain⟨v',rfl,hst'⟩:=hni;obtain⟨G1,e1,G2,e2,G3,e3,GD,eD,GT,eT,rfl⟩:=hst'.form;have HM:=Jh (mayK_snoc_yes (L:=candK s h++(candL h i).take k) hnx);obtain⟨W8,hW8⟩:=exE (w7.alloc (.cells #[.slice G1 4 e1,.slice G2 4 e2,.slice G3 4 e3,.slice GD n eD,.slice GT n eT] 70));obtain⟨b8,hb8⟩:=exE (w7.heap.size);have k8:Below w7.heap.size w7 W8:=hW8▸bA (bR w7);have KJ:=Jh (bT HB7.o k8)
       have H88:=Jh (show W8.heap[b8]?=some (.cells #[.slice G1 4 e1,.slice G2 4 e2,.slice G3 4 e3,.slice GD n eD,.slice GT n eT] 70) by rw[hW8,hb8];exact heap_alloc_new w7 _);have H68:=Jh (blk_below k8 HQ7.o);have HJ8:=Jh (HJ.o ys w5 W8 HJ5.o (grown_below KJ.o none));have HP8:=Jh (HP5.o.below KJ.o);have HK8:=Jh (HK5.o.trans (Kp.below KJ.o));have HG8:=Jh (blk_below KJ.o HG5.o)
       have HEd:=Jh (show(ys++[((⟨xh,xd,xw⟩,s',.agg #[.slice G1 4 e1,.slice G2 4 e2,.slice G3 4 e3,.slice GD n eD,.slice GT n eT]):Hand)]).map (·.1)<+:mayK l s (candK s 4) by have hpr:=mayK_pre (l:=l) (k:=k+1) hlt (HCand.o.trans (congrArg (candL h) HIe.o.symm));rw[take_next HXK.o,<-List.append_assoc,HM.o] at hpr;rw[List.map_append,HYX.o];exact hpr)
       have HV:=Jh (show HandOk l n s ys (⟨xh,xd,xw⟩,s',.agg #[.slice G1 4 e1,.slice G2 4 e2,.slice G3 4 e3,.slice GD n eD,.slice GT n eT]) W8 from⟨HEd.o,hnx,hst'.sees (Below.sees k8),HRng.o.1,HRng.o.2⟩);clear hnx hst' k8;go_upto_region 13 with fail
       rw[<-hW8,<-hb8];clear hW8 hb8;obtain⟨q0,q1,q2,_⟩:=cells3 H68.o;obtain⟨y0,y1,y2,y3,y4,_⟩:=cells5 H88.o;obtain⟨fn,tmps,assign,body,hy,hR⟩:=HY.o ys (⟨xh,xd,xw⟩,s',.agg #[.slice G1 4 e1,.slice G2 4 e2,.slice G3 4 e3,.slice GD n eD,.slice GT n eT]) W8 HJ8.o HV.o;unfold handV pickV at hy;dsimp only at hy;have HR8:=Jh hR;clear hR;refine(wpIn_wide (n:=2)).1 ?_
       gi_wp2
       refine HR8.o.mono ?_;rintro e w9 (⟨rfl,hJ9,hk9⟩|⟨rfl,hJx9⟩)
       ·obtain⟨fb3,pb3,hp3,_,hk3,hf3,hq3⟩:=hk9 fb2 pb2 HP8.o;have HG9:=Jh (hk3 b9 cur 56 fz HG8.o (fun e=>by obtain⟨x0,x1,vF,x3,x4,vP,k1,_⟩:=HP8.o;have k2:=HG8.o;rw[e,k1] at k2;cases k2) HN5.o.1 HN5.o.2);have HN3:=Jh (show some b9≠fb3/\some b9≠pb3 from⟨fun e=>by
         rcases hf3 with hf3|⟨g,hf3,hg⟩
         ·exact HN5.o.1 (e.trans hf3)
         ·rw[hf3] at e;injection e with e
          have:=blk_lt HG8.o;omega,fun e=>by
         rcases hq3 with hq3|⟨g,hq3,hg⟩
         ·exact HN5.o.2 (e.trans hq3)
         rw[hq3] at e;injection e with e
         have:=blk_lt HG8.o;omega⟩)
        have HP9:=Jh hp3;have HJ9:=Jh hJ9;have HK9:=Jh (HK8.o.trans hk9);clear hp3 hk3 hf3 hq3 hJ9 hk9
        gi_wp2
        change Code.wp _ _ _ _ _;go_wp2_with fail;go_roundw;case rel=>refine⟨k+1,_,fb3,pb3,by omega,by go_num,?_,HJ9.o,HK9.o,HP9.o,HN3.o.1,HN3.o.2,HG9.o⟩;rw[take_next HXK.o,<-List.append_assoc,HM.o,List.map_append,HYX.o];rfl
        case measure=>simp[intOf];omega
       gi_wp2
       change Code.wp _ _ _ _ _;go_wp2_with fail;refine bodyPost_ret (results_none rfl _ _ _) rfl ?_;exact⟨⟨_,rfl⟩,.inr ⟨_,HEd.o,hJx9⟩⟩
     have hlb3:decide ((k:Int)<((i+1:Nat):Int))=false:=by simp;omega
     have HEnd:=Jh (show ys.map (·.1)=mayK l s (candK s (h+1)) by rw[HYX.o,candK_succ,HCand.o,<-HIe.o,List.take_of_length_le (by rw[candL_len];omega)]);go_wp2_with fail;go_roundw;case rel=>exact⟨h+1,ys,by omega,by go_num,HEnd.o,HJ5.o,HK5.o⟩
     case measure=>simp[intOf];omega
  have hlb:decide ((h:Int)<4)=false:=by simp;omega
  have HEnd:=Jh (show xs.map (·.1)=mayK l s (candK s 4) by rw[HX.o,show h=4 by omega]);go_wp2_with fail;go_end0;exact⟨⟨_,rfl⟩,.inl ⟨xs,HEnd.o,HJ1.o⟩⟩
end Go.Proofs.YtnigadeohmlpiaaGreatDoor
