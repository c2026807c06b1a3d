/- Contracts of the document's answer for layer 13: a program's first state, and whether no event is left. Their condition: where the events and the state stand. -/
import Derived.Test.YtnigadeohmlpiaaGreatDoorC38
set_option maxHeartbeats 32000000
set_option maxRecDepth 100000
namespace Go.Proofs.YtnigadeohmlpiaaGreatDoor
open Go.RowKit
attribute [local go_sem] Oper.semAt_some
theorem ret62{fn:Func}{p:Tmp}{tmps:Array Value}{w:World}{b:Nat}{x y z u v:Value}(hfn:fn.results=#[.cell p 62])(hp:tmps.getD p undef=.pointer (some ⟨b,0,none⟩))
  (h:w.heap[b]?=some (.cells #[x,y,z,u,v] 62)):(results fn tmps).run Tryz.prog w=.ok (.agg #[x,y,z,u,v]) w:=by
 rw[results_cell1 hfn,hp];obtain⟨h0,h1,h2,h3,h4,_⟩:=cells5 h;simp[go_sem,h0,h1,h2,h3,h4]
theorem start28_any(A:Option Addr)(n c:Nat)(w:World)(hn:n<=6):
  Calls Tryz.prog 28 #[.slice A n c] w fun e w'=>(∃v,e=.returned v/\IsSt w' v n (St.first n))/\Below w.heap.size w w':=by
 obtain⟨b2,hb2⟩:=exE (w.heap.size);obtain⟨W0,hW0⟩:=exE (w.alloc (.cells #[.slice none 0 0,.slice none 0 0,.slice none 0 0,.slice none 0 0,.slice none 0 0] 62));have HB0:=Jh (show Below w.heap.size w W0 from hW0▸bA (bR w));have H2:=Jh (show W0.heap[b2]?=some (.cells #[.slice none 0 0,.slice none 0 0,.slice none 0 0,.slice none 0 0,.slice none 0 0] 62) by rw[hW0,hb2];exact heap_alloc_new w _)
 have HL:=Jh (show w.heap.size<=b2 by omega);have HNw:=Jh (new49_any W0);go_enter Tryz.func28,Tryz.ntmps28;go_wp2_with fail;rw[<-hb2,<-hW0];clear hb2 hW0;refine HNw.o.mono ?_;rintro e w1 ⟨⟨v1,v2,v3,rfl,him⟩,hbw⟩;obtain⟨A1,c1,rfl,hr1⟩:=him.ws;obtain⟨A2,c2,pv,rfl,hr2,hp⟩:=him.ps;obtain⟨A3,c3,rfl,hr3⟩:=him.rs;have HM:=Jh him;have HB1:=Jh (bT HB0.o hbw);have H21:=Jh (blk_below hbw H2.o)
 clear him hr1 hr2 hr3 hp hbw;go_wp2_with fail;obtain⟨b3,hb3⟩:=exE (w1.heap.size);obtain⟨W2,hW2⟩:=exE (w1.alloc (.cells #[.slice A1 4 c1,.slice A2 4 c2,.slice A3 4 c3] 59));have hb12:Below w1.heap.size w1 W2:=hW2▸bA (bR w1);rw[<-hb3,<-hW2];have HB2:=Jh (bT HB1.o hb12);have H22:=Jh (blk_below hb12 H21.o)
 have H32:=Jh (show W2.heap[b3]?=some (.cells #[.slice A1 4 c1,.slice A2 4 c2,.slice A3 4 c3] 59) by rw[hW2,hb3];exact heap_alloc_new w1 _);have HM2:=Jh (HM.o.sees (Below.sees hb12));clear hb12 hb3 hW2
 have hq:∀(k:Nat) (l:Nat->Bool) (wx:World),(Below w.heap.size w wx/\(∃x y z u v,wx.heap[b2]?=some (.cells #[x,y,z,u,v] 62))/\wx.heap[b3]?=some (.cells #[.slice A1 4 c1,.slice A2 4 c2,.slice A3 4 c3] 59)/\IsMem wx (.slice A1 4 c1) (.slice A2 4 c2) (.slice A3 4 c3) Mm.zero)->(Below w.heap.size w wx/\(∃x y z u v,wx.heap[b2]?=some (.cells #[x,y,z,u,v] 62))/\wx.heap[b3]?=some (.cells #[.slice A1 4 c1,.slice A2 4 c2,.slice A3 4 c3] 59)/\IsMem wx (.slice A1 4 c1) (.slice A2 4 c2) (.slice A3 4 c3) Mm.zero):=fun _ _ _ h=>h
 have rr:∀{T:List TypeId} (wx:World),Tk T wx wx:=fun wx=>Tk.refl _ wx;have tn4:∀(i:Nat),4∉(if i=8 then[62] else[]:List TypeId):=fun i=>by split<;>decide
 have tn3:∀(i:Nat),3∉(if i=8 then[62] else[]:List TypeId):=fun i=>by split<;>decide
 have lt2:∀{wx:World},(Below w.heap.size w wx/\(∃x y z u v,wx.heap[b2]?=some (.cells #[x,y,z,u,v] 62))/\wx.heap[b3]?=some (.cells #[.slice A1 4 c1,.slice A2 4 c2,.slice A3 4 c3] 59)/\IsMem wx (.slice A1 4 c1) (.slice A2 4 c2) (.slice A3 4 c3) Mm.zero)->b2<wx.heap.size:=fun⟨_,⟨_,_,_,_,_,h⟩,_⟩=>blk_lt h
 have ss:∀{wx w2:World},Below wx.heap.size wx w2->(Below w.heap.size w wx/\(∃x y z u v,wx.heap[b2]?=some (.cells #[x,y,z,u,v] 62))/\wx.heap[b3]?=some (.cells #[.slice A1 4 c1,.slice A2 4 c2,.slice A3 4 c3] 59)/\IsMem wx (.slice A1 4 c1) (.slice A2 4 c2) (.slice A3 4 c3) Mm.zero)->(Below w.heap.size w w2/\(∃x y z u v,w2.heap[b2]?=some (.cells #[x,y,z,u,v] 62))/\w2.heap[b3]?=some (.cells #[.slice A1 4 c1,.slice A2 4 c2,.slice A3 4 c3] 59)/\IsMem w2 (.slice A1 4 c1) (.slice A2 4 c2) (.slice A3 4 c3) Mm.zero):=fun h ⟨h1,⟨x,y,z,u,v,h3⟩,h4,h5⟩=>⟨bT h1 h,⟨x,y,z,u,v,blk_below h h3⟩,blk_below h h4,h5.sees (Below.sees h)⟩
 refine wp_region_det (by kernel_rfl) (fun f=>(⟨#[Value.slice A n c,undef,Value.pointer (some ⟨b2,0,none⟩),Value.pointer (some ⟨b3,0,none⟩),.int .i64 0,Value.tuple #[Value.agg #[Value.slice A1 4 c1,Value.slice A2 4 c2,Value.slice A3 4 c3],.int .i64 0],Value.tuple #[Value.agg #[Value.slice A1 4 c1,Value.slice A2 4 c2,Value.slice A3 4 c3],.int .i64 0],Value.agg #[Value.slice A1 4 c1,Value.slice A2 4 c2,Value.slice A3 4 c3],.int .i64 0,f 0,f 1,f 2,f 3,f 4,f 5,f 6,f 7],[]⟩:Act)) (fun(iv:Nat) (lv:Nat->Bool) (fv:Nat->Value) (wx:World)=>match iv with|0=>fv 0=.agg #[.slice A1 4 c1,.slice A2 4 c2,.slice A3 4 c3]|1=>fv 1=.slice A n c|2=>fv 2=.int .i64 (n:Int)|3=>RowN b2 4 n (bools (List.replicate n false)) (fv 3) wx|4=>fv 4=.slice A n c|5=>fv 5=.int .i64 (n:Int)|6=>RowN b2 3 n (ints (List.replicate n 0)) (fv 6) wx|7=>∃d t,(fv 7)=.agg #[.slice A1 4 c1,.slice A2 4 c2,.slice A3 4 c3,d,t]/\RowN b2 4 n (bools (List.replicate n false)) d wx/\RowN b2 3 n (ints (List.replicate n 0)) t wx|8=>∃d t,wx.heap[b2]?=some (.cells #[.slice A1 4 c1,.slice A2 4 c2,.slice A3 4 c3,d,t] 62)/\RowN b2 4 n (bools (List.replicate n false)) d wx/\RowN b2 3 n (ints (List.replicate n 0)) t wx|_=>True) (fun _ wx=>Below w.heap.size w wx/\(∃x y z u v,wx.heap[b2]?=some (.cells #[x,y,z,u,v] 62))/\wx.heap[b3]?=some (.cells #[.slice A1 4 c1,.slice A2 4 c2,.slice A3 4 c3] 59)/\IsMem wx (.slice A1 4 c1) (.slice A2 4 c2) (.slice A3 4 c3) Mm.zero) (fun i w1 w2=>Tk (if i=8 then[62] else[]) w1 w2) (by kernel_rfl) (fun k=>match k with|_=>undef) rfl ?keep ⟨bD HB2.o,⟨_,_,_,_,_,H22.o⟩,H32.o,HM2.o.sees (Below.sees (bD (bR W2)))⟩ ?steps ?fin
 case keep=>
  intro iv j hij hd l f f' w1 w2 hf hR
  match j with
  |0|1|2|4|5=>exact fun h=>(hf _ (Ne.symm hij)).trans h
  |3=>intro h;have h:RowN b2 4 n (bools (List.replicate n false)) (f 3) w1:=h;show RowN b2 4 n (bools (List.replicate n false)) (f' 3) w2;rw[hf 3 (Ne.symm hij)];exact h.tk hR (tn4 _)
  |6=>intro h;have h:RowN b2 3 n (ints (List.replicate n 0)) (f 6) w1:=h;show RowN b2 3 n (ints (List.replicate n 0)) (f' 6) w2;rw[hf 6 (Ne.symm hij)];exact h.tk hR (tn3 _)
  |7=>
   intro h;have h:∃d t,(f 7)=.agg #[.slice A1 4 c1,.slice A2 4 c2,.slice A3 4 c3,d,t]/\RowN b2 4 n (bools (List.replicate n false)) d w1/\RowN b2 3 n (ints (List.replicate n 0)) t w1:=h;show∃d t,(f' 7)=.agg #[.slice A1 4 c1,.slice A2 4 c2,.slice A3 4 c3,d,t]/\RowN b2 4 n (bools (List.replicate n false)) d w2/\RowN b2 3 n (ints (List.replicate n 0)) t w2;rw[hf 7 (Ne.symm hij)]
   exact h.elim fun d h=>h.elim fun t h=>⟨d,t,h.1,h.2.1.tk hR (tn4 _),h.2.2.tk hR (tn3 _)⟩
  |8=>
   intro h;have h:∃d t,w1.heap[b2]?=some (.cells #[.slice A1 4 c1,.slice A2 4 c2,.slice A3 4 c3,d,t] 62)/\RowN b2 4 n (bools (List.replicate n false)) d w1/\RowN b2 3 n (ints (List.replicate n 0)) t w1:=h;show∃d t,w2.heap[b2]?=some (.cells #[.slice A1 4 c1,.slice A2 4 c2,.slice A3 4 c3,d,t] 62)/\RowN b2 4 n (bools (List.replicate n false)) d w2/\RowN b2 3 n (ints (List.replicate n 0)) t w2
   exact h.elim fun d h=>h.elim fun t h=>⟨d,t,Tk.at_ hR (by rw[if_neg (fun e=>hij e)];decide) h.1,h.2.1.tk hR (tn4 _),h.2.2.tk hR (tn3 _)⟩
  |_+9=>exact id
 case steps=>
  refine fun iv hiv=>stepsOf_at (k:=0) (n:=9) ?_ iv (Nat.zero_le _) (by rw[Nat.zero_add];exact hiv);refine sD 0 8 aT0 [] (fun f wq l hl hun hdn hS hd K' HK=>?_) ?_
  ·clear hd;obtain⟨r0,r1,r2,_⟩:=cells3 hS.2.2.1;go_simp;exact HK.o _ _ _ rfl rfl (hq 0 l _ hS) (rr _)
  refine sD 1 7 aT1 [] (fun f wq l hl hun hdn hS hd K' HK=>?_) ?_
  ·clear hd;go_simp;exact HK.o _ _ _ rfl rfl (hq 1 l _ hS) (rr _)
  refine sD 2 6 aT2 [1] (fun f wq l hl hun hdn hS hd K' HK=>?_) ?_
  ·obtain⟨e1,-⟩:=hd;have e1:f 1=_:=e1;simp only[e1];go_simp;exact HK.o _ _ _ (by simp only[e1];rfl) rfl (hq 2 l _ hS) (rr _)
  refine sD 3 5 aT3 [2] (fun f wq l hl hun hdn hS hd K' HK=>?_) ?_
  ·obtain⟨e2,-⟩:=hd;have e2:f 2=_:=e2;simp only[e2];have hmk:=make_n_bools n hn;go_simp;exact HK.o _ _ _ (by simp only[e2];rfl) ⟨_,rfl,lt2 hS,heap_alloc_new wq _⟩ (ss (bA (bR wq)) hS) (Tk.below (bA (bR wq)))
  refine sD 4 4 aT4 [] (fun f wq l hl hun hdn hS hd K' HK=>?_) ?_
  ·clear hd;go_simp;exact HK.o _ _ _ rfl rfl (hq 4 l _ hS) (rr _)
  refine sD 5 3 aT5 [4] (fun f wq l hl hun hdn hS hd K' HK=>?_) ?_
  ·obtain⟨e4,-⟩:=hd;have e4:f 4=_:=e4;simp only[e4];go_simp;exact HK.o _ _ _ (by simp only[e4];rfl) rfl (hq 5 l _ hS) (rr _)
  refine sD 6 2 aT6 [5] (fun f wq l hl hun hdn hS hd K' HK=>?_) ?_
  ·obtain⟨e5,-⟩:=hd;have e5:f 5=_:=e5;simp only[e5];have hmk:=make_n_ints n hn;go_simp;exact HK.o _ _ _ (by simp only[e5];rfl) ⟨_,rfl,lt2 hS,heap_alloc_new wq _⟩ (ss (bA (bR wq)) hS) (Tk.below (bA (bR wq)))
  refine sD 7 1 aT7 [0,3,6] (fun f wq l hl hun hdn hS hd K' HK=>?_) ?_
  ·obtain⟨e0,e3,e6,-⟩:=hd;have e0:f 0=_:=e0;have e3:RowN b2 4 n (bools (List.replicate n false)) (f 3) wq:=e3;have e6:RowN b2 3 n (ints (List.replicate n 0)) (f 6) wq:=e6;obtain⟨g1,h1⟩:=e3;obtain⟨g2,h2⟩:=e6;simp only[e0,h1.1,h2.1];go_simp;exact HK.o _ _ _ (by simp only[e0,h1.1,h2.1];rfl) ⟨_,_,rfl,⟨g1,rfl,h1.2⟩,⟨g2,rfl,h2.2⟩⟩ (hq 7 l _ hS) (rr _)
  refine sD 8 0 aT8 [7] (fun f wq l hl hun hdn hS hd K' HK=>?_) ?_
  ·obtain⟨e7,-⟩:=hd;have e7:∃d t,(f 7)=.agg #[.slice A1 4 c1,.slice A2 4 c2,.slice A3 4 c3,d,t]/\RowN b2 4 n (bools (List.replicate n false)) d wq/\RowN b2 3 n (ints (List.replicate n 0)) t wq:=e7;obtain⟨d,t,h9,m1,m2⟩:=e7;obtain⟨x,y,z,u,v,hx⟩:=hS.2.1;obtain⟨r0,r1,r2,r3,r4,r5,r6,r7,r8,r9⟩:=cells5 hx;obtain⟨g1,rfl,p1⟩:=m1;obtain⟨g2,rfl,p2⟩:=m2;have HX:=Jh hx
   have HM1:=Jh (show RowN b2 4 n (bools (List.replicate n false)) _ wq from⟨g1,rfl,p1⟩);have HM2:=Jh (show RowN b2 3 n (ints (List.replicate n 0)) _ wq from⟨g2,rfl,p2⟩);have HS:=Jh hS;clear hx p1 p2 hS;simp only[h9];go_simp;have hk:=Tk.set5 (x':=.slice A1 4 c1) (y':=.slice A2 4 c2) (z':=.slice A3 4 c3) (u':=.slice (some ⟨g1,0,none⟩) n n) (v':=.slice (some ⟨g2,0,none⟩) n n) HX.o
   exact HK.o undef _ _ (by simp only[h9];rfl) ⟨_,_,set5 HX.o,HM1.o.tk hk (by decide),HM2.o.tk hk (by decide)⟩ ⟨bS (bS (bS (bS (bS HS.o.1 HL.o) HL.o) HL.o) HL.o) HL.o,⟨_,_,_,_,_,set5 HX.o⟩,hk.at_ (by decide) HS.o.2.2.1,HS.o.2.2.2.tk hk (by decide) (by decide) (by decide)⟩ hk
  exact trivial
 case fin=>
  intro f wz l hl hall hS;have a8:∃d t,wz.heap[b2]?=some (.cells #[.slice A1 4 c1,.slice A2 4 c2,.slice A3 4 c3,d,t] 62)/\RowN b2 4 n (bools (List.replicate n false)) d wz/\RowN b2 3 n (ints (List.replicate n 0)) t wz:=hall 8 (by decide);clear hall;obtain⟨d,t,h10,m1,m2⟩:=a8;have HM:=Jh hS.2.2.2;have HBz:=Jh hS.1;obtain⟨AD,rfl,rD⟩:=m1.row (by simp[bools]);obtain⟨AT,rfl,rT⟩:=m2.row (by simp[ints])
  have RD:=Jh rD;have RT:=Jh rT;clear m1 m2 rD rT hS;go_wp2_with fail;exact bodyPost_ret (ret62 rfl rfl h10) rfl ⟨⟨_,rfl,St.first_ok n,_,_,_,_,_,_,_,rfl,HM.o,RD.o,RT.o,Nat.le_refl _,Nat.le_refl _⟩,HBz.o⟩
theorem ended29_any(n:Nat)(v:Value)(s:St)(w:World)(hs:IsSt w v n s)(hn:n<=6):
  Calls Tryz.prog 29 #[v] w fun e w'=>e=.returned (.bool (s.done.all id))/\Below w.heap.size w w':=by
 have hd:=hs.ok.d;obtain⟨v1,v2,v3,AD,cD,AT,cT,rfl,him,hrd,_,hcD,_⟩:=hs.is;obtain⟨A1,c1,rfl,_⟩:=him.ws;obtain⟨A2,c2,pv,rfl,_,_⟩:=him.ps;obtain⟨A3,c3,rfl,_⟩:=him.rs;obtain⟨b,hb⟩:=exE (w.heap.size);obtain⟨W,hW⟩:=exE (w.alloc (.cells #[.slice A1 4 c1,.slice A2 4 c2,.slice A3 4 c3,.slice AD n cD,.slice AT n cT] 62));have kW:Below w.heap.size w W:=hW▸bA (bR w);have HB:=Jh kW
 have hh:W.heap[b]?=some (.cells #[.slice A1 4 c1,.slice A2 4 c2,.slice A3 4 c3,.slice AD n cD,.slice AT n cT] 62):=by rw[hW,hb];exact heap_alloc_new w _
 obtain⟨_,_,_,r3,_⟩:=cells5 hh;have HD:=Jh (hrd.below kW);have HL:=Jh hd;clear hs him hrd kW hh;go_enter Tryz.func29,Tryz.ntmps29;go_upto_region 2 with fail
 rw[<-hW,<-hb];clear hW hb;go_loop [3] (fun vk=>∃k:Nat,k<=n/\vk=.int .i64 k/\(s.done.take k).all id=true) (fun vk=>n-(intOf vk).toNat);case atStart=>exact⟨0,Nat.zero_le _,rfl,rfl⟩
 case round=>
  obtain⟨k,hk,rfl,hall⟩:=hrel;have HA:=Jh hall;clear hall;by_cases hlt:k<n
  ·have hlb:decide ((k:Int)<(n:Int))=true:=by simp;omega
   have hlb2:decide (k<n)=true:=by simpa using hlt
   have hkn:(k:Int)<(n:Int):=by omega
   have hk0:decide ((k:Int)<0)=false:=by simp
   obtain⟨g,o,u,rfl,hu,hcu⟩:=HD.o.rd.at1 hlt;obtain⟨x,hx,rfl⟩:∃x,s.done[k]?=some x/\Value.bool x=u:=by simpa[bools,List.getElem?_map] using hu
   cases x with
   |true=>
    have HA1:=Jh (show(s.done.take (k+1)).all id=true from by rw[List.take_add_one,hx,List.all_append,HA.o];rfl);clear hu hx;go_wp2_with fail;go_round;case rel=>exact⟨k+1,by omega,by go_num,HA1.o⟩
    case measure=>simp[intOf];omega
   |false=>have HA1:=Jh (show s.done.all id=false from List.all_eq_false.2 ⟨false,List.mem_of_getElem? hx,by simp⟩);clear hu hx;go_wp2_with fail;go_ret;exact⟨ret_bool HA1.o.symm,HB.o⟩
  have hlb:decide ((k:Int)<(n:Int))=false:=by simp;omega
  have hlb2:decide (k<n)=false:=by simpa using hlt
  have HA1:=Jh (show s.done.all id=true from by rw[<-HA.o,List.take_of_length_le (by have:=HL.o;omega)]);go_wp2_with fail;go_ret;exact⟨ret_bool HA1.o.symm,HB.o⟩
end Go.Proofs.YtnigadeohmlpiaaGreatDoor
