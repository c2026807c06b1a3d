/- A contract of the document's answer for layer 13: the state behind a pick, or that it may not be. Its condition: where the events and the state stand. -/
import Derived.Test.YtnigadeohmlpiaaGreatDoorC39
set_option maxHeartbeats 32000000
set_option maxRecDepth 100000
namespace Go.Proofs.YtnigadeohmlpiaaGreatDoor
open Go.RowKit
attribute [local go_sem] Oper.semAt_some
theorem ret62b{fn:Func}{p q:Tmp}{tmps:Array Value}{w:World}{b:Nat}{x y z u v:Value}(hfn:fn.results=#[.cell p 62,.tmp q])(hp:tmps.getD p undef=.pointer (some ⟨b,0,none⟩))
  (h:w.heap[b]?=some (.cells #[x,y,z,u,v] 62)):(results fn tmps).run Tryz.prog w=.ok (.tuple #[.agg #[x,y,z,u,v],tmps.getD q undef]) w:=by
 rw[results_cell_tmp hfn,hp];obtain⟨h0,h1,h2,h3,h4,_⟩:=cells5 h;simp[go_sem,h0,h1,h2,h3,h4]
theorem DrainIs.form{o:Option Mm}{e:Ending}{w:World}(h:DrainIs o e w):∃E1 m1 d1 E2 m2 d2 E3 m3 d3 er,e=.returned (.tuple #[.agg #[.slice E1 m1 d1,.slice E2 m2 d2,.slice E3 m3 d3],.int .i64 er])/\(er==0)=o.isSome/\∀M',o=some M'->IsMem w (.slice E1 m1 d1) (.slice E2 m2 d2) (.slice E3 m3 d3) M':=by
 cases o with
 |none=>obtain⟨er,her,rfl⟩:=h;exact⟨none,0,0,none,0,0,none,0,0,er,rfl,by simpa using her,fun M' h=>by cases h⟩
 |some M'=>obtain⟨u1,u2,u3,rfl,hm⟩:=h;obtain⟨E1,d1,rfl,_⟩:=hm.ws;obtain⟨E2,d2,pv,rfl,_⟩:=hm.ps;obtain⟨E3,d3,rfl,_⟩:=hm.rs;exact⟨E1,4,d1,E2,4,d2,E3,4,d3,0,rfl,rfl,fun M h=>by cases h;exact hm⟩
theorem NextIs.of{n:Nat}{o:Option St}{q:Bool}{w:World}{a1 a2 a3 a4 a5:Option Addr}{m1 m2 m3 m4 m5 d1 d2 d3 d4 d5:Nat}(hq:q=o.isSome)(h:∀s',o=some s'->IsSt w (.agg #[.slice a1 m1 d1,.slice a2 m2 d2,.slice a3 m3 d3,.slice a4 m4 d4,.slice a5 m5 d5]) n s'):
  NextIs n o (.returned (.tuple #[.agg #[.slice a1 m1 d1,.slice a2 m2 d2,.slice a3 m3 d3,.slice a4 m4 d4,.slice a5 m5 d5],.bool q])) w:=by
 subst hq;cases o with
 |none=>exact⟨_,_,_,_,_,⟨_,_,_,rfl⟩,⟨_,_,_,rfl⟩,⟨_,_,_,rfl⟩,⟨_,_,_,rfl⟩,⟨_,_,_,rfl⟩,rfl⟩
 |some s'=>exact⟨_,rfl,h s' rfl⟩
theorem set35g{w:World}{b:Nat}{x y z u v x' y' z':Value}{t:TypeId}(h:w.heap[b]?=some (.cells #[x,y,z,u,v] t)):
  (((w.setCell ⟨b,0,none⟩ x').setCell ⟨b,1,none⟩ y').setCell ⟨b,2,none⟩ z').heap[b]?=some (.cells #[x',y',z',u,v] t)/\Tk [t] w (((w.setCell ⟨b,0,none⟩ x').setCell ⟨b,1,none⟩ y').setCell ⟨b,2,none⟩ z'):=by
 have h1:=set_same (i:=0) h x';have h2:=set_same (i:=1) h1 y';exact⟨set_same (i:=2) h2 z',tk_trans (tk_trans (tk_set1 h) (tk_set1 h1)) (tk_set1 h2)⟩
theorem bS5{w X:World}{b:Nat}{x y z u v:Value}(h:Below w.heap.size w X)(hb:w.heap.size<=b):Below w.heap.size w (((((X.setCell ⟨b,0,none⟩ x).setCell ⟨b,1,none⟩ y).setCell ⟨b,2,none⟩ z).setCell ⟨b,3,none⟩ u).setCell ⟨b,4,none⟩ v):=bS (bS (bS (bS (bS h hb) hb) hb) hb) hb
theorem next30_any(A:Option Addr)(n c:Nat)(pl:List Ev)(v:Value)(s:St)(x:Pk)(w:World)(hl:Prog pl)(he:IsEvs w A n c pl)(hs:IsSt w v n s):
  Calls Tryz.prog 30 #[.slice A n c,v,pickV x] w fun e w'=>NextIs n (s.next pl x) e w'/\Below w.heap.size w w':=by
 have hn:n<=6:=he.len▸hl.few;have HOk:=Jh hs.ok;have HPg:=Jh hl;have HE:=Jh he;obtain⟨i3,hi3,hz0,hz1,hz2⟩:=info_parts int_info;obtain⟨i4,hi4,hy0,hy1,hy2⟩:=info_parts bool_info;obtain⟨v1,v2,v3,AD,cD,AT,cT,rfl,him,hrd,hrt,hcD,hcT⟩:=hs.is;obtain⟨A1,c1,rfl,_⟩:=him.ws;obtain⟨A2,c2,pv,rfl,_,_⟩:=him.ps;obtain⟨A3,c3,rfl,_⟩:=him.rs;have HIM:=Jh him;have HD:=Jh hrd;have HT:=Jh hrt;obtain⟨xh,hxh⟩:=exE (x.h)
 obtain⟨xd,hxd⟩:=exE (x.d);obtain⟨xw,hxw⟩:=exE (x.w);have HX:=Jh (show x=⟨xh,xd,xw⟩ from by rw[hxh,hxd,hxw]);obtain⟨b4,hb4⟩:=exE (w.heap.size);obtain⟨b5,hb5⟩:=exE (b4+1);obtain⟨b6,hb6⟩:=exE (b5+1);obtain⟨X1,hX1⟩:=exE (w.alloc (.cells #[.slice A1 4 c1,.slice A2 4 c2,.slice A3 4 c3,.slice AD n cD,.slice AT n cT] 62));obtain⟨X2,hX2⟩:=exE (X1.alloc (.cells #[.int .i64 xh,.bool xd,.int .i64 xw] 56))
 obtain⟨W0,hW0⟩:=exE (X2.alloc (.cells #[.slice none 0 0,.slice none 0 0,.slice none 0 0,.slice none 0 0,.slice none 0 0] 62));have s1:X1.heap.size=b4+1:=by rw[hX1,World.size_alloc,hb4]
 have s2:X2.heap.size=b4+1+1:=by rw[hX2,World.size_alloc,s1]
 have k2:Below X2.heap.size X2 W0:=hW0▸bA (bR X2);have k1:Below X1.heap.size X1 W0:=bT (hX2▸bA (bR X1)) k2;have HB0:=Jh (show Below w.heap.size w W0 from bT (hX1▸bA (bR w)) k1);have H4:=Jh (show W0.heap[b4]?=some (.cells #[.slice A1 4 c1,.slice A2 4 c2,.slice A3 4 c3,.slice AD n cD,.slice AT n cT] 62) from blk_below k1 (by rw[hX1,hb4];exact heap_alloc_new w _))
 have H5:=Jh (show W0.heap[b5]?=some (.cells #[.int .i64 xh,.bool xd,.int .i64 xw] 56) from blk_below k2 (by rw[hX2,hb5,<-s1];exact heap_alloc_new X1 _));have H6:=Jh (show W0.heap[b6]?=some (.cells #[.slice none 0 0,.slice none 0 0,.slice none 0 0,.slice none 0 0,.slice none 0 0] 62) by rw[hW0,hb6,hb5,<-s2];exact heap_alloc_new X2 _);have HL:=Jh (show w.heap.size<=b4/\b4<b5/\b5<b6 by omega)
 have hWW:W0=((w.alloc (.cells #[.slice A1 4 c1,.slice A2 4 c2,.slice A3 4 c3,.slice AD n cD,.slice AT n cT] 62)).alloc (.cells #[.int .i64 xh,.bool xd,.int .i64 xw] 56)).alloc (.cells #[.slice none 0 0,.slice none 0 0,.slice none 0 0,.slice none 0 0,.slice none 0 0] 62):=by rw[hW0,hX2,hX1]
 unfold pickV;rw[<-hxh,<-hxd,<-hxw];clear hX1 hX2 hW0 s1 s2 k1 k2 hs him hrd hrt he hxh hxd hxw;go_enter Tryz.func30,Tryz.ntmps30;go_upto_region 1 with fail
 rw[<-hb4,<-hb5,<-hb6,<-hWW];clear hb4 hb5 hb6 hWW
 have hq:∀(k:Nat) (l:Nat->Bool) (wx:World),(Below w.heap.size w wx/\wx.heap[b4]?=some (.cells #[.slice A1 4 c1,.slice A2 4 c2,.slice A3 4 c3,.slice AD n cD,.slice AT n cT] 62)/\wx.heap[b5]?=some (.cells #[.int .i64 xh,.bool xd,.int .i64 xw] 56)/\wx.heap[b6]?=some (.cells #[.slice none 0 0,.slice none 0 0,.slice none 0 0,.slice none 0 0,.slice none 0 0] 62))->(Below w.heap.size w wx/\wx.heap[b4]?=some (.cells #[.slice A1 4 c1,.slice A2 4 c2,.slice A3 4 c3,.slice AD n cD,.slice AT n cT] 62)/\wx.heap[b5]?=some (.cells #[.int .i64 xh,.bool xd,.int .i64 xw] 56)/\wx.heap[b6]?=some (.cells #[.slice none 0 0,.slice none 0 0,.slice none 0 0,.slice none 0 0,.slice none 0 0] 62)):=fun _ _ _ h=>h
 have rr:∀{T:List TypeId} (wx:World),Tk T wx wx:=fun wx=>Tk.refl _ wx;have tn:∀(i e:Nat),e≠62->e∉(if i=10 then[62] else[]:List TypeId):=fun i e h=>by
  split
  ·simpa using h
  simp
 have lt2:∀{wx:World},(Below w.heap.size w wx/\wx.heap[b4]?=some (.cells #[.slice A1 4 c1,.slice A2 4 c2,.slice A3 4 c3,.slice AD n cD,.slice AT n cT] 62)/\wx.heap[b5]?=some (.cells #[.int .i64 xh,.bool xd,.int .i64 xw] 56)/\wx.heap[b6]?=some (.cells #[.slice none 0 0,.slice none 0 0,.slice none 0 0,.slice none 0 0,.slice none 0 0] 62))->b6+1<=wx.heap.size:=fun⟨_,_,_,h⟩=>blk_lt h
 have ss:∀{wx w2:World},Below wx.heap.size wx w2->(Below w.heap.size w wx/\wx.heap[b4]?=some (.cells #[.slice A1 4 c1,.slice A2 4 c2,.slice A3 4 c3,.slice AD n cD,.slice AT n cT] 62)/\wx.heap[b5]?=some (.cells #[.int .i64 xh,.bool xd,.int .i64 xw] 56)/\wx.heap[b6]?=some (.cells #[.slice none 0 0,.slice none 0 0,.slice none 0 0,.slice none 0 0,.slice none 0 0] 62))->(Below w.heap.size w w2/\w2.heap[b4]?=some (.cells #[.slice A1 4 c1,.slice A2 4 c2,.slice A3 4 c3,.slice AD n cD,.slice AT n cT] 62)/\w2.heap[b5]?=some (.cells #[.int .i64 xh,.bool xd,.int .i64 xw] 56)/\w2.heap[b6]?=some (.cells #[.slice none 0 0,.slice none 0 0,.slice none 0 0,.slice none 0 0,.slice none 0 0] 62)):=fun h ⟨h1,h2,h3,h4⟩=>⟨bT h1 h,blk_below h h2,blk_below h h3,blk_below h h4⟩
 refine wp_region_det (by kernel_rfl) (fun f=>(⟨#[Value.slice A n c,Value.agg #[Value.slice A1 4 c1,Value.slice A2 4 c2,Value.slice A3 4 c3,Value.slice AD n cD,Value.slice AT n cT],Value.agg #[.int .i64 xh,Value.bool xd,.int .i64 xw],undef,Value.pointer (some ⟨b4,0,none⟩),Value.pointer (some ⟨b5,0,none⟩),Value.pointer (some ⟨b6,0,none⟩),Value.bool false,f 9,undef,undef,undef,undef,undef,undef,undef,f 0,f 1,f 2,f 3,f 4,f 5,f 6,f 7,f 8,undef,undef,undef,undef,undef,undef,undef,undef,undef,undef,undef,undef,undef,undef,undef,undef,undef,undef,undef,undef,undef,undef,undef,undef,undef,undef,undef,undef,undef,undef,undef,undef,undef,undef,undef,undef,undef,undef,undef,undef,undef,undef,undef,undef,undef,undef,undef,undef,undef,undef,undef,undef,undef,undef,undef,undef,undef,undef,undef,undef,undef,undef,undef,undef,undef,undef,undef,undef,undef,undef,undef,undef,undef,undef,undef,undef,undef,undef,undef,undef,undef,undef,undef,undef,undef,undef,undef,undef,undef,undef,undef,undef,undef,undef,undef,undef,undef,undef,undef,undef,undef,undef,undef,undef,undef,undef,undef,undef,undef,undef,undef,undef,undef,undef,undef,undef,undef],[]⟩:Act)) (fun(iv:Nat) (lv:Nat->Bool) (fv:Nat->Value) (wx:World)=>match iv with|0=>fv 0=.pointer (some ⟨b4,0,none⟩)|1=>fv 1=.agg #[.slice A1 4 c1,.slice A2 4 c2,.slice A3 4 c3]|2=>fv 2=.pointer (some ⟨b4,3,none⟩)|3=>fv 3=.slice AD n cD|4=>OwnAt b6 4 1 n (bools s.done) (fv 4) wx|5=>fv 5=.pointer (some ⟨b4,4,none⟩)|6=>fv 6=.slice AT n cT|7=>OwnAt b6 3 1 n (ints s.told) (fv 7) wx|8=>∃d t,(fv 8)=.agg #[.slice A1 4 c1,.slice A2 4 c2,.slice A3 4 c3,d,t]/\OwnAt b6 4 1 n (bools s.done) d wx/\OwnAt b6 3 1 n (ints s.told) t wx|9=>∃g,(fv 9)=.pointer (some ⟨g,0,none⟩)/\b6<g/\((lv 10)=false->∃x y z u v,wx.heap[g]?=some (.cells #[x,y,z,u,v] 62))|10=>∃g d t,(fv 9)=.pointer (some ⟨g,0,none⟩)/\b6<g/\wx.heap[g]?=some (.cells #[.slice A1 4 c1,.slice A2 4 c2,.slice A3 4 c3,d,t] 62)/\OwnAt b6 4 1 n (bools s.done) d wx/\OwnAt b6 3 1 n (ints s.told) t wx|_=>True) (fun _ wx=>Below w.heap.size w wx/\wx.heap[b4]?=some (.cells #[.slice A1 4 c1,.slice A2 4 c2,.slice A3 4 c3,.slice AD n cD,.slice AT n cT] 62)/\wx.heap[b5]?=some (.cells #[.int .i64 xh,.bool xd,.int .i64 xw] 56)/\wx.heap[b6]?=some (.cells #[.slice none 0 0,.slice none 0 0,.slice none 0 0,.slice none 0 0,.slice none 0 0] 62)) (fun i w1 w2=>Tk (if i=10 then[62] else[]) w1 w2) (by kernel_rfl) (fun k=>match k with|_=>undef) rfl ?keep ⟨bD HB0.o,H4.o,H5.o,H6.o⟩ ?steps ?fin
 case keep=>
  intro iv j hij hd l f f' w1 w2 hf hR
  match j with
  |0|1|2|3|5|6=>exact fun h=>(hf _ (Ne.symm hij)).trans h
  |4=>intro h;have h:OwnAt b6 4 1 n (bools s.done) (f 4) w1:=h;show OwnAt b6 4 1 n (bools s.done) (f' 4) w2;rw[hf 4 (Ne.symm hij)];exact h.tk hR (tn _ 4 (by decide))
  |7=>intro h;have h:OwnAt b6 3 1 n (ints s.told) (f 7) w1:=h;show OwnAt b6 3 1 n (ints s.told) (f' 7) w2;rw[hf 7 (Ne.symm hij)];exact h.tk hR (tn _ 3 (by decide))
  |8=>
   intro h;have h:∃d t,(f 8)=.agg #[.slice A1 4 c1,.slice A2 4 c2,.slice A3 4 c3,d,t]/\OwnAt b6 4 1 n (bools s.done) d w1/\OwnAt b6 3 1 n (ints s.told) t w1:=h;show∃d t,(f' 8)=.agg #[.slice A1 4 c1,.slice A2 4 c2,.slice A3 4 c3,d,t]/\OwnAt b6 4 1 n (bools s.done) d w2/\OwnAt b6 3 1 n (ints s.told) t w2;rw[hf 8 (Ne.symm hij)]
   exact h.elim fun d h=>h.elim fun t h=>⟨d,t,h.1,h.2.1.tk hR (tn _ 4 (by decide)),h.2.2.tk hR (tn _ 3 (by decide))⟩
  |9=>
   intro h;have h:∃g,(f 9)=.pointer (some ⟨g,0,none⟩)/\b6<g/\((l 10)=false->∃x y z u v,w1.heap[g]?=some (.cells #[x,y,z,u,v] 62)):=h;show∃g,(f' 9)=.pointer (some ⟨g,0,none⟩)/\b6<g/\((decide (10=iv)||l 10)=false->∃x y z u v,w2.heap[g]?=some (.cells #[x,y,z,u,v] 62));rw[hf 9 (Ne.symm hij)]
   exact h.elim fun g h=>⟨g,h.1,h.2.1,fun hl=>(h.2.2 (Bool.or_eq_false_iff.1 hl).2).elim fun x h=>h.elim fun y h=>h.elim fun z h=>h.elim fun u h=>h.elim fun v h=>⟨x,y,z,u,v,Tk.at_ hR (by rw[if_neg (fun e=>absurd e.symm (of_decide_eq_false (Bool.or_eq_false_iff.1 hl).1))];exact List.not_mem_nil) h⟩⟩
  |10=>
   intro h;have h:∃g d t,(f 9)=.pointer (some ⟨g,0,none⟩)/\b6<g/\w1.heap[g]?=some (.cells #[.slice A1 4 c1,.slice A2 4 c2,.slice A3 4 c3,d,t] 62)/\OwnAt b6 4 1 n (bools s.done) d w1/\OwnAt b6 3 1 n (ints s.told) t w1:=h
   show∃g d t,(f' 9)=.pointer (some ⟨g,0,none⟩)/\b6<g/\w2.heap[g]?=some (.cells #[.slice A1 4 c1,.slice A2 4 c2,.slice A3 4 c3,d,t] 62)/\OwnAt b6 4 1 n (bools s.done) d w2/\OwnAt b6 3 1 n (ints s.told) t w2;rw[hf 9 (fun e=>hd (e▸of_decide_eq_true (by kernel_rfl)))]
   exact h.elim fun g h=>h.elim fun d h=>h.elim fun t h=>⟨g,d,t,h.1,h.2.1,Tk.at_ hR (by rw[if_neg (fun e=>hij e)];exact List.not_mem_nil) h.2.2.1,h.2.2.2.1.tk hR (tn _ 4 (by decide)),h.2.2.2.2.tk hR (tn _ 3 (by decide))⟩
  |_+11=>exact id
 case steps=>
  refine fun iv hiv=>stepsOf_at (k:=0) (n:=11) ?_ iv (Nat.zero_le _) (by rw[Nat.zero_add];exact hiv);refine sD 0 10 aT0 [] (fun f wq l hl hun hdn hS hd K' HK=>?_) ?_
  ·clear hd;go_simp;exact HK.o _ _ _ rfl rfl (hq 0 l _ hS) (rr _)
  refine sD 1 9 aT1 [0] (fun f wq l hl hun hdn hS hd K' HK=>?_) ?_
  ·obtain⟨e0,-⟩:=hd;have e0:f 0=_:=e0;obtain⟨r0,r1,r2,r3,r4,_⟩:=cells5 hS.2.1;simp only[e0];go_simp;exact HK.o _ _ _ (by simp only[e0];rfl) rfl (hq 1 l _ hS) (rr _)
  refine sD 2 8 aT2 [] (fun f wq l hl hun hdn hS hd K' HK=>?_) ?_
  ·clear hd;go_simp;exact HK.o _ _ _ rfl rfl (hq 2 l _ hS) (rr _)
  refine sD 3 7 aT3 [2] (fun f wq l hl hun hdn hS hd K' HK=>?_) ?_
  ·obtain⟨e2,-⟩:=hd;have e2:f 2=_:=e2;obtain⟨r0,r1,r2,r3,r4,_⟩:=cells5 hS.2.1;simp only[e2];go_simp;exact HK.o _ _ _ (by simp only[e2];rfl) rfl (hq 3 l _ hS) (rr _)
  refine sD 4 6 aT4 [3] (fun f wq l hl hun hdn hS hd K' HK=>?_) ?_
  ·obtain⟨e3,-⟩:=hd;have e3:f 3=_:=e3;rw[if_pos (by rfl)];refine wp_append_rd _ _ _ 60 rfl (b6+1) 4 i4 _ 1 1 Tryz.underlying60 hi4 hy0 hy1 hy2 rfl (by decide) (.slice none 0 0) 0 [] rfl (World.ownsRow_nil _ _ _ _) AD n cD (bools s.done) (by simp only[e3];rfl) (HD.o.below hS.1).rd (bools_one _) (by unfold maxLen;omega) (by omega) (lt2 hS) ?_;intro v9 w9 hown9 hg9
   have hbb:Below wq.heap.size wq w9:=(bR wq).grown hg9 (Nat.le_refl _) (fun r e=>by cases e);rw[Nat.zero_add,List.nil_append] at hown9;obtain⟨A9,c9,rfl,hc9,_⟩:=own_slice hown9;exact HK.o _ _ _ (by first|rfl|(simp only[e3];rfl)) ⟨A9,c9,rfl,hc9,hown9⟩ (ss hbb hS) (Tk.below hbb)
  refine sD 5 5 aT5 [] (fun f wq l hl hun hdn hS hd K' HK=>?_) ?_
  ·clear hd;go_simp;exact HK.o _ _ _ rfl rfl (hq 5 l _ hS) (rr _)
  refine sD 6 4 aT6 [5] (fun f wq l hl hun hdn hS hd K' HK=>?_) ?_
  ·obtain⟨e5,-⟩:=hd;have e5:f 5=_:=e5;obtain⟨r0,r1,r2,r3,r4,_⟩:=cells5 hS.2.1;simp only[e5];go_simp;exact HK.o _ _ _ (by simp only[e5];rfl) rfl (hq 6 l _ hS) (rr _)
  refine sD 7 3 aT7 [6] (fun f wq l hl hun hdn hS hd K' HK=>?_) ?_
  ·obtain⟨e6,-⟩:=hd;have e6:f 6=_:=e6;rw[if_pos (by rfl)];refine wp_append_rd _ _ _ 32 rfl (b6+1) 3 i3 _ 1 8 Tryz.underlying32 hi3 hz0 hz1 hz2 rfl (by decide) (.slice none 0 0) 0 [] rfl (World.ownsRow_nil _ _ _ _) AT n cT (ints s.told) (by simp only[e6];rfl) (HT.o.below hS.1).rd (ints_one _) (by unfold maxLen;omega) (by omega) (lt2 hS) ?_;intro v9 w9 hown9 hg9
   have hbb:Below wq.heap.size wq w9:=(bR wq).grown hg9 (Nat.le_refl _) (fun r e=>by cases e);rw[Nat.zero_add,List.nil_append] at hown9;obtain⟨A9,c9,rfl,hc9,_⟩:=own_slice hown9;exact HK.o _ _ _ (by first|rfl|(simp only[e6];rfl)) ⟨A9,c9,rfl,hc9,hown9⟩ (ss hbb hS) (Tk.below hbb)
  refine sD 8 2 aT8 [1,4,7] (fun f wq l hl hun hdn hS hd K' HK=>?_) ?_
  ·obtain⟨e1,e4,e7,-⟩:=hd;have e1:f 1=_:=e1;have e4:OwnAt b6 4 1 n (bools s.done) (f 4) wq:=e4;have e7:OwnAt b6 3 1 n (ints s.told) (f 7) wq:=e7;obtain⟨E4,d4,h4,q4⟩:=e4;obtain⟨E7,d7,h7,q7⟩:=e7;simp only[e1,h4,h7];go_simp;exact HK.o _ _ _ (by simp only[e1,h4,h7];rfl) ⟨_,_,rfl,⟨E4,d4,rfl,q4⟩,⟨E7,d7,rfl,q7⟩⟩ (hq 8 l _ hS) (rr _)
  refine sD 9 1 aT9 [] (fun f wq l hl hun hdn hS hd K' HK=>?_) ?_
  ·clear hd;have HS:=Jh hS;clear hS;go_simp;exact HK.o _ _ _ rfl ⟨_,rfl,blk_lt HS.o.2.2.2,fun _=>⟨_,_,_,_,_,heap_alloc_new wq _⟩⟩ (ss (bA (bR wq)) HS.o) (Tk.below (bA (bR wq)))
  refine sD 10 0 aT10 [8,9] (fun f wq l hl hun hdn hS hd K' HK=>?_) ?_
  ·obtain⟨e8,e9,-⟩:=hd;have e8:∃d t,(f 8)=.agg #[.slice A1 4 c1,.slice A2 4 c2,.slice A3 4 c3,d,t]/\OwnAt b6 4 1 n (bools s.done) d wq/\OwnAt b6 3 1 n (ints s.told) t wq:=e8;have e9:∃g,(f 9)=.pointer (some ⟨g,0,none⟩)/\b6<g/\((l 10)=false->∃x y z u v,wq.heap[g]?=some (.cells #[x,y,z,u,v] 62)):=e9;obtain⟨d,t,h8,m1,m2⟩:=e8;obtain⟨g,h9,hg6,hgb⟩:=e9;obtain⟨x,y,z,u,v,hx⟩:=hgb hl
   obtain⟨r0,r1,r2,r3,r4,r5,r6,r7,r8,r9⟩:=cells5 hx;obtain⟨E4,d4,rfl,q4⟩:=m1;obtain⟨E7,d7,rfl,q7⟩:=m2;have HX:=Jh hx;have HM1:=Jh (show OwnAt b6 4 1 n (bools s.done) _ wq from⟨E4,d4,rfl,q4⟩);have HM2:=Jh (show OwnAt b6 3 1 n (ints s.told) _ wq from⟨E7,d7,rfl,q7⟩);have HS:=Jh hS;clear hx q4 q7 hS hgb;simp only[h8,h9];go_simp
   have hk:=Tk.set5 (x':=.slice A1 4 c1) (y':=.slice A2 4 c2) (z':=.slice A3 4 c3) (u':=.slice E4 n d4) (v':=.slice E7 n d7) HX.o;have hg0:w.heap.size<=g:=by have:=HL.o;omega
   exact HK.o undef _ _ (by simp only[h8,h9];rfl) ⟨g,_,_,h9,hg6,set5 HX.o,HM1.o.tk hk (by decide),HM2.o.tk hk (by decide)⟩ ⟨bS (bS (bS (bS (bS HS.o.1 hg0) hg0) hg0) hg0) hg0,(other5 (show b4≠g by have:=HL.o;omega)).trans HS.o.2.1,(other5 (show b5≠g by have:=HL.o;omega)).trans HS.o.2.2.1,(other5 (show b6≠g by omega)).trans HS.o.2.2.2⟩ hk
  exact trivial
 case fin=>
  intro fo wz lo hl hall hS;have a0:fo 0=_:=hall 0 (by decide);have a1:fo 1=_:=hall 1 (by decide);have a2:fo 2=_:=hall 2 (by decide);have a3:fo 3=_:=hall 3 (by decide);have a4:OwnAt b6 4 1 n (bools s.done) (fo 4) wz:=hall 4 (by decide);have a5:fo 5=_:=hall 5 (by decide);have a6:fo 6=_:=hall 6 (by decide);have a7:OwnAt b6 3 1 n (ints s.told) (fo 7) wz:=hall 7 (by decide)
  have a8:∃d t,(fo 8)=.agg #[.slice A1 4 c1,.slice A2 4 c2,.slice A3 4 c3,d,t]/\OwnAt b6 4 1 n (bools s.done) d wz/\OwnAt b6 3 1 n (ints s.told) t wz:=hall 8 (by decide);have a9:∃g,(fo 9)=.pointer (some ⟨g,0,none⟩)/\b6<g/\((lo 10)=false->∃x y z u v,wz.heap[g]?=some (.cells #[x,y,z,u,v] 62)):=hall 9 (by decide)
  have a10:∃g d t,(fo 9)=.pointer (some ⟨g,0,none⟩)/\b6<g/\wz.heap[g]?=some (.cells #[.slice A1 4 c1,.slice A2 4 c2,.slice A3 4 c3,d,t] 62)/\OwnAt b6 4 1 n (bools s.done) d wz/\OwnAt b6 3 1 n (ints s.told) t wz:=hall 10 (by decide);clear hall;obtain⟨b8,dv,tv,hf9,hb68,hblk,oD,oT⟩:=a10;obtain⟨gE,dE,rfl,hdE,oD⟩:=oD;obtain⟨gF,dF,rfl,hdF,oT⟩:=oT;obtain⟨E4,d4,h4,_⟩:=a4;obtain⟨E7,d7,h7,_⟩:=a7
  obtain⟨d9,t9,h8,_⟩:=a8;simp only[a0,a1,a2,a3,h4,a5,a6,h7,h8,hf9];have HBz:=Jh hS.1;have H4z:=Jh hS.2.1;have H5z:=Jh hS.2.2.1;have H6z:=Jh hS.2.2.2;have H8z:=Jh hblk;have OD:=Jh (show OwnAt b6 4 1 n (bools s.done) (.slice gE n dE) wz from⟨gE,dE,rfl,hdE,oD⟩);have OT:=Jh (show OwnAt b6 3 1 n (ints s.told) (.slice gF n dF) wz from⟨gF,dF,rfl,hdF,oT⟩);have HL8:=Jh hb68;obtain⟨df,hdf⟩:=exE (fo 4)
  clear a0 a1 a2 a3 h4 a5 a6 h7 h8 hf9 hblk hb68 oD oT hq rr tn lt2 ss hl hS hdf;obtain⟨W1,rfl⟩:=exE wz;have HMz:=Jh (HIM.o.sees (Below.sees HBz.o));have HDz:=Jh (HD.o.below HBz.o);have HTz:=Jh (HT.o.below HBz.o);have HEz:=Jh (HE.o.sees (Below.sees HBz.o));obtain⟨p0,p1,p2,_⟩:=cells3 H5z.o;cases xd with
  |true=>
   have HDr:=Jh (drain50_any _ _ _ s.m xh xw W1 HMz.o);have HNx:=Jh (show s.next pl x=(s.m.drainZ xh xw).map (fun m=>⟨m,s.done,s.told⟩) from by rw[HX.o];rfl)
   obtain⟨r0,r1,r2,r3,r4,_⟩:=cells5 H4z.o;go_wp2_with fail;refine HDr.o.mono ?_;rintro o w2 ⟨hdi,hbw⟩;obtain⟨E1,m1,e1,E2,m2,e2,E3,m3,e3,er,rfl,hq,him⟩:=hdi.form;obtain⟨q,hqq⟩:=exE ((s.m.drainZ xh xw).isSome);rw[<-hqq] at hq;have HQ:=Jh hqq;obtain⟨b9,hb9⟩:=exE (w2.heap.size);obtain⟨W3,hW3⟩:=exE (w2.alloc (.cells #[.slice E1 m1 e1,.slice E2 m2 e2,.slice E3 m3 e3] 59))
   have k3:Below w2.heap.size w2 W3:=hW3▸bA (bR w2);have k13:=bT hbw k3;have HB3:=Jh (bT HBz.o k13);have H63:=Jh (blk_below k13 H6z.o);have H83:=Jh (blk_below k13 H8z.o);have H93:=Jh (show W3.heap[b9]?=some (.cells #[.slice E1 m1 e1,.slice E2 m2 e2,.slice E3 m3 e3] 59) by rw[hW3,hb9];exact heap_alloc_new w2 _);have OD3:=Jh (OD.o.tk (T:=[]) (Tk.below k13) (by simp))
   have OT3:=Jh (OT.o.tk (T:=[]) (Tk.below k13) (by simp));have HI3:=Jh (fun M' h=>(him M' h).sees (Below.sees k3));clear hqq hdi him k3 k13 hbw p0 p1 p2 r0 r1 r2 r3 r4;go_upto_region 4 with fail
   rw[<-hW3,<-hb9];clear hW3 hb9;obtain⟨r0,r1,r2,_⟩:=cells3 H93.o;obtain⟨t0,t1,t2,t3,t4,f0,f1,f2,f3,f4⟩:=cells5 H83.o;go_upto_region 5 with fail
   obtain⟨W4,hW4⟩:=exE (((W3.setCell ⟨b8,0,none⟩ (.slice E1 m1 e1)).setCell ⟨b8,1,none⟩ (.slice E2 m2 e2)).setCell ⟨b8,2,none⟩ (.slice E3 m3 e3));have hs:=set35g (x':=.slice E1 m1 e1) (y':=.slice E2 m2 e2) (z':=.slice E3 m3 e3) H83.o;rw[<-hW4] at hs⊢;have H84:=Jh hs.1;have HT4:=Jh hs.2
   have h6:W4.heap[b6]?=W3.heap[b6]?:=by have hne:b6≠b8:=Nat.ne_of_lt HL8.o;rw[hW4,set_other _ hne,set_other _ hne,set_other _ hne]
   have H64:=Jh (h6.trans H63.o);have h8:w.heap.size<=b8:=by have:=HL.o;have:=HL8.o;omega
   have HB4:=Jh (show Below w.heap.size w W4 from hW4▸bS (bS (bS HB3.o h8) h8) h8);clear hW4 hs h6 r0 r1 r2 t0 t1 t2 t3 t4 f0 f1 f2 f3 f4;obtain⟨r0,r1,r2,r3,r4,_⟩:=cells5 H84.o;obtain⟨t0,t1,t2,t3,t4,f0,f1,f2,f3,f4⟩:=cells5 H64.o;go_wp2_with fail;have h6:w.heap.size<=b6:=by have:=HL.o;omega
   refine bodyPost_ret (ret62b rfl rfl (set5 H64.o)) rfl ⟨?_,bS5 HB4.o h6⟩;rw[HNx.o];refine NextIs.of (by rw[HQ.o];cases s.m.drainZ xh xw<;>rfl) fun s' hs'=>?_
   obtain⟨M',hM,rfl⟩:=Option.map_eq_some_iff.1 hs';have hk:=tk_trans HT4.o (Tk.set5 (x':=.slice E1 m1 e1) (y':=.slice E2 m2 e2) (z':=.slice E3 m3 e3) (u':=.slice gE n dE) (v':=.slice gF n dF) H64.o);have hok:(⟨M',s.done,s.told⟩:St).Ok n:=by
    have hM2:s.m.drainZ' xh xw=some M':=hM;unfold Mm.drainZ' at hM2;split at hM2
    ·exact St.drain_ok HOk.o hM2
    cases hM2
   exact(isSt_own OD3.o OT3.o (HI3.o M' hM) hok).tk hk (by decide) (by decide) (by decide) (by decide)
  |false=>
   have HNx:=Jh (show s.next pl x=match s.due pl xh with|none=>none|some i=>if xw=0 then(pl[i]?).bind (fun e=>s.step e i) else none from by rw[HX.o];rfl)
   go_upto_region 7 with fail
   clear p0 p1 p2;go_loopw [11] (fun v wr=>∃k:Nat,k<=n/\v=.int .i64 k/\(∀j,j<k->s.at_ pl xh j=false)/\Below W1.heap.size W1 wr) (fun v _=>n-(intOf v).toNat);case atStart=>exact⟨0,by omega,rfl,fun j hj=>absurd hj (by omega),bR W1⟩
   case round=>
    obtain⟨k,hk,rfl,hall,hbw⟩:=hrel;obtain⟨wo,rfl⟩:=exE wr;have HA:=Jh hall;have HBW:=Jh hbw;clear hall hbw;by_cases hlt:k<n
    ·obtain⟨g,off,ev,hA,hx,hc0,hc1,hc2,hc3⟩:=(HEz.o.sees (Below.sees HBW.o)).at_ hlt;subst hA;obtain⟨gd,offd,u,hAD,hu,hcd⟩:=(HDz.o.below HBW.o).bool hlt;subst hAD;have hlb:decide ((k:Int)<(n:Int))=true:=by simp;omega
     have hlb2:decide (k<n)=true:=by simpa using hlt
     have hkn:(k:Int)<(n:Int):=by omega
     have hk0:decide ((k:Int)<0)=false:=by simp
     have HAT:=Jh (show s.at_ pl xh k=((ev.h==xh)&&(u==false)) from by unfold St.at_;rw[hx,List.getD_eq_getElem?_getD,hu];rfl);have HEv:=Jh hx;have HC4:=Jh (And.intro hc0 (And.intro hc1 (And.intro hc2 hc3)));obtain⟨eh,heh⟩:=exE (ev.h);rw[<-heh] at hc0 HAT;have HEH:=Jh heh;have HDU:=Jh hu;clear hx hu heh hc1 hc2 hc3;obtain⟨_,_,_,q3,_⟩:=cells5 (blk_below HBW.o H4z.o)
     obtain⟨q5,_,_,_⟩:=cells3 (blk_below HBW.o H5z.o);by_cases hxa:eh=xh
     ·have hxb:(eh==xh)=true:=by simpa using hxa
      cases u with
      |true=>
       have HN:=Jh (show∀j,j<k+1->s.at_ pl xh j=false from fun j hj=>by
        rcases Nat.lt_or_ge j k with h1|h1
        ·exact HA.o j h1
        rw[show j=k by omega,HAT.o];simp)
       go_upto_region 7 with fail
       go_quiet (fail)
       obtain⟨W6,hW6⟩:=exE (wo.drewN nq);rw[<-hW6];have HB6:=Jh (show Below wo.heap.size wo W6 from hW6▸bN (bR wo));clear hW6 hc0 hcd q3 q5;go_wp2_with fail;go_roundw;case rel=>exact⟨k+1,by omega,by go_num,HN.o,bT HBW.o HB6.o⟩
       case measure=>simp[intOf];omega
      |false=>
       have HDu:=Jh (show s.due pl xh=some k from find_range_some (by have:=HEz.o.len;omega) (by rw[HAT.o,hxb];rfl) HA.o);go_upto_region 7 with fail
       go_quiet (fail)
       obtain⟨W6,hW6⟩:=exE (wo.drewN nq);rw[<-hW6];have HB6:=Jh (bT HBW.o (show Below wo.heap.size wo W6 from hW6▸bN (bR wo)));clear hW6 hc0 hcd q3 q5;have H46:=Jh (blk_below HB6.o H4z.o);have H56:=Jh (blk_below HB6.o H5z.o);have H66:=Jh (blk_below HB6.o H6z.o);have H86:=Jh (blk_below HB6.o H8z.o);have hknb:((k:Int)==(n:Int))=false:=by simp;omega
       have h6:w.heap.size<=b6:=by have:=HL.o;omega
       obtain⟨p0,p1,p2,_⟩:=cells3 H56.o;by_cases hw0:xw=0
       ·subst hw0;have HNk:=Jh (show s.next pl x=s.step ev k from by rw[HNx.o,HDu.o];dsimp only;rw[if_pos rfl,HEv.o];rfl)
        have HDn:=Jh (show s.done.getD k true=false from by rw[List.getD_eq_getElem?_getD,HDU.o];rfl);obtain⟨_,_,eD,hdE,oD⟩:=OD.o.tk (T:=[]) (Tk.below HB6.o) (by simp);obtain⟨_,_,eT,hdF,oT⟩:=OT.o.tk (T:=[]) (Tk.below HB6.o) (by simp);injection eD with eD1 _ eD3
        injection eT with eT1 _ eT3
        subst eD1 eD3 eT1 eT3;obtain⟨gB,cB,eB,hgB,_⟩:=own_form oD (by omega);injection eB with eB1 _ eB3
        subst eB1 eB3;obtain⟨gT,cT',eT,hgT,_⟩:=own_form oT (by omega);injection eT with eT1 _ eT3
        subst eT1 eT3;have hcD:=oD.cellAt k (by omega);rw[show(bools s.done)[k]?=some (.bool false) from by simp[bools,List.getElem?_map,HDU.o]] at hcD;have hfD:=oD.frozenAt k;have HTk:=Jh (tk_of_own (i:=k) (x:=.bool true) (show OwnAt b6 4 1 n (bools s.done) (.slice (some ⟨gB,0,none⟩) n dE) W6 from⟨_,_,rfl,hdE,oD⟩));obtain⟨oD2,_⟩:=oD.stored k (.bool true)
        have HD7:=Jh (show OwnAt b6 4 1 n (bools (s.done.set k true)) (.slice (some ⟨gB,0,none⟩) n dE) (W6.setCell ⟨gB,k,none⟩ (.bool true)) from⟨_,_,rfl,hdE,by rw[show bools (s.done.set k true)=(bools s.done).set k (.bool true) by simp[bools]];exact oD2⟩)
        have HT7:=Jh (show OwnAt b6 3 1 n (ints s.told) (.slice (some ⟨gT,0,none⟩) n dF) (W6.setCell ⟨gB,k,none⟩ (.bool true)) from OwnAt.tk ⟨_,_,rfl,hdF,oT⟩ HTk.o (by decide));have HGB:=Jh (And.intro hgB hgT);clear oD oT oD2 hgB hgT;obtain⟨_,_,_,t3,_⟩:=cells5 H86.o;go_upto_region 12 with fail
        obtain⟨W7,hW7⟩:=exE (W6.setCell ⟨gB,k,none⟩ (.bool true));rw[<-hW7] at HTk HD7 HT7⊢;have H47:=Jh (HTk.o.at_ (by decide) H46.o);have H57:=Jh (HTk.o.at_ (by decide) H56.o);have H67:=Jh (HTk.o.at_ (by decide) H66.o);have H87:=Jh (HTk.o.at_ (by decide) H86.o);have HB7:=Jh (show Below w.heap.size w W7 from hW7▸bS (bT HBz.o HB6.o) (show w.heap.size<=gB by have:=HGB.o;omega))
        have HE7:=Jh ((HEz.o.sees (Below.sees HB6.o)).tk HTk.o (by decide));have HM7:=Jh ((HMz.o.sees (Below.sees HB6.o)).tk HTk.o (by decide) (by decide) (by decide));clear hW7 hcD hfD t3 p0 p1 p2;obtain⟨g',off',ev',hA',hx',hc0,hc1,hc2,hc3⟩:=HE7.o.at_ hlt;obtain rfl:ev'=ev:=Option.some.inj (hx'.symm.trans HEv.o);injection hA' with hA'
        injection hA' with e1 e2 _
        subst e1 e2;have HOe:=Jh (HPg.o.ok ev' (List.mem_of_getElem? hx'));have HOs:=Jh (show∀s',s.step ev' k=some s'->s'.Ok n from fun s' h=>by have:=St.step_ok HPg.o (by rw[HE.o.len];exact HOk.o) HEv.o HDn.o h;rwa[HE.o.len] at this);obtain⟨hN,hhN⟩:∃q:Nat,(q:Int)=ev'.h:=⟨ev'.h.toNat,Int.toNat_of_nonneg HOe.o.h.1⟩;obtain⟨aN,haN⟩:∃q:Nat,(q:Int)=ev'.a:=⟨ev'.a.toNat,Int.toNat_of_nonneg HOe.o.a.1⟩
        obtain⟨ek,hek⟩:=exE (ev'.k);obtain⟨en,hen⟩:=exE (ev'.n);obtain rfl:xh=(hN:Int):=by rw[hhN,<-HEH.o];exact hxa.symm
        rw[<-hhN] at hc0;rw[<-haN] at hc2;rw[<-hek] at hc1;rw[<-hen] at hc3;have HEV:=Jh (show ev'=⟨hN,ek,aN,en⟩ from by rw[hhN,haN,hek,hen]);have hN4:hN<4:=by have:=HOe.o.h;omega
        have aN4:aN<4:=by have:=HOe.o.a;omega
        have HEN:=Jh (show I32 en from hen▸HOe.o.n);have HC0:=Jh (And.intro hc0 (And.intro hc2 hc3));have hkn4:(k:Int)<(n:Int):=by omega
        have hk13:ek=1\/ek=2\/ek=3:=by have:=HOe.o.k;omega
        clear hx' hhN haN hek hen hxa hxb;go_upto_region 13 with fail
        rcases hk13 with hk1|hk1|hk1
        ·subst hk1;go_upto_region 14 with fail
         clear hc0 hc1 hc2 hc3;have rr:∀(wx:World),Below wx.heap.size wx wx:=fun wx=>bR wx
         refine wp_region_det (by kernel_rfl) (fun f=>(⟨#[Value.slice (some ⟨g,off,none⟩) n c,Value.agg #[Value.slice A1 4 c1,Value.slice A2 4 c2,Value.slice A3 4 c3,Value.slice (some ⟨gd,offd,none⟩) n cD,Value.slice AT n cT],Value.agg #[.int .i64 (hN:Int),Value.bool false,.int .i64 0],undef,Value.pointer (some ⟨b4,0,none⟩),Value.pointer (some ⟨b5,0,none⟩),Value.pointer (some ⟨b6,0,none⟩),Value.bool false,Value.pointer (some ⟨b8,0,none⟩),undef,undef,.int .i64 (k:Int),f 13,f 14,undef,undef,Value.pointer (some ⟨b4,0,none⟩),Value.agg #[Value.slice A1 4 c1,Value.slice A2 4 c2,Value.slice A3 4 c3],Value.pointer (some ⟨b4,3,none⟩),Value.slice (some ⟨gd,offd,none⟩) n cD,Value.slice E4 n d4,Value.pointer (some ⟨b4,4,none⟩),Value.slice AT n cT,Value.slice E7 n d7,Value.agg #[Value.slice A1 4 c1,Value.slice A2 4 c2,Value.slice A3 4 c3,d9,t9],Value.pointer (some ⟨b5,1,none⟩),Value.bool false,undef,undef,undef,undef,undef,undef,undef,undef,undef,undef,undef,undef,undef,undef,undef,.int .i64 (k:Int),Value.slice (some ⟨g,off,none⟩) n c,.int .i64 (n:Int),Value.bool true,Value.bool true,Value.slice (some ⟨g,off,none⟩) n c,.int .i64 (k:Int),Value.pointer (some ⟨g,off+k*4,none⟩),Value.pointer (some ⟨g,off+k*4,none⟩),.int .i64 (hN:Int),Value.pointer (some ⟨b5,0,none⟩),.int .i64 (hN:Int),Value.bool false,Value.bool false,Value.pointer (some ⟨b4,3,none⟩),Value.slice (some ⟨gd,offd,none⟩) n cD,.int .i64 (k:Int),Value.pointer (some ⟨gd,offd+k,none⟩),Value.bool false,Value.bool false,Value.bool false,u63,u64,.int .i64 (k:Int),Value.slice (some ⟨g,off,none⟩) n c,.int .i64 (n:Int),Value.bool false,Value.bool false,Value.pointer (some ⟨b5,2,none⟩),.int .i64 0,Value.bool false,Value.bool false,undef,Value.pointer (some ⟨b8,3,none⟩),Value.slice (some ⟨gB,0,none⟩) n dE,.int .i64 (k:Int),Value.pointer (some ⟨gB,k,none⟩),Value.slice (some ⟨g,off,none⟩) n c,.int .i64 (k:Int),Value.pointer (some ⟨g,off+k*4,none⟩),Value.pointer (some ⟨g,off+k*4+1,none⟩),.int .i64 1,Value.bool true,Value.bool true,f 10,f 0,f 1,f 2,f 3,f 4,f 5,f 6,f 7,f 8,f 9,f 11,f 12,undef,undef,undef,undef,undef,undef,undef,undef,undef,undef,undef,undef,undef,undef,undef,undef,undef,undef,undef,undef,undef,undef,undef,undef,undef,undef,undef,undef,undef,undef,undef,undef,undef,undef,undef,undef,undef,undef,undef,undef,undef,undef,undef],[]⟩:Act)) (fun(iv:Nat) (lv:Nat->Bool) (fv:Nat->Value) (wx:World)=>match iv with|0=>fv 0=.pointer (some ⟨b4,0,none⟩)|1=>fv 1=.agg #[.slice A1 4 c1,.slice A2 4 c2,.slice A3 4 c3]|2=>fv 2=.pointer (some ⟨b5,0,none⟩)|3=>fv 3=.int .i64 (hN:Int)|4=>fv 4=.slice (some ⟨g,off,none⟩) n c|5=>fv 5=.int .i64 (k:Int)|6=>fv 6=.pointer (some ⟨g,off+k*4,none⟩)|7=>fv 7=.pointer (some ⟨g,off+k*4+2,none⟩)|8=>fv 8=.int .i64 (aN:Int)|9=>fv 9=.tuple #[.int .i64 (s.m.load hN aN),.int .i64 0]|10=>fv 10=.tuple #[.int .i64 (s.m.load hN aN),.int .i64 0]|11=>fv 11=.int .i64 (s.m.load hN aN)|12=>fv 12=.int .i64 0|13=>fv 13=.int .i64 (s.m.load hN aN)|14=>fv 14=.int .i64 0|_=>True) (fun _ wx=>Below W7.heap.size W7 wx) (fun _ w1 w2=>Below w1.heap.size w1 w2) (by kernel_rfl) (fun k=>match k with|_=>undef) rfl ?keep (bD (bR W7)) ?steps ?fin
         case keep=>
          intro iv j hij hd l f f' w1 w2 hf hR
          match j with
          |0|1|2|3|4|5|6|7|8|9|10|11|12|13|14=>exact fun h=>(hf _ (Ne.symm hij)).trans h
          |_+15=>exact id
         case steps=>
          refine fun iv hiv=>stepsOf_at (k:=0) (n:=15) ?_ iv (Nat.zero_le _) (by rw[Nat.zero_add];exact hiv);refine sD 0 14 aT0 [] (fun f wq l hl hun hdn hS hd K' HK=>?_) ?_
          ·clear hd;have HSS:=Jh hS;clear hS;go_simp;exact HK.o _ _ _ rfl rfl HSS.o (rr _)
          refine sD 1 13 aT1 [0] (fun f wq l hl hun hdn hS hd K' HK=>?_) ?_
          ·obtain⟨e0,-⟩:=hd;have e0:f 0=_:=e0;obtain⟨r0,r1,r2,r3,r4,_⟩:=cells5 (blk_below hS H47.o);have HSS:=Jh hS;clear hS;simp only[e0];go_simp;exact HK.o _ _ _ (by simp only[e0];rfl) rfl HSS.o (rr _)
          refine sD 2 12 aT2 [] (fun f wq l hl hun hdn hS hd K' HK=>?_) ?_
          ·clear hd;have HSS:=Jh hS;clear hS;go_simp;exact HK.o _ _ _ rfl rfl HSS.o (rr _)
          refine sD 3 11 aT3 [2] (fun f wq l hl hun hdn hS hd K' HK=>?_) ?_
          ·obtain⟨e2,-⟩:=hd;have e2:f 2=_:=e2;obtain⟨r0,_⟩:=cells3 (blk_below hS H57.o);have HSS:=Jh hS;clear hS;simp only[e2];go_simp;exact HK.o _ _ _ (by simp only[e2];rfl) rfl HSS.o (rr _)
          refine sD 4 10 aT4 [] (fun f wq l hl hun hdn hS hd K' HK=>?_) ?_
          ·clear hd;have HSS:=Jh hS;clear hS;go_simp;exact HK.o _ _ _ rfl rfl HSS.o (rr _)
          refine sD 5 9 aT5 [] (fun f wq l hl hun hdn hS hd K' HK=>?_) ?_
          ·clear hd;have HSS:=Jh hS;clear hS;go_simp;exact HK.o _ _ _ rfl rfl HSS.o (rr _)
          refine sD 6 8 aT6 [4,5] (fun f wq l hl hun hdn hS hd K' HK=>?_) ?_
          ·obtain⟨e4,e5,-⟩:=hd;have e4:f 4=_:=e4;have e5:f 5=_:=e5;have HSS:=Jh hS;clear hS;simp only[e4,e5];go_simp;exact HK.o _ _ _ (by simp only[e4,e5];rfl) rfl HSS.o (rr _)
          refine sD 7 7 aT7 [6] (fun f wq l hl hun hdn hS hd K' HK=>?_) ?_
          ·obtain⟨e6,-⟩:=hd;have e6:f 6=_:=e6;have HSS:=Jh hS;clear hS;simp only[e6];go_simp;exact HK.o _ _ _ (by simp only[e6];rfl) rfl HSS.o (rr _)
          refine sD 8 6 aT8 [7] (fun f wq l hl hun hdn hS hd K' HK=>?_) ?_
          ·obtain⟨e7,-⟩:=hd;have e7:f 7=_:=e7;have r0:=(hS.cell (cell_lt HC0.o.2.1)).trans HC0.o.2.1;have HSS:=Jh hS;clear hS;simp only[e7];go_simp;exact HK.o _ _ _ (by simp only[e7];rfl) rfl HSS.o (rr _)
          refine sD 9 5 aT9 [1,3,8] (fun f wq l hl hun hdn hS hd K' HK=>?_) ?_
          ·obtain⟨e1,e3,e8,-⟩:=hd;have e1:f 1=_:=e1;have e3:f 3=_:=e3;have e8:f 8=_:=e8;have HCz:=Jh (load51_any _ _ _ s.m hN aN wq (HM7.o.sees (Below.sees hS)) hN4 aN4);have HSS:=Jh hS;clear hS;simp only[e1,e3,e8];go_simp;go_wp2_with fail;refine HCz.o.mono ?_;rintro e w9 ⟨rfl,hb9⟩;exact HK.o _ _ _ (by simp only[e1,e3,e8];rfl) rfl (bT HSS.o hb9) hb9
          refine sD 10 4 aT10 [9] (fun f wq l hl hun hdn hS hd K' HK=>?_) ?_
          ·obtain⟨e9,-⟩:=hd;have e9:f 9=_:=e9;have HSS:=Jh hS;clear hS;simp only[e9];go_simp;exact HK.o _ _ _ (by simp only[e9];rfl) rfl HSS.o (rr _)
          refine sD 11 3 aT11 [10] (fun f wq l hl hun hdn hS hd K' HK=>?_) ?_
          ·obtain⟨e10,-⟩:=hd;have e10:f 10=_:=e10;have HSS:=Jh hS;clear hS;simp only[e10];go_simp;exact HK.o _ _ _ (by simp only[e10];rfl) rfl HSS.o (rr _)
          refine sD 12 2 aT12 [10] (fun f wq l hl hun hdn hS hd K' HK=>?_) ?_
          ·obtain⟨e10,-⟩:=hd;have e10:f 10=_:=e10;have HSS:=Jh hS;clear hS;simp only[e10];go_simp;exact HK.o _ _ _ (by simp only[e10];rfl) rfl HSS.o (rr _)
          refine sD 13 1 aT13 [11] (fun f wq l hl hun hdn hS hd K' HK=>?_) ?_
          ·obtain⟨e11,-⟩:=hd;have e11:f 11=_:=e11;have HSS:=Jh hS;clear hS;simp only[e11];go_simp;exact HK.o _ _ _ (by simp only[e11];rfl) rfl HSS.o (rr _)
          refine sD 14 0 aT14 [12] (fun f wq l hl hun hdn hS hd K' HK=>?_) ?_
          ·obtain⟨e12,-⟩:=hd;have e12:f 12=_:=e12;have HSS:=Jh hS;clear hS;simp only[e12];go_simp;exact HK.o _ _ _ (by simp only[e12];rfl) rfl HSS.o (rr _)
          exact trivial
         case fin=>
          intro fp wy lp hl hall hS;have a13:fp 13=_:=hall 13 (by decide);have a14:fp 14=_:=hall 14 (by decide);clear hall;simp only[a13,a14];have HBy:=Jh hS;clear a13 a14 rr hl hS;have HST:=Jh (show s.step ev' k=some ⟨s.m,s.done.set k true,s.told.set k (s.m.load hN aN)⟩ by rw[HEV.o];rfl);obtain⟨W8,rfl⟩:=exE wy;have H68:=Jh (blk_below HBy.o H67.o);have H88:=Jh (blk_below HBy.o H87.o)
          obtain⟨_,_,e9,hcF,oT⟩:=HT7.o.tk (T:=[]) (Tk.below HBy.o) (by simp);injection e9 with e91 _ e93
          subst e91 e93;have hcT9:=oT.cellAt k (by omega);obtain⟨ud,hud⟩:∃u,(ints s.told)[k]?=some u:=⟨_,List.getElem?_eq_getElem (by rw[oT.1];omega)⟩;rw[hud] at hcT9;have hfT:=oT.frozenAt k;have HTk2:=Jh (tk_of_own (i:=k) (x:=.int .i64 (s.m.load hN aN)) (show OwnAt b6 3 1 n (ints s.told) (.slice (some ⟨gT,0,none⟩) n dF) W8 from⟨_,_,rfl,hcF,oT⟩));obtain⟨oT2,_⟩:=oT.stored k (.int .i64 (s.m.load hN aN))
          have HT9:=Jh (show OwnAt b6 3 1 n (ints (s.told.set k (s.m.load hN aN))) (.slice (some ⟨gT,0,none⟩) n dF) (W8.setCell ⟨gT,k,none⟩ (.int .i64 (s.m.load hN aN))) from⟨_,_,rfl,hcF,by rw[show ints (s.told.set k (s.m.load hN aN))=(ints s.told).set k (.int .i64 (s.m.load hN aN)) by simp[ints]];exact oT2⟩);have HD9:=Jh ((HD7.o.tk (T:=[]) (Tk.below HBy.o) (by simp)).tk HTk2.o (by decide));clear oT oT2 hud
          obtain⟨_,_,_,_,t4,_⟩:=cells5 H88.o;go_upto_region 16 with fail
          obtain⟨W9,hW9⟩:=exE (W8.setCell ⟨gT,k,none⟩ (.int .i64 (s.m.load hN aN)));rw[<-hW9] at HTk2 HT9 HD9⊢;have H69:=Jh (HTk2.o.at_ (by decide) H68.o);have H89:=Jh (HTk2.o.at_ (by decide) H88.o);have HB9:=Jh (show Below w.heap.size w W9 from hW9▸bS (bT HB7.o HBy.o) (show w.heap.size<=gT by have:=HGB.o;omega));clear hW9 hcT9 hfT t4;obtain⟨q0,q1,q2,q3,q4,_⟩:=cells5 H89.o
          obtain⟨t0,t1,t2,t3,t4,f0,f1,f2,f3,f4⟩:=cells5 H69.o;go_wp2_with fail;refine bodyPost_ret (ret62b rfl rfl (set5 H69.o)) rfl ⟨?_,bS5 HB9.o h6⟩;rw[HNk.o,HST.o];refine NextIs.of rfl fun s' hs'=>?_;cases hs';have hk:=Tk.set5 (x':=.slice A1 4 c1) (y':=.slice A2 4 c2) (z':=.slice A3 4 c3) (u':=.slice (some ⟨gB,0,none⟩) n dE) (v':=.slice (some ⟨gT,0,none⟩) n dF) H69.o
          exact(isSt_own HD9.o HT9.o (HIM.o.sees (Below.sees HB9.o)) (HOs.o _ HST.o)).tk hk (by decide) (by decide) (by decide) (by decide)
        ·subst hk1;go_upto_region 18 with fail
         clear hc0 hc1 hc2 hc3;have hq:∀(k:Nat) (l:Nat->Bool) (wx:World),Below W7.heap.size W7 wx->Below W7.heap.size W7 wx:=fun _ _ _ h=>h;have rr:∀{T:List TypeId} (wx:World),Tk T wx wx:=fun wx=>Tk.refl _ wx;have nt:∀(i e:Nat),e≠59->e∉(if i=19 then[59] else[]:List TypeId):=fun i e h=>by
          split
          ·simpa using h
          simp
         refine wp_region_det (by kernel_rfl) (fun f=>(⟨#[Value.slice (some ⟨g,off,none⟩) n c,Value.agg #[Value.slice A1 4 c1,Value.slice A2 4 c2,Value.slice A3 4 c3,Value.slice (some ⟨gd,offd,none⟩) n cD,Value.slice AT n cT],Value.agg #[.int .i64 (hN:Int),Value.bool false,.int .i64 0],undef,Value.pointer (some ⟨b4,0,none⟩),Value.pointer (some ⟨b5,0,none⟩),Value.pointer (some ⟨b6,0,none⟩),Value.bool false,Value.pointer (some ⟨b8,0,none⟩),undef,undef,.int .i64 (k:Int),undef,undef,f 18,f 20,Value.pointer (some ⟨b4,0,none⟩),Value.agg #[Value.slice A1 4 c1,Value.slice A2 4 c2,Value.slice A3 4 c3],Value.pointer (some ⟨b4,3,none⟩),Value.slice (some ⟨gd,offd,none⟩) n cD,Value.slice E4 n d4,Value.pointer (some ⟨b4,4,none⟩),Value.slice AT n cT,Value.slice E7 n d7,Value.agg #[Value.slice A1 4 c1,Value.slice A2 4 c2,Value.slice A3 4 c3,d9,t9],Value.pointer (some ⟨b5,1,none⟩),Value.bool false,undef,undef,undef,undef,undef,undef,undef,undef,undef,undef,undef,undef,undef,undef,undef,.int .i64 (k:Int),Value.slice (some ⟨g,off,none⟩) n c,.int .i64 (n:Int),Value.bool true,Value.bool true,Value.slice (some ⟨g,off,none⟩) n c,.int .i64 (k:Int),Value.pointer (some ⟨g,off+k*4,none⟩),Value.pointer (some ⟨g,off+k*4,none⟩),.int .i64 (hN:Int),Value.pointer (some ⟨b5,0,none⟩),.int .i64 (hN:Int),Value.bool false,Value.bool false,Value.pointer (some ⟨b4,3,none⟩),Value.slice (some ⟨gd,offd,none⟩) n cD,.int .i64 (k:Int),Value.pointer (some ⟨gd,offd+k,none⟩),Value.bool false,Value.bool false,Value.bool false,u63,u64,.int .i64 (k:Int),Value.slice (some ⟨g,off,none⟩) n c,.int .i64 (n:Int),Value.bool false,Value.bool false,Value.pointer (some ⟨b5,2,none⟩),.int .i64 0,Value.bool false,Value.bool false,undef,Value.pointer (some ⟨b8,3,none⟩),Value.slice (some ⟨gB,0,none⟩) n dE,.int .i64 (k:Int),Value.pointer (some ⟨gB,k,none⟩),Value.slice (some ⟨g,off,none⟩) n c,.int .i64 (k:Int),Value.pointer (some ⟨g,off+k*4,none⟩),Value.pointer (some ⟨g,off+k*4+1,none⟩),.int .i64 2,Value.bool false,Value.bool false,undef,undef,undef,undef,undef,undef,undef,undef,undef,undef,undef,undef,undef,undef,undef,undef,undef,undef,undef,undef,undef,Value.bool true,Value.bool true,f 15,f 0,f 1,f 2,f 3,f 4,f 5,f 6,f 7,f 8,f 9,f 10,f 11,f 12,f 13,f 14,f 16,f 17,undef,undef,undef,undef,undef,undef,undef,undef,undef,undef,undef,undef,undef,undef,undef],[]⟩:Act)) (fun(iv:Nat) (lv:Nat->Bool) (fv:Nat->Value) (wx:World)=>match iv with|0=>fv 0=.pointer (some ⟨b4,0,none⟩)|1=>fv 1=.agg #[.slice A1 4 c1,.slice A2 4 c2,.slice A3 4 c3]|2=>fv 2=.pointer (some ⟨b5,0,none⟩)|3=>fv 3=.int .i64 (hN:Int)|4=>fv 4=.slice (some ⟨g,off,none⟩) n c|5=>fv 5=.int .i64 (k:Int)|6=>fv 6=.pointer (some ⟨g,off+k*4,none⟩)|7=>fv 7=.pointer (some ⟨g,off+k*4+2,none⟩)|8=>fv 8=.int .i64 (aN:Int)|9=>fv 9=.slice (some ⟨g,off,none⟩) n c|10=>fv 10=.int .i64 (k:Int)|11=>fv 11=.pointer (some ⟨g,off+k*4,none⟩)|12=>fv 12=.pointer (some ⟨g,off+k*4+3,none⟩)|13=>fv 13=.int .i64 en|14=>∃E1 y1 E2 y2 E3 y3,(fv 14)=.tuple #[.agg #[.slice E1 4 y1,.slice E2 4 y2,.slice E3 4 y3],.int .i64 0]/\IsMem wx (.slice E1 4 y1) (.slice E2 4 y2) (.slice E3 4 y3) (s.m.store hN aN en)|15=>∃x,(fv 15)=.tuple #[x,.int .i64 0]/\(fv 14)=.tuple #[x,.int .i64 0]|16=>∃x,(fv 15)=.tuple #[x,.int .i64 0]/\(fv 16)=x|17=>fv 17=.int .i64 0|18=>∃gX,(fv 18)=.pointer (some ⟨gX,0,none⟩)/\W7.heap.size<=gX/\((lv 19)=false->∃x y z,wx.heap[gX]?=some (.cells #[x,y,z] 59))|19=>∃gX E1 y1 E2 y2 E3 y3,(fv 18)=.pointer (some ⟨gX,0,none⟩)/\W7.heap.size<=gX/\(fv 16)=.agg #[.slice E1 4 y1,.slice E2 4 y2,.slice E3 4 y3]/\wx.heap[gX]?=some (.cells #[.slice E1 4 y1,.slice E2 4 y2,.slice E3 4 y3] 59)/\IsMem wx (.slice E1 4 y1) (.slice E2 4 y2) (.slice E3 4 y3) (s.m.store hN aN en)|20=>fv 20=.int .i64 0|_=>True) (fun _ wx=>Below W7.heap.size W7 wx) (fun i w1 w2=>Tk (if i=19 then[59] else[]) w1 w2) (by kernel_rfl) (fun k=>match k with|_=>undef) rfl ?keep (bD (bR W7)) ?steps ?fin
         case keep=>
          intro iv j hij hd l f f' w1 w2 hf hR
          match j with
          |0|1|2|3|4|5|6|7|8|9|10|11|12|13|17|20=>exact fun h=>(hf _ (Ne.symm hij)).trans h
          |14=>
           intro h;have h:∃E1 y1 E2 y2 E3 y3,(f 14)=.tuple #[.agg #[.slice E1 4 y1,.slice E2 4 y2,.slice E3 4 y3],.int .i64 0]/\IsMem w1 (.slice E1 4 y1) (.slice E2 4 y2) (.slice E3 4 y3) (s.m.store hN aN en):=h;show∃E1 y1 E2 y2 E3 y3,(f' 14)=.tuple #[.agg #[.slice E1 4 y1,.slice E2 4 y2,.slice E3 4 y3],.int .i64 0]/\IsMem w2 (.slice E1 4 y1) (.slice E2 4 y2) (.slice E3 4 y3) (s.m.store hN aN en)
           rw[hf 14 (Ne.symm hij)];exact h.elim fun E1 h=>h.elim fun y1 h=>h.elim fun E2 h=>h.elim fun y2 h=>h.elim fun E3 h=>h.elim fun y3 h=>⟨E1,y1,E2,y2,E3,y3,h.1,h.2.tk hR (nt _ 3 (by decide)) (nt _ 87 (by decide)) (nt _ 128 (by decide))⟩
          |15=>intro h;have h:∃x,(f 15)=.tuple #[x,.int .i64 0]/\(f 14)=.tuple #[x,.int .i64 0]:=h;show∃x,(f' 15)=.tuple #[x,.int .i64 0]/\(f' 14)=.tuple #[x,.int .i64 0];rw[hf 15 (Ne.symm hij),hf 14 (fun e=>hd (e▸of_decide_eq_true (by kernel_rfl)))];exact h
          |16=>intro h;have h:∃x,(f 15)=.tuple #[x,.int .i64 0]/\(f 16)=x:=h;show∃x,(f' 15)=.tuple #[x,.int .i64 0]/\(f' 16)=x;rw[hf 16 (Ne.symm hij),hf 15 (fun e=>hd (e▸of_decide_eq_true (by kernel_rfl)))];exact h
          |18=>
           intro h;have h:∃gX,(f 18)=.pointer (some ⟨gX,0,none⟩)/\W7.heap.size<=gX/\((l 19)=false->∃x y z,w1.heap[gX]?=some (.cells #[x,y,z] 59)):=h;show∃gX,(f' 18)=.pointer (some ⟨gX,0,none⟩)/\W7.heap.size<=gX/\((decide (19=iv)||l 19)=false->∃x y z,w2.heap[gX]?=some (.cells #[x,y,z] 59));rw[hf 18 (Ne.symm hij)]
           exact h.elim fun g h=>⟨g,h.1,h.2.1,fun hl=>(h.2.2 (Bool.or_eq_false_iff.1 hl).2).elim fun x h=>h.elim fun y h=>h.elim fun z h=>⟨x,y,z,Tk.at_ hR (by rw[if_neg (fun e=>absurd e.symm (of_decide_eq_false (Bool.or_eq_false_iff.1 hl).1))];exact List.not_mem_nil) h⟩⟩
          |19=>
           intro h;have h:∃gX E1 y1 E2 y2 E3 y3,(f 18)=.pointer (some ⟨gX,0,none⟩)/\W7.heap.size<=gX/\(f 16)=.agg #[.slice E1 4 y1,.slice E2 4 y2,.slice E3 4 y3]/\w1.heap[gX]?=some (.cells #[.slice E1 4 y1,.slice E2 4 y2,.slice E3 4 y3] 59)/\IsMem w1 (.slice E1 4 y1) (.slice E2 4 y2) (.slice E3 4 y3) (s.m.store hN aN en):=h
           show∃gX E1 y1 E2 y2 E3 y3,(f' 18)=.pointer (some ⟨gX,0,none⟩)/\W7.heap.size<=gX/\(f' 16)=.agg #[.slice E1 4 y1,.slice E2 4 y2,.slice E3 4 y3]/\w2.heap[gX]?=some (.cells #[.slice E1 4 y1,.slice E2 4 y2,.slice E3 4 y3] 59)/\IsMem w2 (.slice E1 4 y1) (.slice E2 4 y2) (.slice E3 4 y3) (s.m.store hN aN en)
           rw[hf 16 (fun e=>hd (e▸of_decide_eq_true (by kernel_rfl))),hf 18 (fun e=>hd (e▸of_decide_eq_true (by kernel_rfl)))]
           exact h.elim fun gX h=>h.elim fun E1 h=>h.elim fun y1 h=>h.elim fun E2 h=>h.elim fun y2 h=>h.elim fun E3 h=>h.elim fun y3 h=>⟨gX,E1,y1,E2,y2,E3,y3,h.1,h.2.1,h.2.2.1,Tk.at_ hR (by rw[if_neg (fun e=>hij e)];exact List.not_mem_nil) h.2.2.2.1,h.2.2.2.2.tk hR (nt _ 3 (by decide)) (nt _ 87 (by decide)) (nt _ 128 (by decide))⟩
          |_+21=>exact id
         case steps=>
          refine fun iv hiv=>stepsOf_at (k:=0) (n:=21) ?_ iv (Nat.zero_le _) (by rw[Nat.zero_add];exact hiv);refine sD 0 20 aT0 [] (fun f wq l hl hun hdn hS hd K' HK=>?_) ?_
          ·clear hd;go_simp;exact HK.o _ _ _ rfl rfl (hq 0 l _ hS) (rr _)
          refine sD 1 19 aT1 [0] (fun f wq l hl hun hdn hS hd K' HK=>?_) ?_
          ·obtain⟨e0,-⟩:=hd;have e0:f 0=_:=e0;obtain⟨r0,r1,r2,r3,r4,_⟩:=cells5 (blk_below hS H47.o);simp only[e0];go_simp;exact HK.o _ _ _ (by simp only[e0];rfl) rfl (hq 1 l _ hS) (rr _)
          refine sD 2 18 aT2 [] (fun f wq l hl hun hdn hS hd K' HK=>?_) ?_
          ·clear hd;go_simp;exact HK.o _ _ _ rfl rfl (hq 2 l _ hS) (rr _)
          refine sD 3 17 aT3 [2] (fun f wq l hl hun hdn hS hd K' HK=>?_) ?_
          ·obtain⟨e2,-⟩:=hd;have e2:f 2=_:=e2;obtain⟨r0,_⟩:=cells3 (blk_below hS H57.o);simp only[e2];go_simp;exact HK.o _ _ _ (by simp only[e2];rfl) rfl (hq 3 l _ hS) (rr _)
          refine sD 4 16 aT4 [] (fun f wq l hl hun hdn hS hd K' HK=>?_) ?_
          ·clear hd;go_simp;exact HK.o _ _ _ rfl rfl (hq 4 l _ hS) (rr _)
          refine sD 5 15 aT5 [] (fun f wq l hl hun hdn hS hd K' HK=>?_) ?_
          ·clear hd;go_simp;exact HK.o _ _ _ rfl rfl (hq 5 l _ hS) (rr _)
          refine sD 6 14 aT6 [4,5] (fun f wq l hl hun hdn hS hd K' HK=>?_) ?_
          ·obtain⟨e4,e5,-⟩:=hd;have e4:f 4=_:=e4;have e5:f 5=_:=e5;simp only[e4,e5];go_simp;exact HK.o _ _ _ (by simp only[e4,e5];rfl) rfl (hq 6 l _ hS) (rr _)
          refine sD 7 13 aT7 [6] (fun f wq l hl hun hdn hS hd K' HK=>?_) ?_
          ·obtain⟨e6,-⟩:=hd;have e6:f 6=_:=e6;simp only[e6];go_simp;exact HK.o _ _ _ (by simp only[e6];rfl) rfl (hq 7 l _ hS) (rr _)
          refine sD 8 12 aT8 [7] (fun f wq l hl hun hdn hS hd K' HK=>?_) ?_
          ·obtain⟨e7,-⟩:=hd;have e7:f 7=_:=e7;have r0:=(hS.cell (cell_lt HC0.o.2.1)).trans HC0.o.2.1;simp only[e7];go_simp;exact HK.o _ _ _ (by simp only[e7];rfl) rfl (hq 8 l _ hS) (rr _)
          refine sD 9 11 aT9 [] (fun f wq l hl hun hdn hS hd K' HK=>?_) ?_
          ·clear hd;go_simp;exact HK.o _ _ _ rfl rfl (hq 9 l _ hS) (rr _)
          refine sD 10 10 aT10 [] (fun f wq l hl hun hdn hS hd K' HK=>?_) ?_
          ·clear hd;go_simp;exact HK.o _ _ _ rfl rfl (hq 10 l _ hS) (rr _)
          refine sD 11 9 aT11 [9,10] (fun f wq l hl hun hdn hS hd K' HK=>?_) ?_
          ·obtain⟨e9,e10,-⟩:=hd;have e9:f 9=_:=e9;have e10:f 10=_:=e10;simp only[e9,e10];go_simp;exact HK.o _ _ _ (by simp only[e9,e10];rfl) rfl (hq 11 l _ hS) (rr _)
          refine sD 12 8 aT12 [11] (fun f wq l hl hun hdn hS hd K' HK=>?_) ?_
          ·obtain⟨e11,-⟩:=hd;have e11:f 11=_:=e11;simp only[e11];go_simp;exact HK.o _ _ _ (by simp only[e11];rfl) rfl (hq 12 l _ hS) (rr _)
          refine sD 13 7 aT13 [12] (fun f wq l hl hun hdn hS hd K' HK=>?_) ?_
          ·obtain⟨e12,-⟩:=hd;have e12:f 12=_:=e12;have r0:=(hS.cell (cell_lt HC0.o.2.2)).trans HC0.o.2.2;simp only[e12];go_simp;exact HK.o _ _ _ (by simp only[e12];rfl) rfl (hq 13 l _ hS) (rr _)
          refine sD 14 6 aT14 [1,3,8,13] (fun f wq l hl hun hdn hS hd K' HK=>?_) ?_
          ·obtain⟨e1,e3,e8,e13,-⟩:=hd;have e1:f 1=_:=e1;have e3:f 3=_:=e3;have e8:f 8=_:=e8;have e13:f 13=_:=e13;have HCz:=Jh (store52_any _ _ _ s.m hN aN en wq (HM7.o.sees (Below.sees hS)) hN4 aN4 HEN.o (Nat.lt_of_lt_of_le (St.few HOk.o hn (getD_false HDn.o) hN) (by omega)));have HS:=Jh hS;clear hS;simp only[e1,e3,e8,e13];go_simp;go_wp2_with fail;refine HCz.o.mono ?_;rintro e w9 ⟨⟨u1,u2,u3,rfl,hm9⟩,hb9⟩
           obtain⟨E1,y1,rfl,_⟩:=hm9.ws;obtain⟨E2,y2,_,rfl,_⟩:=hm9.ps;obtain⟨E3,y3,rfl,_⟩:=hm9.rs;exact HK.o _ _ _ (by simp only[e1,e3,e8,e13];rfl) ⟨_,_,_,_,_,_,rfl,hm9⟩ (bT HS.o hb9) (Tk.below hb9)
          refine sD 15 5 aT15 [14] (fun f wq l hl hun hdn hS hd K' HK=>?_) ?_
          ·obtain⟨e14,-⟩:=hd;have e14:∃E1 y1 E2 y2 E3 y3,(f 14)=.tuple #[.agg #[.slice E1 4 y1,.slice E2 4 y2,.slice E3 4 y3],.int .i64 0]/\IsMem wq (.slice E1 4 y1) (.slice E2 4 y2) (.slice E3 4 y3) (s.m.store hN aN en):=e14;obtain⟨E1,y1,E2,y2,E3,y3,h14,_⟩:=e14;simp only[h14];go_simp;exact HK.o _ _ _ (by simp only[h14];rfl) ⟨_,rfl,h14⟩ (hq 15 l _ hS) (rr _)
          refine sD 16 4 aT16 [15] (fun f wq l hl hun hdn hS hd K' HK=>?_) ?_
          ·obtain⟨e15,-⟩:=hd;have e15:∃x,(f 15)=.tuple #[x,.int .i64 0]/\(f 14)=.tuple #[x,.int .i64 0]:=e15;obtain⟨x,h15,hz9⟩:=e15;clear hz9;simp only[h15];go_simp;exact HK.o _ _ _ (by simp only[h15];rfl) ⟨_,h15,rfl⟩ (hq 16 l _ hS) (rr _)
          refine sD 17 3 aT17 [15] (fun f wq l hl hun hdn hS hd K' HK=>?_) ?_
          ·obtain⟨e15,-⟩:=hd;have e15:∃x,(f 15)=.tuple #[x,.int .i64 0]/\(f 14)=.tuple #[x,.int .i64 0]:=e15;obtain⟨x,h15,hz9⟩:=e15;clear hz9;simp only[h15];go_simp;exact HK.o _ _ _ (by simp only[h15];rfl) rfl (hq 17 l _ hS) (rr _)
          refine sD 18 2 aT18 [] (fun f wq l hl hun hdn hS hd K' HK=>?_) ?_
          ·clear hd;have HS:=Jh hS;clear hS;go_simp;exact HK.o _ _ _ rfl ⟨_,rfl,HS.o.size,fun _=>⟨_,_,_,heap_alloc_new wq _⟩⟩ (bT HS.o (bA (bR wq))) (Tk.below (bA (bR wq)))
          refine sD 19 1 aT19 [14,15,16,18] (fun f wq l hl hun hdn hS hd K' HK=>?_) ?_
          ·obtain⟨e14,e15,e16,e18,-⟩:=hd;have e14:∃E1 y1 E2 y2 E3 y3,(f 14)=.tuple #[.agg #[.slice E1 4 y1,.slice E2 4 y2,.slice E3 4 y3],.int .i64 0]/\IsMem wq (.slice E1 4 y1) (.slice E2 4 y2) (.slice E3 4 y3) (s.m.store hN aN en):=e14;have e15:∃x,(f 15)=.tuple #[x,.int .i64 0]/\(f 14)=.tuple #[x,.int .i64 0]:=e15;have e16:∃x,(f 15)=.tuple #[x,.int .i64 0]/\(f 16)=x:=e16
           have e18:∃gX,(f 18)=.pointer (some ⟨gX,0,none⟩)/\W7.heap.size<=gX/\((l 19)=false->∃x y z,wq.heap[gX]?=some (.cells #[x,y,z] 59)):=e18;obtain⟨gX,h18,hgX,hgb⟩:=e18;obtain⟨x,y,z,hx⟩:=hgb hl;obtain⟨E1,y1,E2,y2,E3,y3,h14,hm9⟩:=e14;obtain⟨x15,h15,hx14⟩:=e15;obtain⟨x16,hx15,h16⟩:=e16;rw[h15] at hx15;rw[h14] at hx14
           obtain rfl:x15=.agg #[.slice E1 4 y1,.slice E2 4 y2,.slice E3 4 y3]:=by injection hx14 with hx14;simpa using hx14.symm
           obtain rfl:x16=.agg #[.slice E1 4 y1,.slice E2 4 y2,.slice E3 4 y3]:=by injection hx15 with hx15;simpa using hx15.symm
           obtain⟨r0,r1,r2,r3,r4,r5⟩:=cells3 hx;have HX:=Jh hx;have HM9:=Jh hm9;have HS:=Jh hS;clear hx hm9 hgb hS;simp only[h14,h15,h16,h18];go_simp;have hk:=Tk.set3 (x':=.slice E1 4 y1) (y':=.slice E2 4 y2) (z':=.slice E3 4 y3) HX.o
           exact HK.o undef _ _ (by simp only[h14,h15,h16,h18];rfl) ⟨gX,_,_,_,_,_,_,h18,hgX,h16,set3 HX.o,HM9.o.tk hk (by decide) (by decide) (by decide)⟩ (bS (bS (bS HS.o hgX) hgX) hgX) hk
          refine sD 20 0 aT20 [14,15,16,17,18,19] (fun f wq l hl hun hdn hS hd K' HK=>?_) ?_
          ·obtain⟨e14,e15,e16,e17,e18,e19,-⟩:=hd;have e14:∃E1 y1 E2 y2 E3 y3,(f 14)=.tuple #[.agg #[.slice E1 4 y1,.slice E2 4 y2,.slice E3 4 y3],.int .i64 0]/\IsMem wq (.slice E1 4 y1) (.slice E2 4 y2) (.slice E3 4 y3) (s.m.store hN aN en):=e14;have e15:∃x,(f 15)=.tuple #[x,.int .i64 0]/\(f 14)=.tuple #[x,.int .i64 0]:=e15;have e16:∃x,(f 15)=.tuple #[x,.int .i64 0]/\(f 16)=x:=e16;have e17:f 17=_:=e17
           have e18:∃gX,(f 18)=.pointer (some ⟨gX,0,none⟩)/\W7.heap.size<=gX/\((l 19)=false->∃x y z,wq.heap[gX]?=some (.cells #[x,y,z] 59)):=e18
           have e19:∃gX E1 y1 E2 y2 E3 y3,(f 18)=.pointer (some ⟨gX,0,none⟩)/\W7.heap.size<=gX/\(f 16)=.agg #[.slice E1 4 y1,.slice E2 4 y2,.slice E3 4 y3]/\wq.heap[gX]?=some (.cells #[.slice E1 4 y1,.slice E2 4 y2,.slice E3 4 y3] 59)/\IsMem wq (.slice E1 4 y1) (.slice E2 4 y2) (.slice E3 4 y3) (s.m.store hN aN en):=e19;clear e14 e15 e16 e18 e19;simp only[e17];go_simp
           exact HK.o _ _ _ (by simp only[e17];rfl) rfl (hq 20 l _ hS) (rr _)
          exact trivial
         case fin=>
          intro fp wy lp hl hall hS;have a14:∃E1 y1 E2 y2 E3 y3,(fp 14)=.tuple #[.agg #[.slice E1 4 y1,.slice E2 4 y2,.slice E3 4 y3],.int .i64 0]/\IsMem wy (.slice E1 4 y1) (.slice E2 4 y2) (.slice E3 4 y3) (s.m.store hN aN en):=hall 14 (by decide);have a15:∃x,(fp 15)=.tuple #[x,.int .i64 0]/\(fp 14)=.tuple #[x,.int .i64 0]:=hall 15 (by decide)
          have a18:∃gX,(fp 18)=.pointer (some ⟨gX,0,none⟩)/\W7.heap.size<=gX/\((lp 19)=false->∃x y z,wy.heap[gX]?=some (.cells #[x,y,z] 59)):=hall 18 (by decide)
          have a19:∃gX E1 y1 E2 y2 E3 y3,(fp 18)=.pointer (some ⟨gX,0,none⟩)/\W7.heap.size<=gX/\(fp 16)=.agg #[.slice E1 4 y1,.slice E2 4 y2,.slice E3 4 y3]/\wy.heap[gX]?=some (.cells #[.slice E1 4 y1,.slice E2 4 y2,.slice E3 4 y3] 59)/\IsMem wy (.slice E1 4 y1) (.slice E2 4 y2) (.slice E3 4 y3) (s.m.store hN aN en):=hall 19 (by decide);have a20:fp 20=_:=hall 20 (by decide);clear hall
          obtain⟨gX,E1,y1,E2,y2,E3,y3,hg18,hgX,h16,hgb,hIM⟩:=a19;obtain⟨F1,x1,F2,x2,F3,x3,h14,_⟩:=a14;obtain⟨x15,h15,_⟩:=a15;simp only[h14,h15,h16,hg18,a20];have HBy:=Jh hS;have HGX:=Jh hgb;have HIM2:=Jh hIM;clear h14 h15 h16 hg18 a20 hgb hIM rr hl hS hq nt;have HST:=Jh (show s.step ev' k=some ⟨s.m.store hN aN en,s.done.set k true,s.told⟩ by rw[HEV.o];rfl);obtain⟨W8,rfl⟩:=exE wy
          have H68:=Jh (blk_below HBy.o H67.o);have H88:=Jh (blk_below HBy.o H87.o);have HD8:=Jh (HD7.o.tk (T:=[]) (Tk.below HBy.o) (by simp));have HT8:=Jh (HT7.o.tk (T:=[]) (Tk.below HBy.o) (by simp));obtain⟨q0,q1,q2,_⟩:=cells3 HGX.o;obtain⟨t0,t1,t2,t3,t4,f0,f1,f2,f3,f4⟩:=cells5 H88.o;go_upto_region 20 with fail
          obtain⟨W9,hW9⟩:=exE (((W8.setCell ⟨b8,0,none⟩ (.slice E1 4 y1)).setCell ⟨b8,1,none⟩ (.slice E2 4 y2)).setCell ⟨b8,2,none⟩ (.slice E3 4 y3));have hs:=set35g (x':=.slice E1 4 y1) (y':=.slice E2 4 y2) (z':=.slice E3 4 y3) H88.o;rw[<-hW9] at hs⊢;have H89:=Jh hs.1;have HT4:=Jh hs.2
          have h69:W9.heap[b6]?=W8.heap[b6]?:=by have hne:b6≠b8:=Nat.ne_of_lt HL8.o;rw[hW9,set_other _ hne,set_other _ hne,set_other _ hne]
          have H69:=Jh (h69.trans H68.o);have h8:w.heap.size<=b8:=by have:=HL.o;have:=HL8.o;omega
          have HB9:=Jh (show Below w.heap.size w W9 from hW9▸bS (bS (bS (bT HB7.o HBy.o) h8) h8) h8);clear hW9 hs h69 q0 q1 q2 t0 t1 t2 t3 t4 f0 f1 f2 f3 f4;obtain⟨q0,q1,q2,q3,q4,_⟩:=cells5 H89.o;obtain⟨t0,t1,t2,t3,t4,f0,f1,f2,f3,f4⟩:=cells5 H69.o;go_wp2_with fail;refine bodyPost_ret (ret62b rfl rfl (set5 H69.o)) rfl ⟨?_,bS5 HB9.o h6⟩;rw[HNk.o,HST.o];refine NextIs.of rfl fun s' hs'=>?_;cases hs'
          have hk:=tk_trans HT4.o (Tk.set5 (x':=.slice E1 4 y1) (y':=.slice E2 4 y2) (z':=.slice E3 4 y3) (u':=.slice (some ⟨gB,0,none⟩) n dE) (v':=.slice (some ⟨gT,0,none⟩) n dF) H69.o);exact(isSt_own HD8.o HT8.o HIM2.o (HOs.o _ HST.o)).tk hk (by decide) (by decide) (by decide) (by decide)
        subst hk1;go_upto_region 21 with fail
        clear hc0 hc1 hc2 hc3;obtain⟨p7,hp7⟩:∃p,s.m.pend[hN]?=some p:=⟨_,List.getElem?_eq_getElem (by rw[HIM.o.ok.lp];exact hN4)⟩;obtain⟨A7,np,c7,g2,o2,rfl,hnp,HP7⟩:=pend_at HIM.o hp7;have Hnp:=Jh hnp;clear hnp;have hhi:decide ((hN:Int)<0)=false:=by simp
        have hhj:(hN:Int)<4:=by omega
        have hq:∀(k9:Nat) (l:Nat->Bool) (wx:World),(Below w.heap.size w wx/\wx.heap[b4]?=some (.cells #[.slice A1 4 c1,.slice (some ⟨g2,o2,none⟩) 4 c2,.slice A3 4 c3,.slice (some ⟨gd,offd,none⟩) n cD,.slice AT n cT] 62)/\wx.heap[b5]?=some (.cells #[.int .i64 (hN:Int),.bool false,.int .i64 0] 56)/\wx.heap[b8]?=some (.cells #[.slice A1 4 c1,.slice (some ⟨g2,o2,none⟩) 4 c2,.slice A3 4 c3,.slice (some ⟨gB,0,none⟩) n dE,.slice (some ⟨gT,0,none⟩) n dF] 62)/\(∃x y z u v,wx.heap[b6]?=some (.cells #[x,y,z,u,v] 62))/\OwnAt b6 4 1 n (bools (s.done.set k true)) (.slice (some ⟨gB,0,none⟩) n dE) wx/\OwnAt b6 3 1 n (ints s.told) (.slice (some ⟨gT,0,none⟩) n dF) wx)->(Below w.heap.size w wx/\wx.heap[b4]?=some (.cells #[.slice A1 4 c1,.slice (some ⟨g2,o2,none⟩) 4 c2,.slice A3 4 c3,.slice (some ⟨gd,offd,none⟩) n cD,.slice AT n cT] 62)/\wx.heap[b5]?=some (.cells #[.int .i64 (hN:Int),.bool false,.int .i64 0] 56)/\wx.heap[b8]?=some (.cells #[.slice A1 4 c1,.slice (some ⟨g2,o2,none⟩) 4 c2,.slice A3 4 c3,.slice (some ⟨gB,0,none⟩) n dE,.slice (some ⟨gT,0,none⟩) n dF] 62)/\(∃x y z u v,wx.heap[b6]?=some (.cells #[x,y,z,u,v] 62))/\OwnAt b6 4 1 n (bools (s.done.set k true)) (.slice (some ⟨gB,0,none⟩) n dE) wx/\OwnAt b6 3 1 n (ints s.told) (.slice (some ⟨gT,0,none⟩) n dF) wx):=fun _ _ _ h=>h
        have rr:∀{T:List TypeId} (wx:World),Tk T wx wx:=fun wx=>Tk.refl _ wx;have tn:∀(_:Unit),True:=fun _=>trivial
        refine wp_region_det (by kernel_rfl) (fun f=>(⟨#[Value.slice (some ⟨g,off,none⟩) n c,Value.agg #[Value.slice A1 4 c1,Value.slice (some ⟨g2,o2,none⟩) 4 c2,Value.slice A3 4 c3,Value.slice (some ⟨gd,offd,none⟩) n cD,Value.slice AT n cT],Value.agg #[.int .i64 (hN:Int),Value.bool false,.int .i64 0],undef,Value.pointer (some ⟨b4,0,none⟩),Value.pointer (some ⟨b5,0,none⟩),Value.pointer (some ⟨b6,0,none⟩),f 11,Value.pointer (some ⟨b8,0,none⟩),undef,undef,.int .i64 (k:Int),undef,undef,undef,undef,Value.pointer (some ⟨b4,0,none⟩),Value.agg #[Value.slice A1 4 c1,Value.slice (some ⟨g2,o2,none⟩) 4 c2,Value.slice A3 4 c3],Value.pointer (some ⟨b4,3,none⟩),Value.slice (some ⟨gd,offd,none⟩) n cD,Value.slice E4 n d4,Value.pointer (some ⟨b4,4,none⟩),Value.slice AT n cT,Value.slice E7 n d7,Value.agg #[Value.slice A1 4 c1,Value.slice (some ⟨g2,o2,none⟩) 4 c2,Value.slice A3 4 c3,d9,t9],Value.pointer (some ⟨b5,1,none⟩),Value.bool false,undef,undef,undef,undef,undef,undef,undef,undef,undef,undef,undef,undef,undef,undef,undef,.int .i64 (k:Int),Value.slice (some ⟨g,off,none⟩) n c,.int .i64 (n:Int),Value.bool true,Value.bool true,Value.slice (some ⟨g,off,none⟩) n c,.int .i64 (k:Int),Value.pointer (some ⟨g,off+k*4,none⟩),Value.pointer (some ⟨g,off+k*4,none⟩),.int .i64 (hN:Int),Value.pointer (some ⟨b5,0,none⟩),.int .i64 (hN:Int),Value.bool false,Value.bool false,Value.pointer (some ⟨b4,3,none⟩),Value.slice (some ⟨gd,offd,none⟩) n cD,.int .i64 (k:Int),Value.pointer (some ⟨gd,offd+k,none⟩),Value.bool false,Value.bool false,Value.bool false,u63,u64,.int .i64 (k:Int),Value.slice (some ⟨g,off,none⟩) n c,.int .i64 (n:Int),Value.bool false,Value.bool false,Value.pointer (some ⟨b5,2,none⟩),.int .i64 0,Value.bool false,Value.bool false,undef,Value.pointer (some ⟨b8,3,none⟩),Value.slice (some ⟨gB,0,none⟩) n dE,.int .i64 (k:Int),Value.pointer (some ⟨gB,k,none⟩),Value.slice (some ⟨g,off,none⟩) n c,.int .i64 (k:Int),Value.pointer (some ⟨g,off+k*4,none⟩),Value.pointer (some ⟨g,off+k*4+1,none⟩),.int .i64 3,Value.bool false,Value.bool false,undef,undef,undef,undef,undef,undef,undef,undef,undef,undef,undef,undef,undef,undef,undef,undef,undef,undef,undef,undef,undef,Value.bool false,Value.bool false,undef,undef,undef,undef,undef,undef,undef,undef,undef,undef,undef,undef,undef,undef,undef,undef,undef,undef,undef,undef,undef,undef,undef,f 0,f 1,f 2,f 3,f 4,f 5,f 6,f 7,f 8,f 9],[]⟩:Act)) (fun(iv:Nat) (lv:Nat->Bool) (fv:Nat->Value) (wx:World)=>match iv with|0=>fv 0=.agg #[.slice A1 4 c1,.slice (some ⟨g2,o2,none⟩) 4 c2,.slice A3 4 c3,.slice (some ⟨gB,0,none⟩) n dE,.slice (some ⟨gT,0,none⟩) n dF]|1=>fv 1=.pointer (some ⟨b4,0,none⟩)|2=>fv 2=.pointer (some ⟨b4,1,none⟩)|3=>fv 3=.slice (some ⟨g2,o2,none⟩) 4 c2|4=>fv 4=.pointer (some ⟨b5,0,none⟩)|5=>fv 5=.int .i64 (hN:Int)|6=>fv 6=.pointer (some ⟨g2,o2+hN,none⟩)|7=>fv 7=.slice A7 np c7|8=>fv 8=.int .i64 (np:Int)|9=>fv 9=.bool ((np:Int)==0)|10=>wx.heap[b6]?=some (.cells #[.slice A1 4 c1,.slice (some ⟨g2,o2,none⟩) 4 c2,.slice A3 4 c3,.slice (some ⟨gB,0,none⟩) n dE,.slice (some ⟨gT,0,none⟩) n dF] 62)|11=>fv 11=.bool ((np:Int)==0)|_=>True) (fun _ wx=>Below w.heap.size w wx/\wx.heap[b4]?=some (.cells #[.slice A1 4 c1,.slice (some ⟨g2,o2,none⟩) 4 c2,.slice A3 4 c3,.slice (some ⟨gd,offd,none⟩) n cD,.slice AT n cT] 62)/\wx.heap[b5]?=some (.cells #[.int .i64 (hN:Int),.bool false,.int .i64 0] 56)/\wx.heap[b8]?=some (.cells #[.slice A1 4 c1,.slice (some ⟨g2,o2,none⟩) 4 c2,.slice A3 4 c3,.slice (some ⟨gB,0,none⟩) n dE,.slice (some ⟨gT,0,none⟩) n dF] 62)/\(∃x y z u v,wx.heap[b6]?=some (.cells #[x,y,z,u,v] 62))/\OwnAt b6 4 1 n (bools (s.done.set k true)) (.slice (some ⟨gB,0,none⟩) n dE) wx/\OwnAt b6 3 1 n (ints s.told) (.slice (some ⟨gT,0,none⟩) n dF) wx) (fun i w1 w2=>Tk (if i=10 then[62] else[]) w1 w2) (by kernel_rfl) (fun k=>match k with|11=>Value.bool false|_=>undef) rfl ?keep ⟨bD HB7.o,H47.o,H57.o,H87.o,⟨_,_,_,_,_,H67.o⟩,HD7.o,HT7.o⟩ ?steps ?fin
        case keep=>
         intro iv j hij hd l f f' w1 w2 hf hR
         match j with
         |0|1|2|3|4|5|6|7|8|9|11=>exact fun h=>(hf _ (Ne.symm hij)).trans h
         |10=>
          intro h;have h:w1.heap[b6]?=some (.cells #[.slice A1 4 c1,.slice (some ⟨g2,o2,none⟩) 4 c2,.slice A3 4 c3,.slice (some ⟨gB,0,none⟩) n dE,.slice (some ⟨gT,0,none⟩) n dF] 62):=h;show w2.heap[b6]?=some (.cells #[.slice A1 4 c1,.slice (some ⟨g2,o2,none⟩) 4 c2,.slice A3 4 c3,.slice (some ⟨gB,0,none⟩) n dE,.slice (some ⟨gT,0,none⟩) n dF] 62)
          exact Tk.at_ hR (by rw[if_neg (fun e=>hij e)];exact List.not_mem_nil) h
         |_+12=>exact id
        case steps=>
         refine fun iv hiv=>stepsOf_at (k:=0) (n:=12) ?_ iv (Nat.zero_le _) (by rw[Nat.zero_add];exact hiv);refine sD 0 11 aT0 [] (fun f wq l hl hun hdn hS hd K' HK=>?_) ?_
         ·clear hd;obtain⟨r0,r1,r2,r3,r4,_⟩:=cells5 hS.2.2.2.1;go_simp;exact HK.o _ _ _ rfl rfl (hq 0 l _ hS) (rr _)
         refine sD 1 10 aT1 [] (fun f wq l hl hun hdn hS hd K' HK=>?_) ?_
         ·clear hd;go_simp;exact HK.o _ _ _ rfl rfl (hq 1 l _ hS) (rr _)
         refine sD 2 9 aT2 [1] (fun f wq l hl hun hdn hS hd K' HK=>?_) ?_
         ·obtain⟨e1,-⟩:=hd;have e1:f 1=_:=e1;simp only[e1];go_simp;exact HK.o _ _ _ (by simp only[e1];rfl) rfl (hq 2 l _ hS) (rr _)
         refine sD 3 8 aT3 [2] (fun f wq l hl hun hdn hS hd K' HK=>?_) ?_
         ·obtain⟨e2,-⟩:=hd;have e2:f 2=_:=e2;obtain⟨r0,r1,r2,r3,r4,_⟩:=cells5 hS.2.1;simp only[e2];go_simp;exact HK.o _ _ _ (by simp only[e2];rfl) rfl (hq 3 l _ hS) (rr _)
         refine sD 4 7 aT4 [] (fun f wq l hl hun hdn hS hd K' HK=>?_) ?_
         ·clear hd;go_simp;exact HK.o _ _ _ rfl rfl (hq 4 l _ hS) (rr _)
         refine sD 5 6 aT5 [4] (fun f wq l hl hun hdn hS hd K' HK=>?_) ?_
         ·obtain⟨e4,-⟩:=hd;have e4:f 4=_:=e4;obtain⟨r0,_⟩:=cells3 hS.2.2.1;simp only[e4];go_simp;exact HK.o _ _ _ (by simp only[e4];rfl) rfl (hq 5 l _ hS) (rr _)
         refine sD 6 5 aT6 [3,5] (fun f wq l hl hun hdn hS hd K' HK=>?_) ?_
         ·obtain⟨e3,e5,-⟩:=hd;have e3:f 3=_:=e3;have e5:f 5=_:=e5;simp only[e3,e5];go_simp;exact HK.o _ _ _ (by simp only[e3,e5];rfl) rfl (hq 6 l _ hS) (rr _)
         refine sD 7 4 aT7 [6] (fun f wq l hl hun hdn hS hd K' HK=>?_) ?_
         ·obtain⟨e6,-⟩:=hd;have e6:f 6=_:=e6;have r9:=HP7.o wq hS.1;simp only[e6];go_simp;exact HK.o _ _ _ (by simp only[e6];rfl) rfl (hq 7 l _ hS) (rr _)
         refine sD 8 3 aT8 [7] (fun f wq l hl hun hdn hS hd K' HK=>?_) ?_
         ·obtain⟨e7,-⟩:=hd;have e7:f 7=_:=e7;simp only[e7];go_simp;exact HK.o _ _ _ (by simp only[e7];rfl) rfl (hq 8 l _ hS) (rr _)
         refine sD 9 2 aT9 [8] (fun f wq l hl hun hdn hS hd K' HK=>?_) ?_
         ·obtain⟨e8,-⟩:=hd;have e8:f 8=_:=e8;simp only[e8];go_simp;exact HK.o _ _ _ (by simp only[e8];rfl) rfl (hq 9 l _ hS) (rr _)
         refine sD 10 1 aT10 [0] (fun f wq l hl hun hdn hS hd K' HK=>?_) ?_
         ·obtain⟨e0,-⟩:=hd;have e0:f 0=_:=e0;obtain⟨x,y,z,u,v,hx⟩:=hS.2.2.2.2.1;obtain⟨r0,r1,r2,r3,r4,r5,r6,r7,r8,r9⟩:=cells5 hx;have HXb:=Jh hx;have HS:=Jh hS;clear hS hx;simp only[e0];go_simp;have hS:=HS.o;have hk:=Tk.set5 (x':=.slice A1 4 c1) (y':=.slice (some ⟨g2,o2,none⟩) 4 c2) (z':=.slice A3 4 c3) (u':=.slice (some ⟨gB,0,none⟩) n dE) (v':=.slice (some ⟨gT,0,none⟩) n dF) HXb.o
          exact HK.o undef _ _ (by simp only[e0];rfl) (set5 HXb.o) ⟨bS5 hS.1 h6,(other5 (show b4≠b6 by have:=HL.o;omega)).trans hS.2.1,(other5 (show b5≠b6 by have:=HL.o;omega)).trans hS.2.2.1,(other5 (show b8≠b6 by have:=HL8.o;omega)).trans hS.2.2.2.1,⟨_,_,_,_,_,set5 HXb.o⟩,hS.2.2.2.2.2.1.tk hk (by decide),hS.2.2.2.2.2.2.tk hk (by decide)⟩ hk
         refine sD 11 0 aT11 [9,10] (fun f wq l hl hun hdn hS hd K' HK=>?_) ?_
         ·obtain⟨e9,e10,-⟩:=hd;have e9:f 9=_:=e9;have e10:wq.heap[b6]?=some (.cells #[.slice A1 4 c1,.slice (some ⟨g2,o2,none⟩) 4 c2,.slice A3 4 c3,.slice (some ⟨gB,0,none⟩) n dE,.slice (some ⟨gT,0,none⟩) n dF] 62):=e10;clear e10;simp only[e9];go_simp;exact HK.o _ _ _ (by simp only[e9];rfl) rfl (hq 11 l _ hS) (rr _)
         exact trivial
        case fin=>
         intro fp wy lp hl hall hS;have a10:wy.heap[b6]?=some (.cells #[.slice A1 4 c1,.slice (some ⟨g2,o2,none⟩) 4 c2,.slice A3 4 c3,.slice (some ⟨gB,0,none⟩) n dE,.slice (some ⟨gT,0,none⟩) n dF] 62):=hall 10 (by decide);have a11:fp 11=_:=hall 11 (by decide);clear hall;have H6y:=Jh a10;have HBy:=Jh hS.1;have HO9:=Jh (And.intro hS.2.2.2.2.2.1 hS.2.2.2.2.2.2);simp only[a11];clear a10 a11 hS hq rr tn hl
         obtain⟨W8,rfl⟩:=exE wy;have HST:=Jh (show s.step ev' k=if p7=[] then some ⟨s.m,s.done.set k true,s.told⟩ else none by unfold St.step;rw[HEV.o];dsimp only;rw[if_neg (by decide),if_neg (by decide),Int.toNat_natCast,List.getD_eq_getElem?_getD,hp7];rfl)
         obtain⟨q,hqq⟩:=exE (((np:Int)==0));rw[<-hqq];have HQ:=Jh (show q=decide (p7=[]) from by
          rw[hqq,Hnp.o];cases p7<;>simp
          omega)
         clear hqq hp7;go_wp2_with fail;refine bodyPost_ret (ret62b rfl rfl H6y.o) rfl ⟨?_,HBy.o⟩;rw[HNk.o];refine NextIs.of (by rw[HQ.o,HST.o];by_cases h:p7=[]<;>simp[h]) fun s' hs'=>?_
         have hs2:=hs';rw[HST.o] at hs2;split at hs2
         ·cases hs2;exact isSt_own HO9.o.1 HO9.o.2 (HIM.o.sees (Below.sees HBy.o)) (HOs.o _ hs')
         cases hs2
       have hwb:(xw==0)=false:=by simpa using hw0
       have HF:=Jh (show s.next pl x=none from by rw[HNx.o,HDu.o];exact if_neg hw0)
       obtain⟨t0,t1,t2,t3,t4,f0,f1,f2,f3,f4⟩:=cells5 H66.o;go_wp2_with fail;refine bodyPost_ret (ret62b rfl rfl (set5 H66.o)) rfl ⟨?_,bS5 (bT HBz.o HB6.o) h6⟩;rw[HF.o];exact NextIs.of rfl fun s' h=>by cases h
     have hxb:(eh==xh)=false:=by simpa using hxa
     have HN:=Jh (show∀j,j<k+1->s.at_ pl xh j=false from fun j hj=>by
      rcases Nat.lt_or_ge j k with h1|h1
      ·exact HA.o j h1
      rw[show j=k by omega,HAT.o,hxb];rfl)
     go_upto_region 7 with fail
     go_quiet (fail)
     obtain⟨W6,hW6⟩:=exE (wo.drewN nq);rw[<-hW6];have HB6:=Jh (show Below wo.heap.size wo W6 from hW6▸bN (bR wo));clear hW6 hc0 hcd q3 q5;go_wp2_with fail;go_roundw;case rel=>exact⟨k+1,by omega,by go_num,HN.o,bT HBW.o HB6.o⟩
     case measure=>simp[intOf];omega
    have hlb:decide ((k:Int)<(n:Int))=false:=by simp;omega
    have hlb2:decide (k<n)=false:=by simpa using hlt
    have hkn:((k:Int)==(n:Int))=true:=by simp;omega
    have HF:=Jh (show s.next pl x=none from by rw[HNx.o,show s.due pl xh=none from find_range_none (fun j hj=>HA.o j (by have:=HEz.o.len;omega))])
    go_upto_region 7 with fail
    go_quiet (fail)
    obtain⟨W6,hW6⟩:=exE (wo.drewN nq);rw[<-hW6];have HB6:=Jh (bT HBW.o (show Below wo.heap.size wo W6 from hW6▸bN (bR wo)));have H66:=Jh (blk_below HB6.o H6z.o);clear hW6;obtain⟨t0,t1,t2,t3,t4,f0,f1,f2,f3,f4⟩:=cells5 H66.o;go_wp2_with fail;have h6:w.heap.size<=b6:=by have:=HL.o;omega
    refine bodyPost_ret (ret62b rfl rfl (set5 H66.o)) rfl ⟨?_,bS5 (bT HBz.o HB6.o) h6⟩;rw[HF.o];exact NextIs.of rfl fun s' h=>by cases h
end Go.Proofs.YtnigadeohmlpiaaGreatDoor
