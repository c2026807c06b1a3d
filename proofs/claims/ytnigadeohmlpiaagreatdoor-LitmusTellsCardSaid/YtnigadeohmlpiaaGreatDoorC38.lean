/- Contracts and words: a store is put behind a hart's others; a drain that may be, or not. No condition of ours. -/
import Derived.Test.YtnigadeohmlpiaaGreatDoorC37
set_option maxHeartbeats 32000000
set_option maxRecDepth 100000
namespace Go.Proofs.YtnigadeohmlpiaaGreatDoor
open Go.RowKit
attribute [local go_sem] Oper.semAt_some
theorem store52_any(v1 v2 v3:Value)(M:Mm)(ht a:Nat)(n:Int)(w:World)(hm:IsMem w v1 v2 v3 M)(hh:ht<4)(ha:a<4)(hn:I32 n)(hl:(M.pend.getD ht []).length<8):
  Calls Tryz.prog 52 #[.agg #[v1,v2,v3],.int .i64 ht,.int .i64 a,.int .i64 n] w fun e w'=>(∃u1 u2 u3,e=.returned (.tuple #[.agg #[u1,u2,u3],.int .i64 0])/\IsMem w' u1 u2 u3 (M.store ht a n))/\Below w.heap.size w w':=by
 obtain⟨A1,c1,rfl,hr1⟩:=hm.ws;obtain⟨A2,c2,p0,rfl,hr2,hp⟩:=hm.ps;obtain⟨A3,c3,rfl,hr3⟩:=hm.rs;have HM:=Jh hm;obtain⟨p,hpk⟩:∃p,M.pend[ht]?=some p:=⟨_,List.getElem?_eq_getElem (by rw[hm.ok.lp];exact hh)⟩;have hp8:p.length<8:=by rw[List.getD_eq_getElem?_getD,hpk] at hl;exact hl
 obtain⟨A4,c4,he4,hc4,hr4⟩:=hp ht p hpk;obtain⟨n4,hn4⟩:=exE (p.length);rw[<-hn4] at hp8 hr4 he4 hc4;have HPk:=Jh hpk;have HN4:=Jh hn4;have HR4:=Jh hr4;have hbx:=heap_alloc_new w (.cells #[.slice A1 4 c1,.slice A2 4 c2,.slice A3 4 c3] 59);obtain⟨b4,hb4⟩:=exE (w.heap.size);obtain⟨b8,hb8⟩:=exE (b4+1)
 obtain⟨W0,hW0⟩:=exE ((w.alloc (.cells #[.slice A1 4 c1,.slice A2 4 c2,.slice A3 4 c3] 59)).alloc (.cells #[.slice none 0 0,.slice none 0 0,.slice none 0 0] 59));have hb0:Below w.heap.size w W0:=hW0▸bA (bA (bR w));have h4:W0.heap[b4]?=some (.cells #[.slice A1 4 c1,.slice A2 4 c2,.slice A3 4 c3] 59):=by rw[hW0,hb4];exact blk_below (bA (bR _)) hbx
 have h8:W0.heap[b8]?=some (.cells #[.slice none 0 0,.slice none 0 0,.slice none 0 0] 59):=by have:=heap_alloc_new (w.alloc (.cells #[.slice A1 4 c1,.slice A2 4 c2,.slice A3 4 c3] 59)) (.cells #[.slice none 0 0,.slice none 0 0,.slice none 0 0] 59);rw[World.size_alloc] at this;rw[hW0,hb8,hb4];exact this
 have h8b:decide (8<=(n4:Int))=false:=by simp;omega
 have HB0:=Jh hb0;have H4:=Jh h4;have H8:=Jh h8;have HL8:=Jh (show w.heap.size<=b8 by omega);obtain⟨ba,off,u,hA2,hu,hcell⟩:=(hr2.below hb0).rd.at1 hh;rw[he4] at hu;injection hu with hu
 subst hu;subst hA2;have HR2:=Jh hr2;have HE4:=Jh he4;have hhas:=there82_any (.slice A1 4 c1) (.slice (some ⟨ba,off,none⟩) 4 c2) (.slice A3 4 c3) M ht a W0 (HM.o.sees (Below.sees hb0));have htt:((decide (0<=(ht:Int))&&decide ((ht:Int)<4))&&(decide (0<=(a:Int))&&decide ((a:Int)<4)))=true:=by simp;omega
 rw[htt] at hhas;have HH:=Jh hhas;have HOf:=Jh (fun wx hx=>own83_any (.slice A1 4 c1) (.slice (some ⟨ba,off,none⟩) 4 c2) (.slice A3 4 c3) M wx hx);have HNn:=Jh hn;have hi4:(ht:Int)<4:=by omega
 clear hm hl hr1 hr2 hr3 hp hpk he4 hr4 hn4 hbx hb0 h4 h8 hcell hhas htt hn;obtain⟨r0,r1,r2,_⟩:=cells3 H4.o;go_enter Tryz.func52,Tryz.ntmps52;go_wp2_with fail;rw[<-hb4,<-hb8,<-hW0];clear hb4 hb8 hW0;refine HH.o.mono ?_;rintro e w1 ⟨rfl,hb1⟩;have HB1:=Jh (bT HB0.o hb1);clear r0 r1 r2;obtain⟨r0,r1,r2,_⟩:=cells3 (blk_below hb1 H4.o);have H41:=Jh (blk_below hb1 H4.o);have H81:=Jh (blk_below hb1 H8.o)
 clear hb1;obtain⟨ba',off',u,hA2,hu,hcell⟩:=(HR2.o.below HB1.o).rd.at1 hh;rw[HE4.o] at hu;injection hu with hu
 subst hu;injection hA2 with hA2
 injection hA2 with e1 e2 _
 subst e1;subst e2;go_wp2_with fail;refine(HOf.o _ (HM.o.sees (Below.sees HB1.o))).mono ?_;rintro e w2 ⟨⟨x1,x2,x3,pv,rfl,hown⟩,hb2⟩;obtain⟨Y1,y1,hY1,_⟩:=hown.ws;obtain⟨Y2,y2,hY2,_⟩:=hown.ps;obtain⟨Y3,y3,hY3,_⟩:=hown.rs;subst hY1;subst hY2;subst hY3;obtain⟨bo,hbo⟩:=exE (w2.heap.size);obtain⟨W3,hW3⟩:=exE (w2.alloc (.cells #[.slice Y1 4 y1,.slice Y2 4 y2,.slice Y3 4 y3] 59))
 have k3:Below w2.heap.size w2 W3:=hW3▸bA (bR w2);have HBo:=Jh (show W3.heap[bo]?=some (.cells #[.slice Y1 4 y1,.slice Y2 4 y2,.slice Y3 4 y3] 59) by rw[hW3,hbo];exact heap_alloc_new w2 _);have H83:=Jh (blk_below k3 (blk_below hb2 H81.o));have HB3:=Jh (bT (bT HB1.o hb2) k3);have hown3:=hown.tk (Tk.below k3);clear r0 r1 r2 hcell hown hb2 k3 HH HOf H4 H8 H41 H81;go_upto_region 7 with fail
 rw[<-hW3,<-hbo];clear hW3 hbo;obtain⟨AP,cP,eP,_,how⟩:=hown3.ps;injection eP with eP1 _ eP3
 subst eP1;subst eP3;obtain⟨gP,cur,eg,hgBP,hcg,hcs,hct,_⟩:=own_open how (by omega);subst eg;obtain⟨B,hBd⟩:=exE (w1.heap.size);rw[<-hBd] at hown3 hgBP;have HBB:=Jh (show w.heap.size<=B from hBd▸HB1.o.size);have HgP:=Jh (show B<gP from hgBP);obtain⟨v9,hv9,A9,c9,rfl,hc9,_⟩:=hown3.en ht p HPk.o;rw[<-HN4.o] at hv9;have HV9:=Jh hv9
 have HCur:=Jh (show cur.toList.take 4=pv/\4<=cur.size from⟨by simpa using hct,by omega⟩);have HC9:=Jh (show cur[ht]?=some (.slice A9 n4 c9) by have:=hv9;rw[<-HCur.o.1,List.getElem?_take,if_pos hh] at this;simpa using this);have HOK:=Jh hown3.ok
 have hS0:=Jh (show Below w.heap.size w W3.drew/\W3.drew.heap[bo]?=some (.cells #[.slice Y1 4 y1,.slice (some ⟨gP,0,none⟩) 4 y2,.slice Y3 4 y3] 59)/\W3.drew.heap[b8]?=some (.cells #[.slice none 0 0,.slice none 0 0,.slice none 0 0] 59)/\(false=false->OwnMem B W3.drew (.slice Y1 4 y1) (.slice (some ⟨gP,0,none⟩) 4 y2) (.slice Y3 4 y3) pv M)/\(false=false->W3.drew.heap[gP]?=some (.cells cur 87)) from
  ⟨bD HB3.o,HBo.o,H83.o,fun _=>hown3.tk ⟨Nat.le_refl _,fun _ _ _ _ _ h=>h⟩,fun _=>hcg⟩)
 clear hgBP how hcg hcs hct hBd hv9 hown3 HR2 HR4 HE4 HM HB0 HB1 HB3 HBo H83
 have hq:∀(k9:Nat),k9≠13->k9≠15->∀(l:Nat->Bool) (wx:World),(Below w.heap.size w wx/\wx.heap[bo]?=some (.cells #[.slice Y1 4 y1,.slice (some ⟨gP,0,none⟩) 4 y2,.slice Y3 4 y3] 59)/\wx.heap[b8]?=some (.cells #[.slice none 0 0,.slice none 0 0,.slice none 0 0] 59)/\(l 13=false->OwnMem B wx (.slice Y1 4 y1) (.slice (some ⟨gP,0,none⟩) 4 y2) (.slice Y3 4 y3) pv M)/\(l 15=false->wx.heap[gP]?=some (.cells cur 87)))->(Below w.heap.size w wx/\wx.heap[bo]?=some (.cells #[.slice Y1 4 y1,.slice (some ⟨gP,0,none⟩) 4 y2,.slice Y3 4 y3] 59)/\wx.heap[b8]?=some (.cells #[.slice none 0 0,.slice none 0 0,.slice none 0 0] 59)/\((decide (13=k9)||l 13)=false->OwnMem B wx (.slice Y1 4 y1) (.slice (some ⟨gP,0,none⟩) 4 y2) (.slice Y3 4 y3) pv M)/\((decide (15=k9)||l 15)=false->wx.heap[gP]?=some (.cells cur 87))):=fun k9 h1 h2 l wx h=>⟨h.1,h.2.1,h.2.2.1,fun hl=>h.2.2.2.1 (by simpa[Ne.symm h1] using hl),fun hl=>h.2.2.2.2 (by simpa[Ne.symm h2] using hl)⟩
 have rr:∀{T:List TypeId} (wx:World),Tk T wx wx:=fun wx=>Tk.refl _ wx;have rb:∀{T:List TypeId} {w1 w2:World},Below w1.heap.size w1 w2->Tk T w1 w2:=fun h=>Tk.below h;have nt13:∀{i:Nat} (e:TypeId),i≠13->e≠87->e∉(if i=13 then[128] else if i=15 then[87] else[]:List TypeId):=fun e h1 h2=>by
  rw[if_neg h1];split
  ·simpa using h2
  simp
 refine wp_region_det (by kernel_rfl) (fun f=>(⟨#[Value.agg #[Value.slice A1 4 c1,Value.slice (some ⟨ba,off,none⟩) 4 c2,Value.slice A3 4 c3],.int .i64 (ht:Int),.int .i64 (a:Int),.int .i64 n,Value.pointer (some ⟨b4,0,none⟩),undef,undef,undef,Value.pointer (some ⟨b8,0,none⟩),.int .i64 0,Value.bool true,Value.pointer (some ⟨bo,0,none⟩),Value.agg #[Value.slice A1 4 c1,Value.slice (some ⟨ba,off,none⟩) 4 c2,Value.slice A3 4 c3],.int .i64 (ht:Int),.int .i64 (a:Int),Value.bool true,Value.bool true,Value.bool false,undef,Value.pointer (some ⟨b4,1,none⟩),Value.slice (some ⟨ba,off,none⟩) 4 c2,.int .i64 (ht:Int),Value.pointer (some ⟨ba,off+ht,none⟩),Value.slice A4 n4 c4,.int .i64 (n4:Int),Value.bool false,undef,Value.agg #[Value.slice A1 4 c1,Value.slice (some ⟨ba,off,none⟩) 4 c2,Value.slice A3 4 c3],Value.agg #[Value.slice Y1 4 y1,Value.slice (some ⟨gP,0,none⟩) 4 y2,Value.slice Y3 4 y3],f 0,f 1,f 2,f 3,f 4,f 5,f 6,f 7,f 8,f 9,f 10,f 11,f 12,f 13,f 14,undef],[]⟩:Act)) (fun(iv:Nat) (lv:Nat->Bool) (fv:Nat->Value) (wx:World)=>match iv with|0=>fv 0=.pointer (some ⟨bo,1,none⟩)|1=>fv 1=.slice (some ⟨gP,0,none⟩) 4 y2|2=>fv 2=.int .i64 (ht:Int)|3=>fv 3=.pointer (some ⟨bo,1,none⟩)|4=>fv 4=.slice (some ⟨gP,0,none⟩) 4 y2|5=>fv 5=.int .i64 (ht:Int)|6=>fv 6=.pointer (some ⟨gP,ht,none⟩)|7=>fv 7=.slice A9 n4 c9|8=>fv 8=.int .i64 (a:Int)|9=>fv 9=.int .i64 n|10=>fv 10=.int .i64 n|11=>fv 11=.agg #[.int .i64 (a:Int),.int .i64 n]|12=>∃g,(fv 12)=.slice (some ⟨g,0,none⟩) 1 1/\((lv 13)=false->wx.heap[g]?=some (.cells #[.int .i64 (a:Int),.int .i64 n] 128))|13=>∃A c,(fv 13)=.slice A (n4+1) c/\n4+1<=c/\((lv 15)=false->StMid B wx (.slice Y1 4 y1) (.slice Y3 4 y3) pv M ht p (.slice A (n4+1) c) (n4+1) a n)|14=>fv 14=.pointer (some ⟨gP,ht,none⟩)|15=>IsMem wx (.slice Y1 4 y1) (.slice (some ⟨gP,0,none⟩) 4 y2) (.slice Y3 4 y3) (M.store ht a n)|_=>True) (fun lv wx=>Below w.heap.size w wx/\wx.heap[bo]?=some (.cells #[.slice Y1 4 y1,.slice (some ⟨gP,0,none⟩) 4 y2,.slice Y3 4 y3] 59)/\wx.heap[b8]?=some (.cells #[.slice none 0 0,.slice none 0 0,.slice none 0 0] 59)/\((lv 13)=false->OwnMem B wx (.slice Y1 4 y1) (.slice (some ⟨gP,0,none⟩) 4 y2) (.slice Y3 4 y3) pv M)/\((lv 15)=false->wx.heap[gP]?=some (.cells cur 87))) (fun i w1 w2=>Tk (if i=13 then[128] else if i=15 then[87] else[]) w1 w2) (by kernel_rfl) (fun k=>match k with|_=>undef) rfl ?keep hS0.o ?steps ?fin
 case keep=>
  intro iv j hij hd l f f' w1 w2 hf hR
  match j with
  |0|1|2|3|4|5|6|7|8|9|10|11|14=>exact fun h=>(hf _ (Ne.symm hij)).trans h
  |12=>
   intro h;have h:∃g,(f 12)=.slice (some ⟨g,0,none⟩) 1 1/\((l 13)=false->w1.heap[g]?=some (.cells #[.int .i64 (a:Int),.int .i64 n] 128)):=h;show∃g,(f' 12)=.slice (some ⟨g,0,none⟩) 1 1/\((decide (13=iv)||l 13)=false->w2.heap[g]?=some (.cells #[.int .i64 (a:Int),.int .i64 n] 128));rw[hf 12 (Ne.symm hij)];exact h.elim fun g h=>⟨g,h.1,fun hl=>by
   simp only[Bool.or_eq_false_iff,decide_eq_false_iff_not] at hl;exact hR.at_ (nt13 128 (fun e=>hl.1 e.symm) (by decide)) (h.2 hl.2)⟩
  |13=>
   intro h;have h:∃A c,(f 13)=.slice A (n4+1) c/\n4+1<=c/\((l 15)=false->StMid B w1 (.slice Y1 4 y1) (.slice Y3 4 y3) pv M ht p (.slice A (n4+1) c) (n4+1) a n):=h;show∃A c,(f' 13)=.slice A (n4+1) c/\n4+1<=c/\((decide (15=iv)||l 15)=false->StMid B w2 (.slice Y1 4 y1) (.slice Y3 4 y3) pv M ht p (.slice A (n4+1) c) (n4+1) a n);rw[hf 13 (Ne.symm hij)]
   exact h.elim fun A h=>h.elim fun c h=>⟨A,c,h.1,h.2.1,fun hl=>by
   simp only[Bool.or_eq_false_iff,decide_eq_false_iff_not] at hl;exact(h.2.2 hl.2).tk (hR.nil (fun e=>hij e) (fun e=>hl.1 e.symm))⟩
  |15=>intro h;have h:IsMem w1 (.slice Y1 4 y1) (.slice (some ⟨gP,0,none⟩) 4 y2) (.slice Y3 4 y3) (M.store ht a n):=h;show IsMem w2 (.slice Y1 4 y1) (.slice (some ⟨gP,0,none⟩) 4 y2) (.slice Y3 4 y3) (M.store ht a n);exact h.sees (Tk.sees (hR.nil (fun e=>hd (by subst e;exact of_decide_eq_true (by kernel_rfl))) hij))
  |_+16=>exact id
 case steps=>
  refine fun iv hiv=>stepsOf_at (k:=0) (n:=16) ?_ iv (Nat.zero_le _) (by rw[Nat.zero_add];exact hiv);refine sD 0 15 aT0 [] (fun f wq l hl hun hdn hS hd K' HK=>?_) ?_
  ·clear hd;go_simp;exact HK.o _ _ _ rfl rfl (hq 0 (by decide) (by decide) l _ hS) (rr _)
  refine sD 1 14 aT1 [0] (fun f wq l hl hun hdn hS hd K' HK=>?_) ?_
  ·obtain⟨e0,-⟩:=hd;have e0:f 0=_:=e0;obtain⟨r0,r1,r2,_⟩:=cells3 hS.2.1;simp only[e0];go_simp;exact HK.o _ _ _ (by simp only[e0];rfl) rfl (hq 1 (by decide) (by decide) l _ hS) (rr _)
  refine sD 2 13 aT2 [] (fun f wq l hl hun hdn hS hd K' HK=>?_) ?_
  ·clear hd;go_simp;exact HK.o _ _ _ rfl rfl (hq 2 (by decide) (by decide) l _ hS) (rr _)
  refine sD 3 12 aT3 [] (fun f wq l hl hun hdn hS hd K' HK=>?_) ?_
  ·clear hd;go_simp;exact HK.o _ _ _ rfl rfl (hq 3 (by decide) (by decide) l _ hS) (rr _)
  refine sD 4 11 aT4 [3] (fun f wq l hl hun hdn hS hd K' HK=>?_) ?_
  ·obtain⟨e3,-⟩:=hd;have e3:f 3=_:=e3;obtain⟨r0,r1,r2,_⟩:=cells3 hS.2.1;simp only[e3];go_simp;exact HK.o _ _ _ (by simp only[e3];rfl) rfl (hq 4 (by decide) (by decide) l _ hS) (rr _)
  refine sD 5 10 aT5 [] (fun f wq l hl hun hdn hS hd K' HK=>?_) ?_
  ·clear hd;go_simp;exact HK.o _ _ _ rfl rfl (hq 5 (by decide) (by decide) l _ hS) (rr _)
  refine sD 6 9 aT6 [4,5] (fun f wq l hl hun hdn hS hd K' HK=>?_) ?_
  ·obtain⟨e4,e5,-⟩:=hd;have e4:f 4=_:=e4;have e5:f 5=_:=e5;simp only[e4,e5];go_simp;exact HK.o _ _ _ (by simp only[e4,e5];rfl) rfl (hq 6 (by decide) (by decide) l _ hS) (rr _)
  refine sD 7 8 aT7 [6] (fun f wq l hl hun hdn hS hd K' HK=>?_) ?_
  ·obtain⟨e6,-⟩:=hd;have e6:f 6=_:=e6;have r9:=(cell_of_row wq gP ht _ _ _ (hS.2.2.2.2 (hun 15 (of_decide_eq_true (by kernel_rfl))))).trans HC9.o;simp only[e6];go_simp;exact HK.o _ _ _ (by simp only[e6];rfl) rfl (hq 7 (by decide) (by decide) l _ hS) (rr _)
  refine sD 8 7 aT8 [] (fun f wq l hl hun hdn hS hd K' HK=>?_) ?_
  ·clear hd;go_simp;exact HK.o _ _ _ rfl rfl (hq 8 (by decide) (by decide) l _ hS) (rr _)
  refine sD 9 6 aT9 [] (fun f wq l hl hun hdn hS hd K' HK=>?_) ?_
  ·clear hd;go_simp;exact HK.o _ _ _ rfl rfl (hq 9 (by decide) (by decide) l _ hS) (rr _)
  refine sD 10 5 aT10 [9] (fun f wq l hl hun hdn hS hd K' HK=>?_) ?_
  ·obtain⟨e9,-⟩:=hd;have e9:f 9=_:=e9;have HW:=Jh (wrap84_any n HNn.o wq);simp only[e9];go_simp;go_wp2_with (go_at_call 84;refine HW.o.mono ?_;rintro e wW ⟨rfl,rfl⟩);exact HK.o _ _ _ (by simp only[e9];rfl) rfl (hq 10 (by decide) (by decide) l _ hS) (rr _)
  refine sD 11 4 aT11 [8,10] (fun f wq l hl hun hdn hS hd K' HK=>?_) ?_
  ·obtain⟨e8,e10,-⟩:=hd;have e8:f 8=_:=e8;have e10:f 10=_:=e10;simp only[e8,e10];go_simp;exact HK.o _ _ _ (by simp only[e8,e10];rfl) rfl (hq 11 (by decide) (by decide) l _ hS) (rr _)
  refine sD 12 3 aT12 [11] (fun f wq l hl hun hdn hS hd K' HK=>?_) ?_
  ·obtain⟨e11,-⟩:=hd;have e11:f 11=_:=e11;simp only[e11];have HS:=Jh hS;clear hS;go_simp;have hS:=HS.o
   exact HK.o _ _ _ (by simp only[e11];rfl) ⟨_,rfl,fun _=>heap_alloc_new wq _⟩ ⟨bA hS.1,Tk.at_ (Tk.below (T:=[]) (bA (bR wq))) (by decide) hS.2.1,Tk.at_ (Tk.below (T:=[]) (bA (bR wq))) (by decide) hS.2.2.1,fun hl=>(hS.2.2.2.1 (by simpa using hl)).tk (Tk.below (T:=[]) (bA (bR wq))),fun hl=>Tk.at_ (Tk.below (T:=[]) (bA (bR wq))) (by decide) (hS.2.2.2.2 (by simpa using hl))⟩ (rb (bA (bR wq)))
  refine sD 13 2 aT13 [7,12] (fun f wq l hl hun hdn hS hd K' HK=>?_) ?_
  ·obtain⟨e7,e12,-⟩:=hd;have e7:f 7=_:=e7;have e12:∃g,(f 12)=.slice (some ⟨g,0,none⟩) 1 1/\((l 13)=false->wq.heap[g]?=some (.cells #[.int .i64 (a:Int),.int .i64 n] 128)):=e12;obtain⟨g,hv18,hg⟩:=e12;have hg:=hg hl;have hom:=hS.2.2.2.1 hl;obtain⟨v9,hv9,A9b,c9b,e9b,hc9b,how⟩:=hom.en ht p HPk.o;obtain⟨ea,ec⟩:=same_slice HV9.o hv9 (HN4.o▸e9b);rw[ea,ec,<-HN4.o] at how
   obtain⟨i0,hi0,hz0,hz1,hz2⟩:=info_parts ent_info;rw[if_pos (by rfl)]
   refine wp_append_rd _ _ _ 87 rfl (B+1) 128 i0 _ 2 16 Tryz.underlying87 hi0 hz0 hz1 hz2 rfl (by decide) (.slice A9 n4 c9) n4 (entCells p) (by simp only[e7];rfl) how (some ⟨g,0,none⟩) 1 1 [.int .i64 (a:Int),.int .i64 n] (by simp only[hv18];rfl) ⟨rfl,fun _=>⟨g,0,rfl,blk_lt hg,fun j u hu=>two_cell hg hu⟩⟩ (by simp[Value.oneCell']) (by unfold maxLen;omega) (by omega) (own_at_lt hom.ws (by decide)) ?_
   intro v10 w10 hown10 hg10;obtain⟨A10,c10,rfl,hc10,_⟩:=own_slice hown10;have htk:=tk_grown how hg10
   exact HK.o.out _ _ _ rfl ⟨A10,c10,rfl,hc10,fun _=>hom.mid HV9.o hg10 htk ⟨A10,c10,rfl,hc10,hown10⟩⟩ ⟨hS.1.grown hg10 hS.1.size (fun j hj=>by have:=(how.lt j hj).1;have:=HBB.o;omega),Tk.at_ htk (by decide) hS.2.1,Tk.at_ htk (by decide) hS.2.2.1,fun hl=>absurd hl (by simp),fun hl=>Tk.at_ htk (by decide) (hS.2.2.2.2 (by simpa using hl))⟩ htk
  refine sD 14 1 aT14 [1,2,12,13] (fun f wq l hl hun hdn hS hd K' HK=>?_) ?_
  ·obtain⟨e1,e2,e12,e13,-⟩:=hd;have e1:f 1=_:=e1;have e2:f 2=_:=e2;have e12:∃g,(f 12)=.slice (some ⟨g,0,none⟩) 1 1/\((l 13)=false->wq.heap[g]?=some (.cells #[.int .i64 (a:Int),.int .i64 n] 128)):=e12;have e13:∃A c,(f 13)=.slice A (n4+1) c/\n4+1<=c/\((l 15)=false->StMid B wq (.slice Y1 4 y1) (.slice Y3 4 y3) pv M ht p (.slice A (n4+1) c) (n4+1) a n):=e13;clear e12 e13;simp only[e1,e2];go_simp
   exact HK.o _ _ _ (by simp only[e1,e2];rfl) rfl (hq 14 (by decide) (by decide) l _ hS) (rr _)
  refine sD 15 0 aT15 [13,14] (fun f wq l hl hun hdn hS hd K' HK=>?_) ?_
  ·obtain⟨e13,e14,-⟩:=hd;have e13:∃A c,(f 13)=.slice A (n4+1) c/\n4+1<=c/\((l 15)=false->StMid B wq (.slice Y1 4 y1) (.slice Y3 4 y3) pv M ht p (.slice A (n4+1) c) (n4+1) a n):=e13;have e14:f 14=_:=e14;obtain⟨A10,c10,hv19,hc10,hmid⟩:=e13;have hmid:=hmid hl;have hblk:=hS.2.2.2.2 hl;have r9:=(cell_of_row wq gP ht _ _ _ hblk).trans HC9.o;have r8:=not_frozen (i:=ht) hblk;have HG:=Jh hblk;have HS:=Jh hS
   have HMid:=Jh hmid;clear hS hblk hmid;simp only[e14,hv19];go_simp;have hS:=HS.o
   exact HK.o undef _ _ (by simp only[hv19,e14];rfl) (HMid.o.fin HOK.o hh ha HNn.o hp8 HPk.o HN4.o HCur.o HG.o) ⟨bS hS.1 (by have:=HgP.o;have:=HBB.o;show w.heap.size<=gP;omega),Tk.at_ (tk_set1 HG.o) (by decide) hS.2.1,Tk.at_ (tk_set1 HG.o) (by decide) hS.2.2.1,fun hl=>absurd ((show(decide (13=15)||l 13)=true by rw[hdn 13 (of_decide_eq_true (by kernel_rfl))];rfl).symm.trans hl) (by decide),fun hl=>absurd hl (by simp)⟩ (tk_set1 HG.o)
  exact trivial
 case fin=>
  intro f wz l hl hall hS;have a12:∃g,(f 12)=.slice (some ⟨g,0,none⟩) 1 1/\((l 13)=false->wz.heap[g]?=some (.cells #[.int .i64 (a:Int),.int .i64 n] 128)):=hall 12 (by decide);have a13:∃A c,(f 13)=.slice A (n4+1) c/\n4+1<=c/\((l 15)=false->StMid B wz (.slice Y1 4 y1) (.slice Y3 4 y3) pv M ht p (.slice A (n4+1) c) (n4+1) a n):=hall 13 (by decide)
  have a15:IsMem wz (.slice Y1 4 y1) (.slice (some ⟨gP,0,none⟩) 4 y2) (.slice Y3 4 y3) (M.store ht a n):=hall 15 (by decide);clear hall;obtain⟨g18,hv18,_⟩:=a12;obtain⟨A19,c19,hv19,_,_⟩:=a13;simp only[hv18,hv19];have HI:=Jh a15;have HS:=Jh hS;clear a15 hv18 hv19 hS hq rr rb nt13 hl;obtain⟨r0,r1,r2,r3,r4,r5⟩:=cells3 HS.o.2.1;obtain⟨s0,s1,s2,s3,s4,s5⟩:=cells3 HS.o.2.2.1;go_wp2_with fail
  exact bodyPost_ret (ret59 rfl rfl (set3 HS.o.2.2.1)) rfl ⟨⟨_,_,_,rfl,HI.o.tk (Tk.set3 HS.o.2.2.1) (by decide) (by decide) (by decide)⟩,bS (bS (bS HS.o.1 HL8.o) HL8.o) HL8.o⟩
end Go.Proofs.YtnigadeohmlpiaaGreatDoor
namespace Go.Proofs.YtnigadeohmlpiaaGreatDoor
open Go.RowKit
attribute [local go_sem] Oper.semAt_some
theorem cut_next{p:List (Int×Int)}{k j:Nat}{x:Int×Int}(hx:p[j]?=some x):(p.take (j+1)).eraseIdx k=if j=k then(p.take j).eraseIdx k else(p.take j).eraseIdx k++[x]:=by
 have hj:=(List.getElem?_eq_some_iff.1 hx).1;have h1:p.take (j+1)=p.take j++[x]:=by rw[List.take_add_one,hx];rfl
 have hl:(p.take j).length=j:=by rw[List.length_take];omega
 rw[h1];split
 ·rename_i h;subst h;rw[List.eraseIdx_append_of_length_le (by omega),hl,Nat.sub_self,List.eraseIdx_of_length_le (by omega:(p.take j).length<=j)];simp
 rename_i h;rcases Nat.lt_or_ge k j with h2|h2
 ·rw[List.eraseIdx_append_of_lt_length (by omega)]
 rw[List.eraseIdx_of_length_le (by rw[List.length_append,hl];simp;omega),List.eraseIdx_of_length_le (by omega)]
theorem anyAt_snoc{p:List (Int×Int)}{j:Nat}{x:Int×Int}{a:Int}(hx:p[j]?=some x):anyAt (p.take (j+1)) a=(anyAt (p.take j) a||x.1==a):=by unfold anyAt;rw[List.take_add_one,hx,List.any_append];simp
theorem anyAt_more{p:List (Int×Int)}{j k:Nat}{x:Int×Int}{a:Int}(hx:p[j]?=some x)(hjk:j<k)(h:x.1=a):anyAt (p.take k) a=true:=by unfold anyAt;rw[List.any_eq_true];exact⟨x,List.mem_of_getElem? (i:=j) (by rw[List.getElem?_take,if_pos hjk];exact hx),by simpa using h⟩
theorem drain50_any(v1 v2 v3:Value)(M:Mm)(h k:Int)(w:World)(hm:IsMem w v1 v2 v3 M):
  Calls Tryz.prog 50 #[.agg #[v1,v2,v3],.int .i64 h,.int .i64 k] w fun e w'=>DrainIs (M.drainZ h k) e w'/\Below w.heap.size w w':=by
 obtain⟨A1,c1,rfl,hr1⟩:=hm.ws;obtain⟨A2,c2,p0,rfl,hr2,hp⟩:=hm.ps;obtain⟨A3,c3,rfl,hr3⟩:=hm.rs;obtain⟨i0,hi0,hz0,hz1,hz2⟩:=info_parts ent_info;have HM:=Jh hm;have HR2:=Jh hr2;have HPP:=Jh hp;have hbx:=heap_alloc_new w (.cells #[.slice A1 4 c1,.slice A2 4 c2,.slice A3 4 c3] 59);obtain⟨b3,hb3⟩:=exE (w.heap.size);obtain⟨b6,hb6⟩:=exE (b3+1)
 obtain⟨W0,hW0⟩:=exE ((w.alloc (.cells #[.slice A1 4 c1,.slice A2 4 c2,.slice A3 4 c3] 59)).alloc (.cells #[.slice none 0 0,.slice none 0 0,.slice none 0 0] 59));have hb0:Below w.heap.size w W0:=hW0▸bA (bA (bR w));have h3:W0.heap[b3]?=some (.cells #[.slice A1 4 c1,.slice A2 4 c2,.slice A3 4 c3] 59):=by rw[hW0,hb3];exact blk_below (bA (bR _)) hbx
 have h6:W0.heap[b6]?=some (.cells #[.slice none 0 0,.slice none 0 0,.slice none 0 0] 59):=by have:=heap_alloc_new (w.alloc (.cells #[.slice A1 4 c1,.slice A2 4 c2,.slice A3 4 c3] 59)) (.cells #[.slice none 0 0,.slice none 0 0,.slice none 0 0] 59);rw[World.size_alloc] at this;rw[hW0,hb6,hb3];exact this
 have HB0:=Jh hb0;have H3:=Jh h3;have H6:=Jh h6;have HL6:=Jh (show w.heap.size<=b6 by omega);have hhas:=hart80_any _ _ _ M h W0 (hm.sees (Below.sees hb0));obtain⟨q,hq⟩:=exE ((decide (0<=h)&&decide (h<4)));rw[<-hq] at hhas;have HH:=Jh hhas;have HQ:=Jh hq;clear hm hr1 hr2 hr3 hp hbx hb0 h3 h6 hhas hq;obtain⟨r0,r1,r2,_⟩:=cells3 H3.o;go_enter Tryz.func50,Tryz.ntmps50;go_wp2_with fail
 rw[<-hb3,<-hb6,<-hW0];clear hb3 hb6 hW0;refine HH.o.mono ?_;rintro e w1 ⟨rfl,hb1⟩;have HB1:=Jh (bT HB0.o hb1);have H31:=Jh (blk_below hb1 H3.o);have H61:=Jh (blk_below hb1 H6.o);clear hb1 r0 r1 r2;obtain⟨r0,r1,r2,_⟩:=cells3 H31.o;obtain⟨s0,s1,s2,s3,s4,s5⟩:=cells3 H61.o;cases q
 ·have HN:=Jh (show M.drainZ h k=none from if_neg (fun hc=>by have:=HQ.o;simp[hc.1,hc.2.1] at this));go_wp2_with fail;exact bodyPost_ret (ret59 rfl rfl (set3 H61.o)) rfl ⟨by rw[HN.o];exact⟨1,by decide,rfl⟩,bS (bS (bS HB1.o HL6.o) HL6.o) HL6.o⟩
 have hh:0<=h/\h<4:=by have:=HQ.o;simpa using this.symm
 by_cases hk0:k<0
 ·have HN:=Jh (show M.drainZ h k=none from if_neg (fun hc=>by omega));have hkb:decide (k<0)=true:=by simpa using hk0
  go_wp2_with fail;exact bodyPost_ret (ret59 rfl rfl (set3 H61.o)) rfl ⟨by rw[HN.o];exact⟨1,by decide,rfl⟩,bS (bS (bS HB1.o HL6.o) HL6.o) HL6.o⟩
 have hkb:decide (k<0)=false:=by simpa using hk0
 obtain⟨ht,rfl⟩:∃ht:Nat,h=(ht:Int):=⟨h.toNat,by omega⟩;obtain⟨kn,rfl⟩:∃kn:Nat,k=(kn:Int):=⟨k.toNat,by omega⟩;have hht:ht<4:=by omega
 obtain⟨p,hpk⟩:∃p,M.pend[ht]?=some p:=⟨_,List.getElem?_eq_getElem (by rw[HM.o.ok.lp];exact hht)⟩;obtain⟨A4,c4,he4,hc4,hr4⟩:=HPP.o ht p hpk;obtain⟨n4,hn4⟩:=exE (p.length);have hn8:n4<=8:=hn4▸HM.o.ok.few p (List.mem_of_getElem? hpk);rw[<-hn4] at he4 hc4 hr4;obtain⟨ba,off,u,hA2,hu,hcell⟩:=(HR2.o.below HB1.o).rd.at1 hht;rw[he4] at hu;injection hu with hu
 subst hu;subst hA2;have hd:M.drainZ ht kn=M.drain ht kn:=by unfold Mm.drainZ;rw[if_pos ⟨by omega,by omega,by omega⟩];simp
 have hgd:M.pend.getD ht []=p:=by rw[List.getD_eq_getElem?_getD,hpk];rfl
 have HD:=Jh hd;have HGD:=Jh hgd;have HN4:=Jh hn4;have HR4:=Jh hr4;have HPk:=Jh hpk;have HCp:=Jh (fun(wx:World) (hb:Below w1.heap.size w1 wx)=>(hb.cell (cell_lt hcell)).trans hcell);clear hd hgd hn4 hr4 hpk he4 hk0 hh;have hi4:(ht:Int)<4:=by omega
 by_cases hlt:kn<n4
 ·have hlb:decide ((n4:Int)<=(kn:Int))=false:=by simp;omega
  have hkn4:(kn:Int)<(n4:Int):=by omega
  have HRE:=Jh (HR4.o.below HB1.o);obtain⟨g,offe,x,hA4,hx,hc0,hc1⟩:=HRE.o.rd.ent HN4.o hlt;subst hA4;obtain⟨hx0,hx4,hxn⟩:=HM.o.ok.ent p (List.mem_of_getElem? HPk.o) x (List.mem_of_getElem? hx);obtain⟨a,haz⟩:∃a:Nat,x.1=(a:Int):=⟨x.1.toNat,by omega⟩;obtain⟨z,hzz⟩:=exE (x.2);have ha4:a<4:=by omega
  rw[haz] at hc0;rw[<-hzz] at hc1;have ha0:decide ((a:Int)<0)=false:=by simp
  have ha4b:decide (4<=(a:Int))=false:=by simp;omega
  have HX:=Jh hx;have HA:=Jh haz;have HZ:=Jh hzz;have HXN:=Jh (show I32 z from hzz▸hxn);clear hx haz hx0 hx4 hxn hzz;obtain⟨b9,hb9⟩:=exE (w1.heap.size);obtain⟨W2,hW2⟩:=exE (w1.alloc (.cells #[.int .i64 (a:Int),.int .i64 z] 128));have hw2:Below w1.heap.size w1 W2:=hW2▸bA (bR w1);have HB2:=Jh (bT HB1.o hw2);have H32:=Jh (blk_below hw2 H31.o);have H62:=Jh (blk_below hw2 H61.o)
  have H92:=Jh (show W2.heap[b9]?=some (.cells #[.int .i64 (a:Int),.int .i64 z] 128) by rw[hW2,hb9];exact heap_alloc_new w1 _);have HC2:=Jh (HCp.o W2 hw2);have HE2:=Jh (HRE.o.below hw2);have hk0:decide ((kn:Int)<0)=false:=by simp
  clear hw2;go_upto_region 5 with fail
  rw[<-hW2,<-hb9];clear hW2 hb9 r0 r1 r2 s0 s1 s2 s3 s4 s5 hc0 hc1 hcell;obtain⟨r0,r1,r2,_⟩:=cells3 H32.o;obtain⟨s0,s1,s2,s3,s4,s5⟩:=cells3 H62.o;obtain⟨t0,t1,_⟩:=cells2 H92.o;go_upto_region 8 with fail
  clear r0 r1 r2 s0 s1 s2 s3 s4 s5 t0 t1;have HDR:=Jh (show M.drainZ ht kn=if anyAt (p.take kn) a=true then none else some ⟨M.words.set a z,M.pend.set ht (p.eraseIdx kn)⟩ from by rw[HD.o];unfold Mm.drain;rw[HGD.o,HX.o];dsimp only;rw[HA.o,<-HZ.o];rfl)
  go_loopw [10] (fun v wr=>∃i:Nat,i<=kn/\v=.int .i64 i/\Below W2.heap.size W2 wr/\anyAt (p.take i) a=false) (fun v _=>kn-(intOf v).toNat);case atStart=>exact⟨0,by omega,rfl,bR W2,rfl⟩
  case round=>
   obtain⟨i,hi,rfl,hbw,hany⟩:=hrel;obtain⟨wo,rfl⟩:=exE wr;have HBW:=Jh hbw;have HAny:=Jh hany;clear hbw hany;by_cases hli:i<kn
   ·have hlib:decide ((i:Int)<(kn:Int))=true:=by simp;omega
    have hlib2:decide (i<kn)=true:=by simpa using hli
    obtain⟨g',o',y,hA',hy,hc0,hc1⟩:=(HE2.o.below HBW.o).rd.ent HN4.o (show i<n4 by omega);injection hA' with hA'
    injection hA' with e1 e2 _
    subst e1;subst e2;obtain⟨ya,hya⟩:=exE (y.1);obtain⟨yn,hyn⟩:=exE (y.2);rw[<-hya] at hc0;rw[<-hyn] at hc1;have HY:=Jh hy;have HYA:=Jh hya;have hi0:decide ((i:Int)<0)=false:=by simp
    have hin4:(i:Int)<(n4:Int):=by omega
    have hcp:=(HBW.o.cell (cell_lt HC2.o)).trans HC2.o;have hh0:decide ((ht:Int)<0)=false:=by simp
    obtain⟨r0,r1,r2,_⟩:=cells3 (blk_below HBW.o H32.o);obtain⟨t0,t1,_⟩:=cells2 (blk_below HBW.o H92.o);clear hy hya hyn;go_upto_region 10 with fail
    by_cases hyy:ya=a
    ·have hyb:(ya==(a:Int))=true:=by simpa using hyy
     have HN:=Jh (show M.drainZ ht kn=none from by rw[HDR.o,if_pos (anyAt_more HY.o hli (HYA.o▸hyy))]);clear hyy;go_quiet (fail)
     obtain⟨W6,hW6⟩:=exE (wo.drewN nq);rw[<-hW6];have HB6:=Jh (show Below wo.heap.size wo W6 from hW6▸bN (bR wo));clear hW6 r0 r1 r2 t0 t1 hc0 hc1 hcp;have H66:=Jh (blk_below HB6.o (blk_below HBW.o H62.o));obtain⟨s0,s1,s2,s3,s4,s5⟩:=cells3 H66.o;go_wp2_with fail
     exact bodyPost_ret (ret59 rfl rfl (set3 H66.o)) rfl ⟨by rw[HN.o];exact⟨91,by decide,rfl⟩,bS (bS (bS (bT HB2.o (bT HBW.o HB6.o)) HL6.o) HL6.o) HL6.o⟩
    have hyb:(ya==(a:Int))=false:=by simpa using hyy
    have HA1:=Jh (show anyAt (p.take (i+1)) a=false from by rw[anyAt_snoc HY.o,HAny.o,<-HYA.o,hyb];rfl);clear hyy;go_quiet (fail)
    obtain⟨W6,hW6⟩:=exE (wo.drewN nq);rw[<-hW6];have HB6:=Jh (show Below wo.heap.size wo W6 from hW6▸bN (bR wo));clear hW6 r0 r1 r2 t0 t1 hc0 hc1 hcp;go_wp2_with fail;go_roundw;case rel=>exact⟨i+1,by omega,by go_num,bT HBW.o HB6.o,HA1.o⟩
    case measure=>simp[intOf];omega
   have hlib:decide ((i:Int)<(kn:Int))=false:=by simp;omega
   have hlib2:decide (i<kn)=false:=by simpa using hli
   have HDY:=Jh (show M.drainZ ht kn=some ⟨M.words.set a z,M.pend.set ht (p.eraseIdx kn)⟩ from by
    have hik:i=kn:=by omega
    rw[HDR.o,<-hik,HAny.o,if_neg (by simp)])
   have HBo:=Jh (bT HB2.o HBW.o);have HMo:=Jh (HM.o.sees (Below.sees HBo.o));have H3o:=Jh (blk_below HBW.o H32.o);have H6o:=Jh (blk_below HBW.o H62.o);have HG:=Jh (goes81_any _ _ _ M ht a z wo HMo.o ha4 HXN.o);obtain⟨r0,r1,r2,_⟩:=cells3 H3o.o;obtain⟨t0,t1,_⟩:=cells2 (blk_below HBW.o H92.o);clear hli;go_wp2_with fail;refine HG.o.mono ?_;rintro e w3 ⟨⟨x1,x2,x3,pv,rfl,hown⟩,hb3⟩
   obtain⟨Y1,e1,hY1,_⟩:=hown.ws;obtain⟨Y2,e2,hY2,_,oP⟩:=hown.ps;obtain⟨Y3,e3,hY3,_⟩:=hown.rs;subst hY1;subst hY2;subst hY3;obtain⟨gP,cur,eg,hgB,hgP,hcs,hct,_⟩:=own_open oP (by omega);subst eg;obtain⟨bo,hbo⟩:=exE (w3.heap.size);obtain⟨W5,hW5⟩:=exE (w3.alloc (.cells #[.slice Y1 4 e1,.slice (some ⟨gP,0,none⟩) 4 e2,.slice Y3 4 e3] 59));have k5:Below w3.heap.size w3 W5:=hW5▸bA (bR w3)
   have HBo5:=Jh (show W5.heap[bo]?=some (.cells #[.slice Y1 4 e1,.slice (some ⟨gP,0,none⟩) 4 e2,.slice Y3 4 e3] 59) by rw[hW5,hbo];exact heap_alloc_new w3 _);have HB35:=Jh (bT hb3 k5);have HOwn:=Jh (hown.tk (Tk.below k5));have HGP:=Jh (blk_below k5 hgP);have HCUR:=Jh (show cur.toList.take 4=pv/\4<=cur.size from⟨by simpa using hct,by omega⟩)
   have HGB:=Jh (show w.heap.size<=gP from by have:=HBo.o.size;omega);have HWB:=Jh (show wo.heap.size+1<=W5.heap.size from own_at_lt HOwn.o.ws (by decide));clear r0 r1 r2 t0 t1 hown oP hgB hgP hcs hct k5 hb3;go_upto_region 13 with fail
   rw[<-hW5,<-hbo];clear hW5 hbo;go_upto_region 15 with fail
   go_loopw [12,13] (fun vl vi wr=>∃(j m:Nat) (q:List (Int×Int)),j<=n4/\vi=.int .i64 j/\q=(p.take j).eraseIdx kn/\m=q.length/\Below W5.heap.size W5 wr/\wr.ownsRow W5.heap.size 128 2 vl m (entCells q)) (fun _ vi _=>n4-(intOf vi).toNat);case atStart=>exact⟨0,0,[],by omega,rfl,by simp,rfl,bR W5,World.ownsRow_nil _ _ _ _⟩
   case round=>
    obtain⟨j,m,q,hj,rfl,hq,hm,hbj,hoj⟩:=hrel;obtain⟨wn,rfl⟩:=exE wr;have HQ:=Jh hq;have HMq:=Jh hm;have HBJ:=Jh hbj;have HOJ:=Jh hoj;have hm8:m<=8:=by rw[hm,hq];exact Nat.le_trans (List.length_eraseIdx_le _ _) (Nat.le_trans (List.length_take_le _ _) (by omega))
    obtain⟨AL,cL,rfl,hmc,_⟩:=own_slice hoj;have HBw:=Jh (bT HB35.o hbj);obtain⟨r0,r1,r2,_⟩:=cells3 (blk_below HBw.o H3o.o);have hcp:=((bT HBW.o HBw.o).cell (cell_lt HC2.o)).trans HC2.o;have hh0:decide ((ht:Int)<0)=false:=by simp
    clear hq hm hbj hoj;by_cases hlj:j<n4
    ·have hljb:decide ((j:Int)<(n4:Int))=true:=by simp;omega
     have hljb2:decide (j<n4)=true:=by simpa using hlj
     obtain⟨g',o',y,hA',hy,hc0,hc1⟩:=(HE2.o.below (bT HBW.o HBw.o)).rd.ent HN4.o hlj;injection hA' with hA'
     injection hA' with e1' e2' _
     subst e1';subst e2';have HNX:=Jh (show(p.take (j+1)).eraseIdx kn=if j=kn then q else q++[y] from by rw[cut_next hy,HQ.o])
     obtain⟨ya,hya⟩:=exE (y.1);obtain⟨yn,hyn⟩:=exE (y.2);rw[<-hya] at hc0;rw[<-hyn] at hc1;have HYE:=Jh (show entCells (q++[y])=entCells q++[.int .i64 ya,.int .i64 yn] from by rw[entCells_append,hya,hyn];rfl);have hj0:decide ((j:Int)<0)=false:=by simp
     have hjn4:(j:Int)<(n4:Int):=by omega
     clear hy hya hyn;by_cases hjk:j=kn
     ·have hjb:((j:Int)==(kn:Int))=true:=by simp;omega
      have hjb2:(j==kn)=true:=by simpa using hjk
      have HNY:=Jh (HNX.o.trans (if_pos hjk));clear hjk;go_wp2_with fail;go_roundw;case rel=>exact⟨j+1,m,q,by omega,by go_num,HNY.o.symm,HMq.o,HBJ.o,HOJ.o⟩
      case measure=>simp[intOf];omega
     have hjb:((j:Int)==(kn:Int))=false:=by simp;omega
     have hjb2:(j==kn)=false:=by simpa using hjk
     have HNY:=Jh (HNX.o.trans (if_neg hjk));have HNw:=Jh (heap_alloc_new wn (.cells #[.int .i64 ya,.int .i64 yn] 128));have kA:Below wn.heap.size wn (wn.alloc (.cells #[.int .i64 ya,.int .i64 yn] 128)):=bA (bR wn);have HOl:=Jh (own_tk (T:=[]) HOJ.o (Tk.below kA) (by decide));have HBl:=Jh (bT HBJ.o kA);have HSl:=Jh (Nat.le_trans HBJ.o.size kA.size);clear hjk kA;go_upto_region 18 with fail
     go_wp2_with (
      at_builtin
      refine wpList_append_rd _ rfl (.tmp 92) (.tmp 101) 87 rfl W5.heap.size 128 i0 _ 2 16 Tryz.underlying87 hi0 hz0 hz1 hz2 rfl (by decide) (.slice AL m cL) m (entCells q) rfl HOl.o (some ⟨wn.heap.size,0,none⟩) 1 1 [.int .i64 ya,.int .i64 yn] rfl ⟨rfl,fun _=>⟨wn.heap.size,0,rfl,blk_lt HNw.o,fun j u hu=>two_cell HNw.o hu⟩⟩ (by simp[Value.oneCell']) (by unfold maxLen;omega) (by omega) HSl.o ?_
      intro v5 w5 hown5 hg5;obtain⟨A5,c5,rfl,_,_⟩:=own_slice hown5;have HO5:=Jh (show w5.ownsRow W5.heap.size 128 2 (.slice A5 (m+1) c5) (m+1) (entCells (q++[y])) from by rw[HYE.o];exact hown5);have HB5:=Jh (HBl.o.grown hg5 HBl.o.size (fun r e=>(HOl.o.lt r e).1));clear hown5 hg5 r0 r1 r2 hc0 hc1 hcp)
     go_roundw;case rel=>exact⟨j+1,m+1,q++[y],by omega,by go_num,HNY.o.symm,by rw[List.length_append,<-HMq.o];rfl,HB5.o,HO5.o⟩
     case measure=>simp[intOf];omega
    have hljb:decide ((j:Int)<(n4:Int))=false:=by simp;omega
    have hljb2:decide (j<n4)=false:=by simpa using hlj
    have HQ2:=Jh (show q=p.eraseIdx kn from by rw[HQ.o,List.take_of_length_le (by have:=HN4.o;omega)]);have hgpn:=blk_below HBJ.o HGP.o;have HGN:=Jh hgpn;have hf3:=not_frozen (i:=ht) hgpn;have hc3:∃u,wn.cell? ⟨gP,ht,none⟩=some u:=by rw[cell_of_row wn gP ht _ _ _ hgpn];exact⟨_,Array.getElem?_eq_getElem (by have:=HCUR.o.2;omega)⟩
    obtain⟨u3,hc3⟩:=hc3;have HBn:=Jh (blk_below HBJ.o HBo5.o);obtain⟨t0,t1,t2,_⟩:=cells3 HBn.o;have HOn:=Jh (HOwn.o.tk (Tk.below HBJ.o));have HL:=Jh (show OwnAt wo.heap.size 128 2 (p.eraseIdx kn).length (entCells (p.eraseIdx kn)) (.slice AL m cL) wn from by rw[<-HQ2.o,<-HMq.o];exact⟨AL,cL,rfl,hmc,own_low' HOJ.o HWB.o⟩)
    have HFin:=Jh (DMid.fin (cP:=e2) (gP:=gP) (cur:=cur) ⟨HOn.o.ws,HOn.o.rs,fun k q hk hq=>HOn.o.en k q hq,HL.o⟩ (Mm.cut_ok HM.o.ok HPk.o HXN.o) HM.o.ok.lp hht HCUR.o hgpn);clear hlj hgpn;go_upto_region 20 with fail
    obtain⟨W7,hW7⟩:=exE (wn.setCell ⟨gP,ht,none⟩ (.slice AL m cL));rw[<-hW7];rw[<-hW7] at HFin;have HT7:=Jh (show Tk [87] wn W7 from hW7▸tk_set1 HGN.o);have HB7:=Jh (show Below w.heap.size w W7 from hW7▸bS (bT HBo.o HBw.o) HGB.o);have H67:=Jh (HT7.o.at_ (by decide) (blk_below HBw.o H6o.o));have HBo7:=Jh (HT7.o.at_ (by decide) HBn.o);clear hW7 r0 r1 r2 t0 t1 t2 hcp hc3 hf3
    obtain⟨t0,t1,t2,_⟩:=cells3 HBo7.o;obtain⟨s0,s1,s2,s3,s4,s5⟩:=cells3 H67.o;go_wp2_with fail;exact bodyPost_ret (ret59 rfl rfl (set3 H67.o)) rfl ⟨by rw[HDY.o];exact⟨_,_,_,rfl,HFin.o.tk (Tk.set3 H67.o) (by decide) (by decide) (by decide)⟩,bS (bS (bS HB7.o HL6.o) HL6.o) HL6.o⟩
 have hlb:decide ((n4:Int)<=(kn:Int))=true:=by simp;omega
 have HN:=Jh (show M.drainZ ht kn=none from by rw[HD.o];unfold Mm.drain;rw[HGD.o,List.getElem?_eq_none (by have:=HN4.o;omega)]);go_wp2_with fail;exact bodyPost_ret (ret59 rfl rfl (set3 H61.o)) rfl ⟨by rw[HN.o];exact⟨1,by decide,rfl⟩,bS (bS (bS HB1.o HL6.o) HL6.o) HL6.o⟩
end Go.Proofs.YtnigadeohmlpiaaGreatDoor
