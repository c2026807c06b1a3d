/- Contracts and words: all outcomes of scripts; a script for an outcome; chapter 13's example is as it is told. No condition of ours. -/
import Derived.Test.YtnigadeohmlpiaaGreatDoorC24
import Derived.Test.YtnigadeohmlpiaaGreatDoorC27
import Derived.Test.YtnigadeohmlpiaaGreatDoorC28
set_option maxHeartbeats 32000000
set_option maxRecDepth 100000
namespace Go.Proofs.YtnigadeohmlpiaaGreatDoor
open Go.RowKit
attribute [local go_sem] Oper.semAt_some
theorem own_up{w:World}{base base':Nat}{e:TypeId}{size n:Nat}{v:Value}{xs:List Value}(h:w.ownsRow base e size v n xs)(hb:∀g,v.ownBlock=some g->base'<=g):w.ownsRow base' e size v n xs:=by
 refine⟨h.1,?_⟩;rcases h.2 with h1|⟨g,cap,cur,h1,h2,h3⟩
 ·exact .inl h1
 exact .inr ⟨g,cap,cur,h1,hb g (by rw[h1];rfl),h3⟩
theorem Xp.low{px bm B:Nat}{w w':World}(h:Xp px bm w w')(hp:PxAt px w none none)(h1:B<=px)(h2:B<=bm)(hB:B<=w.heap.size):Below B w w':=by
 obtain⟨_,_,_,_,hk,_⟩:=h.kp none none hp;refine⟨h.os,h.tape,h.output,h.size,fun k hkB=>?_⟩;obtain⟨o,ho⟩:∃o,w.heap[k]?=some o:=⟨_,Array.getElem?_eq_getElem (by omega)⟩;rw[ho];cases o with
 |cells cur e fz=>exact hk k cur e fz ho (by omega) (by simp) (by simp)
 |_=>exact h.obj k _ ho rfl (by omega)
theorem run_rng{l:List Ev}(hl:Prog l):∀{xs:List Pk} {s s':St},s.Ok l.length->s.run l xs=some s'->∀x∈xs,I64ok x.h/\I64ok x.w
 |[],_,_,_,_,x,hx=>by cases hx
 |p::xs,s,s',hs,h,x,hx=>by
  obtain⟨s1,h1,h2⟩:=Option.bind_eq_some_iff.1 h;rcases List.mem_cons.1 hx with rfl|hx
  ·cases hd:x.d with
   |true=>
    obtain⟨hN,kN,e1,e2,h4,M',hdr,_⟩:=next_drain hd h1;obtain⟨y,hy,_⟩:=Mm.drain_parts hdr;have hk:=(List.getElem?_eq_some_iff.1 hy).1;have h8:(s.m.pend.getD hN []).length<=8:=by
     rcases getD_mem (L:=s.m.pend) (h:=hN) with h3|h3
     ·exact hs.m.few _ h3
     rw[h3];exact Nat.zero_le _
    rw[e1,e2];exact⟨⟨by omega,by omega⟩,⟨by omega,by omega⟩⟩
   |false=>obtain⟨i,e,_,he,hh,hw,_⟩:=next_event hd h1;have:=(hl.ok e (List.mem_of_getElem? he)).h;rw[hw,<-hh];exact⟨⟨by omega,by omega⟩,⟨by omega,by omega⟩⟩
  exact run_rng hl (St.next_ok hl hs h1) h2 x hx
def PlaysIs(l:List Ev)(base:Nat)(o:Ending)(w:World):Prop:=∃v R,o=.returned v/\SS w base v R/\Rising R/\∀z,z∈R↔∃xs,playP l xs=some z
theorem playP_len{l:List Ev}{xs:List Pk}{z:List Int}(h:playP l xs=some z):z.length<=l.length:=by obtain⟨s,_,h2⟩:=Option.bind_eq_some_iff.1 h;exact outcome_len h2
theorem plays_any(A:Option Addr)(n c:Nat)(l:List Ev)(w:World)(he:IsEvs w A n c l)(hl:Prog l)(hG:Glob w):
  Calls Tryz.prog 19 #[.slice A n c] w fun o w'=>PlaysIs l w.heap.size o w'/\Below w.heap.size w w':=by
 have hn6:n<=6:=he.len▸hl.few;have HR:=Jh (right_yes A n c l w he hl);have HE:=Jh he;have HPr:=Jh hl;have HG:=Jh hG;have HWn:=Jh (show∀W:World,Below w.heap.size w W->Row W 3 1 none 0 (ints []) from fun W _=>Row.nil_ W 3 1 none);have hmm:=@run_makeMap Tryz.prog;clear he hl hG;go_enter Tryz.func19,Tryz.ntmps19;go_wp2_with fail;refine HR.o.mono ?_;rintro o w1 ⟨rfl,hb1⟩
 obtain⟨bm,hbm⟩:=exE (w1.heap.size);obtain⟨px,hpx⟩:=exE (bm+1);obtain⟨W1,hW1⟩:=exE (w1.alloc (.map #[] 0));obtain⟨W,hW⟩:=exE (W1.alloc (.cells #[.slice A n c,.map (some bm),.slice none 0 0,.slice none 0 0,.bool false,.slice none 0 0] 82));have s1:W1.heap.size=bm+1:=by rw[hW1,World.size_alloc,hbm]
 have k1:Below W1.heap.size W1 W:=hW▸bA (bR W1);have kW:Below w1.heap.size w1 W:=bT (hW1▸bA (bR w1)) k1;have k0:Below w.heap.size w W:=bT hb1 kW;have hown:W1.ownsMap Tryz.prog 9 (plainElem Tryz.prog 3) bm 0 (.map []:DataW Unit):=by rw[hW1,hbm];exact World.ownsMap_made w1 _ _ _
 have HSn:=Jh (show IsSeen bm [] W from⟨.map [],hown.kept (grown_below k1 none) (by simp),fun k=>by simp[DataW.atKey]⟩);have HPx:=Jh (show W.heap[px]?=some (.cells #[.slice A n c,.map (some bm),.slice none 0 0,.slice none 0 0,.bool false,.slice none 0 0] 82) by rw[hW,hpx,<-s1];exact heap_alloc_new W1 _);have HB:=Jh k0;have HEW:=Jh (HE.o.sees (Below.sees k0));have HGW:=Jh (HG.o.below k0)
 have HNz:=Jh (show 0<px/\0<bm/\w.heap.size<=px/\w.heap.size<=bm from by have:=HG.o.lt;have:=hb1.size;omega);have hWW:W=(w1.alloc (.map #[] 0)).alloc (.cells #[.slice A n c,.map (some bm),.slice none 0 0,.slice none 0 0,.bool false,.slice none 0 0] 82):=by rw[hW,hW1]
 have HXW:=Jh (show IsX px bm A n c none 0 0 [] false ⟨[],[],[]⟩ W from⟨⟨_,_,HPx.o,⟨[],World.ownsRow_nil _ _ _ _,rfl,fun k z h=>by cases h⟩,World.ownsRow_nil _ _ _ _⟩,HSn.o,HWn.o W k0,Nat.zero_le _,HNz.o.1,HNz.o.2.1⟩);have HPxA:=Jh (show PxAt px W none none from⟨_,_,_,_,_,_,HPx.o,rfl,rfl,(fun g e=>by cases e),(fun g e=>by cases e)⟩);obtain⟨y0,y1,y2,y3,y4,y5⟩:=cells6 HPx.o
 have HFs:=Jh (first_any A n c W hn6);clear hown k1 kW k0 hW hW1 hb1;go_wp2_with fail;rw[<-hbm,<-hpx,<-hWW];clear hbm hpx hWW s1 hmm;refine HFs.o.mono ?_;rintro o w2 ⟨⟨v,rfl,hst⟩,hb2⟩;have HLn:=Jh HE.o.len;have HB2:=Jh hb2;have hst':IsSt w2 v n (St.first l.length):=HLn.o▸hst
 have HCl:=Jh (explore_any px bm n c A none 0 0 [] false l HPr.o HLn.o 12 (St.first l.length) v ⟨[],[],[]⟩ w2 (by rw[first_meas];have:=HPr.o.few;omega) (Nat.le_refl _) (HEW.o.sees (Below.sees hb2)) hst' (HXW.o.below hb2) (HGW.o.below hb2) (by have:=callsX_12;show 0+callsX 12<=_;omega) (by show 0+12<=1000;omega))
 obtain⟨r,hr⟩:=exE (dfs l (stopW false []) (12+1) (St.first l.length) ⟨[],[],[]⟩)
 rw[<-hr] at HCl;have HRr:=Jh hr;have HGr:=Jh (show GrowX (callsX 12) ⟨[],[],[]⟩ r from by rw[hr];exact dfs_grow HPr.o _ 12 _ _ (St.first_ok _) (by rw[first_meas];have:=HPr.o.few;omega));have HPx2:=Jh (HPxA.o.below hb2);clear hst hst' hb2 hr y0 y1 y2 y3 y4 y5;go_wp2_with fail;refine HCl.o.mono ?_;rintro o w3 ⟨rfl,hx3,hxp3⟩;have HX3:=Jh hx3
 have HB3:=Jh (show Below w.heap.size w w3 from(bT HB.o HB2.o).trans (hxp3.low HPx2.o HNz.o.2.2.1 HNz.o.2.2.2 (bT HB.o HB2.o).size));obtain⟨fb,pb,⟨x0,x1,vF',x3,x4,vP',k1,k2,k3,_⟩,_,_,kf,kp⟩:=hxp3.kp none none HPx2.o;obtain⟨vF,vP,hbox,hSS,hOP⟩:=hx3.box;rw[hbox] at k1;simp only[Option.some.injEq,Obj.cells.injEq,Array.mk.injEq,List.cons.injEq,and_true] at k1;obtain⟨-,-,e1,-,-,e2⟩:=k1
 have hwz:w.heap.size<=w2.heap.size:=(bT HB.o HB2.o).size;have HFb:=Jh (show∀g,vF.ownBlock=some g->w.heap.size<=g from fun g hg=>by
  rw[e1,k2] at hg;rcases kf with kf|⟨g',kf,hg'⟩
  ·rw[kf] at hg;cases hg
  rw[kf] at hg;injection hg with hg
  omega)
 have HPb:=Jh (show∀g,vP.ownBlock=some g->w.heap.size<=g from fun g hg=>by
  rw[e2,k3] at hg;rcases kp with kp|⟨g',kp,hg'⟩
  ·rw[kp] at hg;cases hg
  rw[kp] at hg;injection hg with hg
  omega)
 have HSS:=Jh hSS;have HOP:=Jh hOP;obtain⟨y0,y1,y2,y3,y4,y5⟩:=cells6 hbox;clear hx3 hxp3 k2 k3 kf kp hbox hSS hOP e1 e2 hwz x0 x1 x3 x4;have HFound:=Jh (plays_found HPr.o (stop:=stopW false []) (fun z=>rfl) (f:=12+1) (by have:=HPr.o.few;omega));rw[<-HRr.o] at HFound
 have HSo:=Jh (sorted_any w.heap.size vF r.2.F w3 (by have h1:=HX3.o.fs;have h2:=HGr.o.hi;have h3:=callsX_12;have h4:r.2.S.length<=0+callsX 12:=h2;omega)
  (by obtain⟨cs,h1,h2⟩:=HSS.o;exact⟨cs,own_up h1 HFb.o,h2⟩)
  (fun z hz=>by obtain⟨xs,hp⟩:=(HFound.o.2 z).1 hz;have h1:=playP_len hp;have h2:=HPr.o.few;omega) HB3.o.size)
 go_wp2_with fail;refine HSo.o.mono ?_;rintro o w4 ⟨⟨v4,R,rfl,hs4,hr4,hm4⟩,hb4⟩;have HS4:=Jh hs4;have HB4:=Jh hb4;have HM4:=Jh hm4;have HR4:=Jh hr4;clear hs4 hb4 hm4 hr4;go_wp2_with fail;go_ret;exact⟨⟨_,R,rfl,HS4.o,HR4.o,fun z=>(HM4.o z).trans (HFound.o.2 z)⟩,HB3.o.trans HB4.o⟩
theorem script_any(A:Option Addr)(n c:Nat)(l:List Ev)(B:Option Addr)(m d:Nat)(want:List Int)(w:World)(he:IsEvs w A n c l)(hl:Prog l)(hG:Glob w)(hwant:Row w 3 1 B m (ints want)):
  Calls Tryz.prog 23 #[.slice A n c,.slice B m d] w fun o w'=>((∃A' c' xs,o=.returned (.tuple #[.slice A' xs.length c',.bool true])/\IsPks w' A' xs.length c' xs/\playP l xs=some want)\/(o=.returned (.tuple #[.slice none 0 0,.bool false])/\∀xs,playP l xs≠some want))/\Below w.heap.size w w':=by
 have hn6:n<=6:=he.len▸hl.few;have HR:=Jh (right_yes A n c l w he hl);have HE:=Jh he;have HPr:=Jh hl;have HG:=Jh hG;have HWn:=Jh (show∀W:World,Below w.heap.size w W->Row W 3 1 B m (ints want) from fun W hb=>hwant.below hb);have hmm:=@run_makeMap Tryz.prog;clear he hl hG;go_enter Tryz.func23,Tryz.ntmps23;go_wp2_with fail;refine HR.o.mono ?_;rintro o w1 ⟨rfl,hb1⟩;obtain⟨bm,hbm⟩:=exE (w1.heap.size)
 obtain⟨px,hpx⟩:=exE (bm+1);obtain⟨W1,hW1⟩:=exE (w1.alloc (.map #[] 0));obtain⟨W,hW⟩:=exE (W1.alloc (.cells #[.slice A n c,.map (some bm),.slice none 0 0,.slice B m d,.bool true,.slice none 0 0] 82));have s1:W1.heap.size=bm+1:=by rw[hW1,World.size_alloc,hbm]
 have k1:Below W1.heap.size W1 W:=hW▸bA (bR W1);have kW:Below w1.heap.size w1 W:=bT (hW1▸bA (bR w1)) k1;have k0:Below w.heap.size w W:=bT hb1 kW;have hown:W1.ownsMap Tryz.prog 9 (plainElem Tryz.prog 3) bm 0 (.map []:DataW Unit):=by rw[hW1,hbm];exact World.ownsMap_made w1 _ _ _
 have HSn:=Jh (show IsSeen bm [] W from⟨.map [],hown.kept (grown_below k1 none) (by simp),fun k=>by simp[DataW.atKey]⟩);have HPx:=Jh (show W.heap[px]?=some (.cells #[.slice A n c,.map (some bm),.slice none 0 0,.slice B m d,.bool true,.slice none 0 0] 82) by rw[hW,hpx,<-s1];exact heap_alloc_new W1 _);have HB:=Jh k0;have HEW:=Jh (HE.o.sees (Below.sees k0));have HGW:=Jh (HG.o.below k0)
 have HNz:=Jh (show 0<px/\0<bm/\w.heap.size<=px/\w.heap.size<=bm from by have:=HG.o.lt;have:=hb1.size;omega);have hWW:W=(w1.alloc (.map #[] 0)).alloc (.cells #[.slice A n c,.map (some bm),.slice none 0 0,.slice B m d,.bool true,.slice none 0 0] 82):=by rw[hW,hW1]
 have HXW:=Jh (show IsX px bm A n c B m d want true ⟨[],[],[]⟩ W from⟨⟨_,_,HPx.o,⟨[],World.ownsRow_nil _ _ _ _,rfl,fun k z h=>by cases h⟩,World.ownsRow_nil _ _ _ _⟩,HSn.o,HWn.o W k0,Nat.zero_le _,HNz.o.1,HNz.o.2.1⟩);have HPxA:=Jh (show PxAt px W none none from⟨_,_,_,_,_,_,HPx.o,rfl,rfl,(fun g e=>by cases e),(fun g e=>by cases e)⟩);obtain⟨y0,y1,y2,y3,y4,y5⟩:=cells6 HPx.o
 have HFs:=Jh (first_any A n c W hn6);clear hown k1 kW k0 hW hW1 hb1;go_wp2_with fail;rw[<-hbm,<-hpx,<-hWW];clear hbm hpx hWW s1 hmm;refine HFs.o.mono ?_;rintro o w2 ⟨⟨v,rfl,hst⟩,hb2⟩;have HLn:=Jh HE.o.len;have HB2:=Jh hb2;have hst':IsSt w2 v n (St.first l.length):=HLn.o▸hst
 have HCl:=Jh (explore_any px bm n c A B m d want true l HPr.o HLn.o 12 (St.first l.length) v ⟨[],[],[]⟩ w2 (by rw[first_meas];have:=HPr.o.few;omega) (Nat.le_refl _) (HEW.o.sees (Below.sees hb2)) hst' (HXW.o.below hb2) (HGW.o.below hb2) (by have:=callsX_12;show 0+callsX 12<=_;omega) (by show 0+12<=1000;omega))
 obtain⟨r,hr⟩:=exE (dfs l (stopW true want) (12+1) (St.first l.length) ⟨[],[],[]⟩)
 rw[<-hr] at HCl;have HRr:=Jh hr;have HGr:=Jh (show GrowX (callsX 12) ⟨[],[],[]⟩ r from by rw[hr];exact dfs_grow HPr.o _ 12 _ _ (St.first_ok _) (by rw[first_meas];have:=HPr.o.few;omega));have HPx2:=Jh (HPxA.o.below hb2);clear hst hst' hb2 hr y0 y1 y2 y3 y4 y5;go_wp2_with fail;refine HCl.o.mono ?_;rintro o w3 ⟨rfl,hx3,hxp3⟩;have HX3:=Jh hx3
 have HB3:=Jh (show Below w.heap.size w w3 from(bT HB.o HB2.o).trans (hxp3.low HPx2.o HNz.o.2.2.1 HNz.o.2.2.2 (bT HB.o HB2.o).size));obtain⟨fb,pb,⟨x0,x1,vF',x3,x4,vP',k1,k2,k3,_⟩,_,_,kf,kp⟩:=hxp3.kp none none HPx2.o;obtain⟨vF,vP,hbox,hSS,hOP⟩:=hx3.box;rw[hbox] at k1;simp only[Option.some.injEq,Obj.cells.injEq,Array.mk.injEq,List.cons.injEq,and_true] at k1;obtain⟨-,-,e1,-,-,e2⟩:=k1
 have hwz:w.heap.size<=w2.heap.size:=(bT HB.o HB2.o).size;have HFb:=Jh (show∀g,vF.ownBlock=some g->w.heap.size<=g from fun g hg=>by
  rw[e1,k2] at hg;rcases kf with kf|⟨g',kf,hg'⟩
  ·rw[kf] at hg;cases hg
  rw[kf] at hg;injection hg with hg
  omega)
 have HPb:=Jh (show∀g,vP.ownBlock=some g->w.heap.size<=g from fun g hg=>by
  rw[e2,k3] at hg;rcases kp with kp|⟨g',kp,hg'⟩
  ·rw[kp] at hg;cases hg
  rw[kp] at hg;injection hg with hg
  omega)
 have HSS:=Jh hSS;have HOP:=Jh hOP;obtain⟨y0,y1,y2,y3,y4,y5⟩:=cells6 hbox;clear hx3 hxp3 k2 k3 kf kp hbox hSS hOP e1 e2 hwz x0 x1 x3 x4;have HFound:=Jh (script_found HPr.o (stop:=stopW true want) (want:=want) (fun z=>by simp[stopW]) (f:=12+1) (by have:=HPr.o.few;omega));rw[<-HRr.o] at HFound;cases hb:r.1 with
 |true=>have HP:=Jh (HFound.o.1 hb);have HOk:=Jh (HX3.o);obtain⟨Ap,cp,hvp,hcp,_⟩:=own_slice HOP.o;subst hvp;have HRun:=Jh (show∀x∈r.2.P,I64ok x.h/\I64ok x.w from by obtain⟨s',h1,_⟩:=Option.bind_eq_some_iff.1 HP.o;exact run_rng HPr.o (St.first_ok _) h1);go_wp2_with fail;go_ret2;exact⟨.inl ⟨Ap,cp,r.2.P,rfl,⟨rfl,Row.of_own HOP.o,HRun.o⟩,HP.o⟩,HB3.o⟩
 |false=>have HP:=Jh (HFound.o.2 hb);go_wp2_with fail;go_ret2;exact⟨.inr ⟨rfl,HP.o⟩,HB3.o⟩
end Go.Proofs.YtnigadeohmlpiaaGreatDoor
namespace Go.Proofs.YtnigadeohmlpiaaGreatDoor
open Go.RowKit
attribute [local go_sem] Oper.semAt_some
theorem run_length{l:List Ev}:∀{xs:List Pk} {s s':St},s.run l xs=some s'->xs.length+s'.meas<=s.meas
 |[],s,s',h=>by obtain rfl:s=s':=Option.some.inj h;simp
 |x::xs,s,s',h=>by obtain⟨s1,h1,h2⟩:=Option.bind_eq_some_iff.1 h;have h3:=next_meas h1;have h4:=run_length h2;rw[List.length_cons];omega
theorem playP_short{l:List Ev}(hl:Prog l){xs:List Pk}{z:List Int}(h:playP l xs=some z):xs.length<=12:=by obtain⟨s,h1,_⟩:=Option.bind_eq_some_iff.1 h;have h2:=run_length h1;rw[first_meas] at h2;have:=hl.few;omega
theorem outAw_rising:Rising outAw:=by unfold Rising outAw;simp[cmpL,cmpZ]
theorem plays_aw{R:List (List Int)}(hr:Rising R)(hm:∀z,z∈R↔∃xs,playP lAw xs=some z):R=outAw:=rising_ext hr outAw_rising fun z=>(hm z).trans (lAw_outs z)
theorem awake_any(w:World)(hG:Glob w):Calls Tryz.prog 10 #[] w fun o w'=>o=.returned (.bool true)/\Below w.heap.size w w':=by
 obtain⟨b1,hb1⟩:=exE (w.heap.size);obtain⟨W,hW⟩:=exE (w.alloc (.cells #[.int .i64 0,.int .i64 2,.int .i64 0,.int .i64 1,.int .i64 0,.int .i64 1,.int .i64 1,.int .i64 0,.int .i64 1,.int .i64 2,.int .i64 1,.int .i64 1,.int .i64 1,.int .i64 1,.int .i64 0,.int .i64 0] 44));have HB:=Jh (show Below w.heap.size w W from hW▸bA (bR w))
 have HE:=Jh (show IsEvs W (some ⟨b1,0,none⟩) 4 4 lAw from⟨rfl,Nat.le_refl _,44,by decide,⟨rfl,fun _=>⟨b1,0,_,_,rfl,by rw[hW,hb1];exact heap_alloc_new w _,fun j u hu=>by rw[Nat.zero_add,<-hu];simp[evCells,lAw]⟩⟩⟩);have HG:=Jh (hG.below HB.o);have HP:=Jh (plays_any (some ⟨b1,0,none⟩) 4 4 lAw W HE.o lAw_prog HG.o);clear hG;go_enter Tryz.func10,Tryz.ntmps10;go_wp2_with fail;rw[<-hb1,<-hW];clear hb1 hW
 refine HP.o.mono ?_;rintro o w2 ⟨⟨v2,R2,rfl,⟨cs2,hs2,_⟩,hr2,hm2⟩,hb2⟩;obtain rfl:=plays_aw hr2 hm2;obtain⟨A2,c2,rfl,_,_⟩:=own_slice hs2;have HB2:=Jh hb2;have HE2:=Jh (HE.o.sees (Below.sees hb2));have HG2:=Jh (HG.o.below hb2);have HA:=Jh (axioms_any (some ⟨b1,0,none⟩) 4 4 lAw w2 HE2.o lAw_prog);clear hs2 hr2 hm2 hb2;go_wp2_with fail;refine HA.o.mono ?_
 rintro o w3 ⟨⟨v3,R3,rfl,⟨cs3,hs3,_⟩,hr3,hm3⟩,hb3⟩;obtain rfl:=plays_aw hr3 (fun z=>(hm3 z).trans (same_outs lAw_prog z).symm);obtain⟨A3,c3,rfl,_,_⟩:=own_slice hs3;have HB3:=Jh hb3;have HE3:=Jh (HE2.o.sees (Below.sees hb3));have HG3:=Jh (HG2.o.below hb3);clear hs3 hr3 hm3 hb3;obtain⟨W4,hW4⟩:=exE (w3.alloc (.cells #[.int .i64 0,.int .i64 0] 3));obtain⟨b4,hb4⟩:=exE (w3.heap.size)
 have k4:Below w3.heap.size w3 W4:=hW4▸bA (bR w3);have HB4:=Jh k4;have HR4:=Jh (show Row W4 3 1 (some ⟨b4,0,none⟩) 2 (ints [0,0]) from⟨rfl,fun _=>⟨b4,0,_,_,rfl,by rw[hW4,hb4];exact heap_alloc_new w3 _,fun j u hu=>by rw[Nat.zero_add,<-hu];simp[ints]⟩⟩);have HE4:=Jh (HE3.o.sees (Below.sees k4));have HG4:=Jh (HG3.o.below k4)
 have HS4:=Jh (script_any (some ⟨b1,0,none⟩) 4 4 lAw (some ⟨b4,0,none⟩) 2 2 [0,0] W4 HE4.o lAw_prog HG4.o HR4.o);clear k4;go_wp2_with fail;rw[<-hb4,<-hW4];clear hb4 hW4;refine HS4.o.mono ?_;rintro o w5 ⟨hs5,hb5⟩;obtain⟨A5,c5,xs5,rfl,hp5,hz5⟩:∃A' c' xs,o=.returned (.tuple #[.slice A' xs.length c',.bool true])/\IsPks w5 A' xs.length c' xs/\playP lAw xs=some [0,0]:=by
  rcases hs5 with h|⟨_,h⟩
  ·exact h
  obtain⟨xs,hx⟩:=(lAw_outs [0,0]).2 (by decide);exact absurd hx (h xs)
 have HB5:=Jh hb5;have HE5:=Jh (HE4.o.sees (Below.sees hb5));have HG5:=Jh (HG4.o.below hb5);have HY5:=Jh (play_any (some ⟨b1,0,none⟩) 4 4 lAw A5 xs5.length c5 xs5 w5 HE5.o lAw_prog hp5 (by have:=playP_short lAw_prog hz5;omega));rw[hz5] at HY5;clear hs5 hb5 hp5 hz5;go_wp2_with fail;refine HY5.o.mono ?_;rintro o w6 ⟨⟨A6,c6,rfl,hown6,_⟩,hb6⟩;have HB6:=Jh hb6;have HE6:=Jh (HE5.o.sees (Below.sees hb6))
 have HG6:=Jh (HG5.o.below hb6);have HO6:=Jh (Row.of_own hown6);clear hown6 hb6;obtain⟨W7,hW7⟩:=exE (w6.alloc (.cells #[.int .i64 2,.int .i64 0] 3));obtain⟨b7,hb7⟩:=exE (w6.heap.size);have k7:Below w6.heap.size w6 W7:=hW7▸bA (bR w6);have HB7:=Jh k7
 have HR7:=Jh (show Row W7 3 1 (some ⟨b7,0,none⟩) 2 (ints [2,0]) from⟨rfl,fun _=>⟨b7,0,_,_,rfl,by rw[hW7,hb7];exact heap_alloc_new w6 _,fun j u hu=>by rw[Nat.zero_add,<-hu];simp[ints]⟩⟩);have HE7:=Jh (HE6.o.sees (Below.sees k7));have HG7:=Jh (HG6.o.below k7);have HS7:=Jh (script_any (some ⟨b1,0,none⟩) 4 4 lAw (some ⟨b7,0,none⟩) 2 2 [2,0] W7 HE7.o lAw_prog HG7.o HR7.o);clear k7;go_wp2_with fail
 rw[<-hb7,<-hW7];clear hb7 hW7;refine HS7.o.mono ?_;rintro o w8 ⟨hs8,hb8⟩;obtain rfl:o=.returned (.tuple #[.slice none 0 0,.bool false]):=by
  rcases hs8 with⟨_,_,xs,_,_,hx⟩|⟨h,_⟩
  ·exact absurd ((lAw_outs [2,0]).1 ⟨xs,hx⟩) (by decide)
  exact h
 have HB8:=Jh hb8;have HE8:=Jh (HE7.o.sees (Below.sees hb8));have HY8:=Jh (play_any (some ⟨b1,0,none⟩) 4 4 lAw none 0 0 [] w8 HE8.o lAw_prog ⟨rfl,Row.nil_ _ _ _ _,fun x hx=>by cases hx⟩ (by omega));rw[lAw_nil] at HY8;clear hs8 hb8;go_wp2_with fail;refine HY8.o.mono ?_;rintro o w9 ⟨rfl,hb9⟩;have HB9:=Jh hb9;have HE9:=Jh (HE8.o.sees (Below.sees hb9))
 have HR9:=Jh (right_yes (some ⟨b1,0,none⟩) 4 4 lAw w9 HE9.o lAw_prog);clear hb9;go_wp2_with fail;refine HR9.o.mono ?_;rintro o w10 ⟨rfl,hb10⟩;have HB10:=Jh hb10;have HO10:=Jh ((((HO6.o.below HB7.o).below HB8.o).below HB9.o).below hb10);obtain⟨g6,o6,e6,_,hc6⟩:=HO10.o.rd.2 (by decide);subst e6;have q0:w10.cell? ⟨g6,o6,none⟩=some (.int .i64 0):=hc6 0 _ rfl
 have q1:w10.cell? ⟨g6,o6+1,none⟩=some (.int .i64 0):=hc6 1 _ rfl;have HFin:=Jh (bT HB.o (bT HB2.o (bT HB3.o (bT HB4.o (bT HB5.o (bT HB6.o (bT HB7.o (bT HB8.o (bT HB9.o HB10.o)))))))));clear hb10 hc6;go_wp2_with fail;go_ret;exact⟨rfl,HFin.o⟩
end Go.Proofs.YtnigadeohmlpiaaGreatDoor
