/- A contract: the state behind a pick. No condition of ours. -/
import Derived.Test.YtnigadeohmlpiaaGreatDoorC09
import Derived.Laws.OwnMore
set_option maxHeartbeats 32000000
set_option maxRecDepth 100000
namespace Go.Proofs.YtnigadeohmlpiaaGreatDoor
open Go.RowKit
attribute [local go_sem] Oper.semAt_some
theorem other5{w:World}{b p:Nat}{x y z u v:Value}(h:p≠b):(((((w.setCell ⟨b,0,none⟩ x).setCell ⟨b,1,none⟩ y).setCell ⟨b,2,none⟩ z).setCell ⟨b,3,none⟩ u).setCell ⟨b,4,none⟩ v).heap[p]?=w.heap[p]?:=by rw[set_other _ h,set_other _ h,set_other _ h,set_other _ h,set_other _ h]
theorem own_ne_tag{w:World}{base base':Nat}{e e':TypeId}{size size' n n' c c' g g':Nat}{xs xs':List Value}(h:w.ownsRow base e size (.slice (some ⟨g,0,none⟩) n c) n xs)(h':w.ownsRow base' e' size' (.slice (some ⟨g',0,none⟩) n' c') n' xs')(he:e≠e'):g≠g':=by
 rintro rfl;rcases h.2 with⟨h1,_⟩|⟨k,cap,cur,h1,_,h2,_⟩
 ·cases h1
 rcases h'.2 with⟨h3,_⟩|⟨k',cap',cur',h3,_,h4,_⟩
 ·cases h3
 injection h1 with h1 _ _
 injection h3 with h3 _ _
 simp only[Option.some.injEq,Addr.mk.injEq,and_true] at h1 h3;subst h1;subst h3;rw[h2] at h4;simp only[Option.some.injEq,Obj.cells.injEq] at h4;exact he h4.2.1
theorem cells4{w:World}{b:Nat}{x y z u:Value}{t:TypeId}(h:w.heap[b]?=some (.cells #[x,y,z,u] t)):
  w.cell? ⟨b,0,none⟩=some x/\w.cell? ⟨b,1,none⟩=some y/\w.cell? ⟨b,2,none⟩=some z/\w.cell? ⟨b,3,none⟩=some u/\
  w.frozen? ⟨b,0,none⟩=false/\w.frozen? ⟨b,1,none⟩=false/\w.frozen? ⟨b,2,none⟩=false/\w.frozen? ⟨b,3,none⟩=false:=
 ⟨by rw[cell_of_row w b 0 _ _ _ h];rfl,by rw[cell_of_row w b 1 _ _ _ h];rfl,by rw[cell_of_row w b 2 _ _ _ h];rfl,by rw[cell_of_row w b 3 _ _ _ h];rfl,not_frozen h,not_frozen h,not_frozen h,not_frozen h⟩
theorem ev_load{w wx:World}{v1 v2 v3:Value}{M:Mm}{e:Ev}(hm:IsMem w v1 v2 v3 M)(he:e.Ok)(hb:Below w.heap.size w wx):
  Calls Tryz.prog 58 #[.agg #[v1,v2,v3],.int .i64 e.h,.int .i64 e.a] wx fun o w'=>o=.returned (.tuple #[.int .i64 (M.load e.h.toNat e.a.toNat),.int .i64 0])/\Below wx.heap.size wx w':=by
 have h:=load_any v1 v2 v3 M e.h.toNat e.a.toNat wx (hm.sees (Below.sees hb)) (by have:=he.h;omega) (by have:=he.a;omega);rwa[Int.toNat_of_nonneg he.h.1,Int.toNat_of_nonneg he.a.1] at h
theorem own_low_lt{w:World}{b:Nat}{e:TypeId}{size n c g:Nat}{xs:List Value}(h:w.ownsRow (b+1) e size (.slice (some ⟨g,0,none⟩) n c) n xs):b<g/\g<w.heap.size:=by
 rcases h.2 with⟨h1,_⟩|⟨k,cap,cur,h1,h2,h3,_⟩
 ·cases h1
 injection h1 with h1 _ _
 simp only[Option.some.injEq,Addr.mk.injEq,and_true] at h1;subst h1;exact⟨h2,blk_lt h3⟩
theorem tk_of_own{w:World}{b:Nat}{e:TypeId}{size n c g i:Nat}{x:Value}{xs:List Value}(h:OwnAt b e size n xs (.slice (some ⟨g,0,none⟩) n c) w):Tk [e] w (w.setCell ⟨g,i,none⟩ x):=by
 obtain⟨A,c',h1,_,h2⟩:=h;rcases h2.2 with⟨h3,h4⟩|⟨k,cap,cur,h3,_,h5,_⟩
 ·rw[h3] at h1;cases h1
 rw[<-h1] at h3;injection h3 with h3 _ _
 simp only[Option.some.injEq,Addr.mk.injEq,and_true] at h3;subst h3;exact tk_set1 h5
theorem set35{w:World}{b:Nat}{x y z u v x' y' z':Value}(h:w.heap[b]?=some (.cells #[x,y,z,u,v] 70)):
  (((w.setCell ⟨b,0,none⟩ x').setCell ⟨b,1,none⟩ y').setCell ⟨b,2,none⟩ z').heap[b]?=some (.cells #[x',y',z',u,v] 70)/\Tk [70] w (((w.setCell ⟨b,0,none⟩ x').setCell ⟨b,1,none⟩ y').setCell ⟨b,2,none⟩ z'):=by
 have h1:=set_same (i:=0) h x';have h2:=set_same (i:=1) h1 y';exact⟨set_same (i:=2) h2 z',tk_trans (tk_trans (tk_set1 h) (tk_set1 h1)) (tk_set1 h2)⟩
theorem pend_at{w:World}{v1 v3:Value}{A2:Option Addr}{c2 hN:Nat}{M:Mm}{p:List (Int×Int)}(hm:IsMem w v1 (.slice A2 4 c2) v3 M)(hp:M.pend[hN]?=some p):
  ∃A7 np c7 g2 o2,A2=some ⟨g2,o2,none⟩/\np=p.length/\Hid (∀wx:World,Below w.heap.size w wx->wx.cell? ⟨g2,o2+hN,none⟩=some (.slice A7 np c7)):=by
 obtain⟨A,c,pv,e,hr,hpv⟩:=hm.ps;injection e with e _ _
 subst e;obtain⟨A',c',h1,_,_⟩:=hpv hN p hp;obtain⟨b,off,cur,fz,hA,hb,hc⟩:=hr.2 (by omega);exact⟨A',_,c',b,off,hA,rfl,Jh fun wx hbw=>by rw[cell_of_row wx b _ _ _ _ (blk_below hbw hb)];exact hc hN _ h1⟩
theorem isSt_own{w:World}{v1 v2 v3 D T:Value}{n b b':Nat}{m:Mm}{d:List Bool}{t:List Int}(h1:OwnAt b 4 1 n (bools d) D w)(h2:OwnAt b' 3 1 n (ints t) T w)(hm:IsMem w v1 v2 v3 m)(hs:St.Ok n ⟨m,d,t⟩):IsSt w (.agg #[v1,v2,v3,D,T]) n ⟨m,d,t⟩:=by obtain⟨A1,c1,rfl,hc1,o1⟩:=h1;obtain⟨A2,c2,rfl,hc2,o2⟩:=h2;exact⟨hs,v1,v2,v3,A1,c1,A2,c2,rfl,hm,Row.of_own o1,Row.of_own o2,hc1,hc2⟩
theorem ev_store{w wx:World}{v1 v2 v3:Value}{M:Mm}{e:Ev}(hm:IsMem w v1 v2 v3 M)(he:e.Ok)(hb:Below w.heap.size w wx)(hl:(M.pend.getD e.h.toNat []).length<8):
  Calls Tryz.prog 59 #[.agg #[v1,v2,v3],.int .i64 e.h,.int .i64 e.a,.int .i64 e.n] wx fun o w'=>(∃u1 u2 u3,o=.returned (.tuple #[.agg #[u1,u2,u3],.int .i64 0])/\IsMem w' u1 u2 u3 (M.store e.h.toNat e.a e.n))/\Below wx.heap.size wx w':=by
 have h:=store_any v1 v2 v3 M e.h.toNat e.a.toNat e.n wx (hm.sees (Below.sees hb)) (by have:=he.h;omega) (by have:=he.a;omega) he.n hl;rwa[Int.toNat_of_nonneg he.h.1,Int.toNat_of_nonneg he.a.1] at h
theorem own_form{w:World}{base:Nat}{e:TypeId}{size:Nat}{v:Value}{n:Nat}{xs:List Value}(h:w.ownsRow base e size v n xs)(hn:0<n):∃g cap,v=.slice (some ⟨g,0,none⟩) n cap/\base<=g/\g<w.heap.size:=by
 rcases h.2 with⟨_,h0⟩|⟨g,cap,cur,hv,hb,hg,_⟩
 ·omega
 exact⟨g,cap,hv,hb,blk_lt hg⟩
theorem bools_one(l:List Bool):∀u∈bools l,u.oneCell'=true:=by intro u hu;obtain⟨b,_,rfl⟩:=List.mem_map.1 hu;rfl
theorem IsSt.tk{T:List TypeId}{w w':World}{v:Value}{n:Nat}{s:St}(h:IsSt w v n s)(hk:Tk T w w')(h1:3∉T)(h2:87∉T)(h3:128∉T)(h4:4∉T):IsSt w' v n s:=by obtain⟨v1,v2,v3,A2,c2,A3,c3,e,m,r2,r3,hc⟩:=h.is;exact⟨h.ok,v1,v2,v3,A2,c2,A3,c3,e,m.tk hk h1 h2 h3,r2.tk hk h4,r3.tk hk h1,hc⟩
theorem next_any(A:Option Addr)(n c:Nat)(l:List Ev)(v:Value)(s:St)(x:Pk)(w:World)(hl:Prog l)(he:IsEvs w A n c l)(hs:IsSt w v n s)(hx1:I64ok x.h)(hx2:I64ok x.w):
  Calls Tryz.prog 32 #[.agg #[.slice A n c],v,pickV x] w fun e w'=>NextIs n (s.next l x) e w'/\Below w.heap.size w w':=by
 have hn:n<=6:=he.len▸hl.few;have HSt:=Jh hs;have HOk:=Jh hs.ok;have HPg:=Jh hl;have HXR:=Jh (And.intro hx1 hx2);obtain⟨v1,v2,v3,AD,cD,AT,cT,rfl,him,hrd,hrt,hcD,hcT⟩:=hs.is;obtain⟨A1,c1,rfl,_⟩:=him.ws;obtain⟨A2,c2,pv,rfl,_,_⟩:=him.ps;obtain⟨A3,c3,rfl,_⟩:=him.rs;have HE:=Jh he;have HM:=Jh him;have HD:=Jh hrd;have HT:=Jh hrt;obtain⟨b3,hb3⟩:=exE (w.heap.size);obtain⟨b4,hb4⟩:=exE (b3+1)
 obtain⟨b5,hb5⟩:=exE (b4+1);obtain⟨b6,hb6⟩:=exE (b5+1);obtain⟨X1,hX1⟩:=exE (w.alloc (.cells #[.slice A n c] 68));obtain⟨X2,hX2⟩:=exE (X1.alloc (.cells #[.slice A1 4 c1,.slice A2 4 c2,.slice A3 4 c3,.slice AD n cD,.slice AT n cT] 70));obtain⟨X3,hX3⟩:=exE (X2.alloc (.cells #[.int .i64 x.h,.bool x.d,.int .i64 x.w] 56))
 obtain⟨W0,hW0⟩:=exE (X3.alloc (.cells #[.slice none 0 0,.slice none 0 0,.slice none 0 0,.slice none 0 0,.slice none 0 0] 70));have s1:X1.heap.size=b3+1:=by rw[hX1,World.size_alloc,hb3]
 have s2:X2.heap.size=b3+1+1:=by rw[hX2,World.size_alloc,s1]
 have s3:X3.heap.size=b3+1+1+1:=by rw[hX3,World.size_alloc,s2]
 have k3:Below X3.heap.size X3 W0:=hW0▸bA (bR X3);have k2:Below X2.heap.size X2 W0:=bT (hX3▸bA (bR X2)) k3;have k1:Below X1.heap.size X1 W0:=bT (hX2▸bA (bR X1)) k2;have HB0:=Jh (show Below w.heap.size w W0 from bT (hX1▸bA (bR w)) k1);have H3:=Jh (show W0.heap[b3]?=some (.cells #[.slice A n c] 68) from blk_below k1 (by rw[hX1,hb3];exact heap_alloc_new w _))
 have H4:=Jh (show W0.heap[b4]?=some (.cells #[.slice A1 4 c1,.slice A2 4 c2,.slice A3 4 c3,.slice AD n cD,.slice AT n cT] 70) from blk_below k2 (by rw[hX2,hb4,<-s1];exact heap_alloc_new X1 _));have H5:=Jh (show W0.heap[b5]?=some (.cells #[.int .i64 x.h,.bool x.d,.int .i64 x.w] 56) from blk_below k3 (by rw[hX3,hb5,hb4,<-s2];exact heap_alloc_new X2 _))
 have H6:=Jh (show W0.heap[b6]?=some (.cells #[.slice none 0 0,.slice none 0 0,.slice none 0 0,.slice none 0 0,.slice none 0 0] 70) by rw[hW0,hb6,hb5,hb4,<-s3];exact heap_alloc_new X3 _);have HL:=Jh (show w.heap.size<=b6/\b3<b6/\b4<b6/\b5<b6 by omega)
 have hWW:W0=(((w.alloc (.cells #[.slice A n c] 68)).alloc (.cells #[.slice A1 4 c1,.slice A2 4 c2,.slice A3 4 c3,.slice AD n cD,.slice AT n cT] 70)).alloc (.cells #[.int .i64 x.h,.bool x.d,.int .i64 x.w] 56)).alloc (.cells #[.slice none 0 0,.slice none 0 0,.slice none 0 0,.slice none 0 0,.slice none 0 0] 70):=by rw[hW0,hX3,hX2,hX1]
 clear hX1 hX2 hX3 hW0 s1 s2 s3 k1 k2 k3 he hs him hrd hrt hx1 hx2 hl;obtain⟨xh,xd,xw⟩:=x;unfold pickV;dsimp only at*;cases xd
 case true=>
  have HDr:=Jh (stDrain_any n _ s ⟨xh,true,xw⟩ W0 (HSt.o.sees (Below.sees HB0.o)) HXR.o.1 HXR.o.2);have HNx:=Jh (show s.next l ⟨xh,true,xw⟩=(s.m.drainZ' xh xw).map (fun m=>⟨m,s.done,s.told⟩) from if_pos rfl)
  go_enter Tryz.func32,Tryz.ntmps32;go_wp2_with fail;rw[<-hb3,<-hb4,<-hb5,<-hb6,<-hWW];clear hb3 hb4 hb5 hb6 hWW;refine HDr.o.mono ?_;rintro e w1 ⟨hni,hbw⟩;have HB1:=Jh (bT HB0.o hbw);have H61:=Jh (blk_below hbw H6.o);clear hbw;obtain⟨t0,t1,t2,t3,t4,f0,f1,f2,f3,f4⟩:=cells5 H61.o;cases hd:s.m.drainZ' xh xw with
  |none=>rw[hd] at hni HNx;obtain⟨_,_,_,_,_,⟨a1,m1,d1,rfl⟩,⟨a2,m2,d2,rfl⟩,⟨a3,m3,d3,rfl⟩,⟨a4,m4,d4,rfl⟩,⟨a5,m5,d5,rfl⟩,rfl⟩:=hni;clear hd;go_wp2_with fail;exact bodyPost_ret (ret70b rfl rfl (set5 H61.o)) rfl ⟨by rw[HNx.o];exact⟨_,_,_,_,_,⟨_,_,_,rfl⟩,⟨_,_,_,rfl⟩,⟨_,_,_,rfl⟩,⟨_,_,_,rfl⟩,⟨_,_,_,rfl⟩,rfl⟩,bS (bS (bS (bS (bS HB1.o HL.o.1) HL.o.1) HL.o.1) HL.o.1) HL.o.1⟩
  |some M'=>
   rw[hd] at hni HNx;obtain⟨v',rfl,his⟩:=hni;obtain⟨y1,y2,y3,BD,dD,BT,dT,rfl,hy,_⟩:=his.is;obtain⟨Y1,q1,rfl,_⟩:=hy.ws;obtain⟨Y2,q2,qv,rfl,_,_⟩:=hy.ps;obtain⟨Y3,q3,rfl,_⟩:=hy.rs;have HIs:=Jh his;clear hd his hy;go_wp2_with fail;have htk:=Tk.set5 (x':=.slice Y1 4 q1) (y':=.slice Y2 4 q2) (z':=.slice Y3 4 q3) (u':=.slice BD n dD) (v':=.slice BT n dT) H61.o
   exact bodyPost_ret (ret70b rfl rfl (set5 H61.o)) rfl ⟨by rw[HNx.o];exact⟨_,rfl,HIs.o.tk htk (by decide) (by decide) (by decide) (by decide)⟩,bS (bS (bS (bS (bS HB1.o HL.o.1) HL.o.1) HL.o.1) HL.o.1) HL.o.1⟩
 case false=>
  have HDu:=Jh (due_any A n c l _ s xh W0 hn (HE.o.sees (Below.sees HB0.o)) (HSt.o.sees (Below.sees HB0.o)));go_enter Tryz.func32,Tryz.ntmps32;go_wp2_with fail;rw[<-hb3,<-hb4,<-hb5,<-hb6,<-hWW];clear hb3 hb4 hb5 hb6 hWW;refine HDu.o.mono ?_;rintro e w1 ⟨rfl,hbw⟩;have HB1:=Jh (bT HB0.o hbw);have H31:=Jh (blk_below hbw H3.o);have H41:=Jh (blk_below hbw H4.o);have H51:=Jh (blk_below hbw H5.o)
  have H61:=Jh (blk_below hbw H6.o);clear hbw;cases hd:s.due l xh with
  |none=>
   have HNx:=Jh (show s.next l ⟨xh,false,xw⟩=none by
    unfold St.next
    dsimp only;rw[if_neg (by decide),hd])
   obtain⟨p0,p1,p2,_⟩:=cells3 H51.o;obtain⟨r0,r1,r2,r3,r4,_⟩:=cells5 H41.o;obtain⟨t0,t1,t2,t3,t4,f0,f1,f2,f3,f4⟩:=cells5 H61.o;clear hd;unfold dueV;go_wp2_with fail;exact bodyPost_ret (ret70b rfl rfl (set5 H61.o)) rfl ⟨by rw[HNx.o];exact⟨_,_,_,_,_,⟨_,_,_,rfl⟩,⟨_,_,_,rfl⟩,⟨_,_,_,rfl⟩,⟨_,_,_,rfl⟩,⟨_,_,_,rfl⟩,rfl⟩,bS (bS (bS (bS (bS HB1.o HL.o.1) HL.o.1) HL.o.1) HL.o.1) HL.o.1⟩
  |some i=>
   obtain⟨ev,hev,hevh,hdn⟩:=St.due_parts hd;have hin:i<n:=by have:=(List.getElem?_eq_some_iff.1 hev).1;have:=HE.o.len;omega
   by_cases hw0:xw=0
   ·subst hw0;have HEv:=Jh hev;have HEh:=Jh hevh;have HDn:=Jh hdn;have HNx:=Jh (show s.next l ⟨xh,false,0⟩=s.step ev i by
     unfold St.next
     dsimp only;rw[if_neg (by decide),hd];dsimp only;rw[if_pos rfl,hev];rfl)
    obtain⟨p0,p1,p2,_⟩:=cells3 H51.o;have hi0:decide ((i:Int)<0)=false:=by simp
    clear hd hev hevh hdn;unfold dueV;dsimp only;go_wp2_with fail
    have hq:∀(k:Nat) (l:Nat->Bool) (wx:World),(Below w.heap.size w wx/\wx.heap[b3]?=some (.cells #[.slice A n c] 68)/\wx.heap[b4]?=some (.cells #[.slice A1 4 c1,.slice A2 4 c2,.slice A3 4 c3,.slice AD n cD,.slice AT n cT] 70)/\∃x y z u v,wx.heap[b6]?=some (.cells #[x,y,z,u,v] 70))->(Below w.heap.size w wx/\wx.heap[b3]?=some (.cells #[.slice A n c] 68)/\wx.heap[b4]?=some (.cells #[.slice A1 4 c1,.slice A2 4 c2,.slice A3 4 c3,.slice AD n cD,.slice AT n cT] 70)/\∃x y z u v,wx.heap[b6]?=some (.cells #[x,y,z,u,v] 70)):=fun _ _ _ h=>h
    have rr:∀{T:List TypeId} (wx:World),Tk T wx wx:=fun wx=>Tk.refl _ wx;have tn4:∀(i:Nat),4∉(if i=9 then[70] else[]:List TypeId):=fun i=>by split<;>decide
    have tn3:∀(i:Nat),3∉(if i=9 then[70] else[]:List TypeId):=fun i=>by split<;>decide
    have lt2:∀{wx:World},(Below w.heap.size w wx/\wx.heap[b3]?=some (.cells #[.slice A n c] 68)/\wx.heap[b4]?=some (.cells #[.slice A1 4 c1,.slice A2 4 c2,.slice A3 4 c3,.slice AD n cD,.slice AT n cT] 70)/\∃x y z u v,wx.heap[b6]?=some (.cells #[x,y,z,u,v] 70))->b6+1<=wx.heap.size:=fun⟨_,_,_,_,_,_,_,_,h⟩=>blk_lt h
    have ss:∀{wx w2:World},Below wx.heap.size wx w2->(Below w.heap.size w wx/\wx.heap[b3]?=some (.cells #[.slice A n c] 68)/\wx.heap[b4]?=some (.cells #[.slice A1 4 c1,.slice A2 4 c2,.slice A3 4 c3,.slice AD n cD,.slice AT n cT] 70)/\∃x y z u v,wx.heap[b6]?=some (.cells #[x,y,z,u,v] 70))->(Below w.heap.size w w2/\w2.heap[b3]?=some (.cells #[.slice A n c] 68)/\w2.heap[b4]?=some (.cells #[.slice A1 4 c1,.slice A2 4 c2,.slice A3 4 c3,.slice AD n cD,.slice AT n cT] 70)/\∃x y z u v,w2.heap[b6]?=some (.cells #[x,y,z,u,v] 70)):=fun h ⟨h1,h2,h3,x,y,z,u,v,h4⟩=>⟨bT h1 h,blk_below h h2,blk_below h h3,x,y,z,u,v,blk_below h h4⟩
    refine wp_region_det (by kernel_rfl) (fun f=>(⟨#[Value.agg #[Value.slice A n c],Value.agg #[Value.slice A1 4 c1,Value.slice A2 4 c2,Value.slice A3 4 c3,Value.slice AD n cD,Value.slice AT n cT],Value.agg #[.int .i64 xh,Value.bool false,.int .i64 0],Value.pointer (some ⟨b3,0,none⟩),Value.pointer (some ⟨b4,0,none⟩),Value.pointer (some ⟨b5,0,none⟩),Value.pointer (some ⟨b6,0,none⟩),Value.bool false,.int .i64 (i:Int),undef,undef,Value.pointer (some ⟨b5,1,none⟩),Value.bool false,undef,undef,undef,undef,undef,Value.agg #[Value.slice A n c],Value.agg #[Value.slice A1 4 c1,Value.slice A2 4 c2,Value.slice A3 4 c3,Value.slice AD n cD,Value.slice AT n cT],Value.pointer (some ⟨b5,0,none⟩),.int .i64 xh,.int .i64 (i:Int),.int .i64 (i:Int),Value.bool false,Value.bool false,Value.pointer (some ⟨b5,2,none⟩),.int .i64 0,Value.bool false,Value.bool false,undef,f 0,f 1,f 2,f 3,f 4,f 5,f 6,f 7,f 8,undef,undef,undef,undef,undef,undef,undef,undef,undef,undef,undef,undef,undef,undef,undef,undef,undef,undef,undef,undef,undef,undef,undef,undef,undef,undef,undef,undef,undef,undef,undef,undef,undef,undef,undef,undef,undef,undef,undef,undef,undef,undef,undef,undef,undef,undef,undef,undef,undef,undef,undef,undef,undef,undef,undef,undef,undef],[]⟩:Act)) (fun(iv:Nat) (lv:Nat->Bool) (fv:Nat->Value) (wx:World)=>match iv with|0=>fv 0=.pointer (some ⟨b4,0,none⟩)|1=>fv 1=.agg #[.slice A1 4 c1,.slice A2 4 c2,.slice A3 4 c3]|2=>fv 2=.pointer (some ⟨b4,3,none⟩)|3=>fv 3=.slice AD n cD|4=>OwnAt b6 4 1 n (bools s.done) (fv 4) wx|5=>fv 5=.pointer (some ⟨b4,4,none⟩)|6=>fv 6=.slice AT n cT|7=>OwnAt b6 3 1 n (ints s.told) (fv 7) wx|8=>∃d t,(fv 8)=.agg #[.slice A1 4 c1,.slice A2 4 c2,.slice A3 4 c3,d,t]/\OwnAt b6 4 1 n (bools s.done) d wx/\OwnAt b6 3 1 n (ints s.told) t wx|9=>∃d t,wx.heap[b6]?=some (.cells #[.slice A1 4 c1,.slice A2 4 c2,.slice A3 4 c3,d,t] 70)/\OwnAt b6 4 1 n (bools s.done) d wx/\OwnAt b6 3 1 n (ints s.told) t wx|_=>True) (fun _ wx=>Below w.heap.size w wx/\wx.heap[b3]?=some (.cells #[.slice A n c] 68)/\wx.heap[b4]?=some (.cells #[.slice A1 4 c1,.slice A2 4 c2,.slice A3 4 c3,.slice AD n cD,.slice AT n cT] 70)/\∃x y z u v,wx.heap[b6]?=some (.cells #[x,y,z,u,v] 70)) (fun i w1 w2=>Tk (if i=9 then[70] else[]) w1 w2) (by kernel_rfl) (fun k=>match k with|_=>undef) rfl ?keep ⟨bD HB1.o,H31.o,H41.o,⟨_,_,_,_,_,H61.o⟩⟩ ?steps ?fin
    case keep=>
     intro iv j hij hd l f f' w1 w2 hf hR
     match j with
     |0|1|2|3|5|6=>exact fun h=>(hf _ (Ne.symm hij)).trans h
     |4=>intro h;have h:OwnAt b6 4 1 n (bools s.done) (f 4) w1:=h;show OwnAt b6 4 1 n (bools s.done) (f' 4) w2;rw[hf 4 (Ne.symm hij)];exact h.tk hR (tn4 _)
     |7=>intro h;have h:OwnAt b6 3 1 n (ints s.told) (f 7) w1:=h;show OwnAt b6 3 1 n (ints s.told) (f' 7) w2;rw[hf 7 (Ne.symm hij)];exact h.tk hR (tn3 _)
     |8=>
      intro h;have h:∃d t,(f 8)=.agg #[.slice A1 4 c1,.slice A2 4 c2,.slice A3 4 c3,d,t]/\OwnAt b6 4 1 n (bools s.done) d w1/\OwnAt b6 3 1 n (ints s.told) t w1:=h;show∃d t,(f' 8)=.agg #[.slice A1 4 c1,.slice A2 4 c2,.slice A3 4 c3,d,t]/\OwnAt b6 4 1 n (bools s.done) d w2/\OwnAt b6 3 1 n (ints s.told) t w2;rw[hf 8 (Ne.symm hij)]
      exact h.elim fun d h=>h.elim fun t h=>⟨d,t,h.1,h.2.1.tk hR (tn4 _),h.2.2.tk hR (tn3 _)⟩
     |9=>
      intro h;have h:∃d t,w1.heap[b6]?=some (.cells #[.slice A1 4 c1,.slice A2 4 c2,.slice A3 4 c3,d,t] 70)/\OwnAt b6 4 1 n (bools s.done) d w1/\OwnAt b6 3 1 n (ints s.told) t w1:=h;show∃d t,w2.heap[b6]?=some (.cells #[.slice A1 4 c1,.slice A2 4 c2,.slice A3 4 c3,d,t] 70)/\OwnAt b6 4 1 n (bools s.done) d w2/\OwnAt b6 3 1 n (ints s.told) t w2
      exact h.elim fun d h=>h.elim fun t h=>⟨d,t,Tk.at_ hR (by rw[if_neg (fun e=>hij e)];decide) h.1,h.2.1.tk hR (tn4 _),h.2.2.tk hR (tn3 _)⟩
     |_+10=>exact id
    case steps=>
     refine fun iv hiv=>stepsOf_at (k:=0) (n:=10) ?_ iv (Nat.zero_le _) (by rw[Nat.zero_add];exact hiv);refine sD 0 9 aT0 [] (fun f wq l hl hun hdn hS hd K' HK=>?_) ?_
     ·clear hd;go_simp;exact HK.o _ _ _ rfl rfl (hq 0 l _ hS) (rr _)
     refine sD 1 8 aT1 [0] (fun f wq l hl hun hdn hS hd K' HK=>?_) ?_
     ·obtain⟨e0,-⟩:=hd;have e0:f 0=_:=e0;obtain⟨r0,r1,r2,r3,r4,_⟩:=cells5 hS.2.2.1;simp only[e0];go_simp;exact HK.o _ _ _ (by simp only[e0];rfl) rfl (hq 1 l _ hS) (rr _)
     refine sD 2 7 aT2 [] (fun f wq l hl hun hdn hS hd K' HK=>?_) ?_
     ·clear hd;go_simp;exact HK.o _ _ _ rfl rfl (hq 2 l _ hS) (rr _)
     refine sD 3 6 aT3 [2] (fun f wq l hl hun hdn hS hd K' HK=>?_) ?_
     ·obtain⟨e2,-⟩:=hd;have e2:f 2=_:=e2;obtain⟨r0,r1,r2,r3,r4,_⟩:=cells5 hS.2.2.1;simp only[e2];go_simp;exact HK.o _ _ _ (by simp only[e2];rfl) rfl (hq 3 l _ hS) (rr _)
     refine sD 4 5 aT4 [3] (fun f wq l hl hun hdn hS hd K' HK=>?_) ?_
     ·obtain⟨e3,-⟩:=hd;have e3:f 3=_:=e3;have HC:=Jh (clone56_any _ n cD _ wq (HD.o.below hS.1).rd (bools_one _) (by omega));have HS:=Jh hS;clear hS;simp only[e3];go_simp;go_wp2_with (go_at_call 56;refine HC.o.mono ?_;rintro e w2 ⟨⟨A9,c9,rfl,hown,hc9⟩,hb2⟩);have hS:=HS.o;exact HK.o _ _ _ (by simp only[e3];rfl) ⟨A9,c9,rfl,hc9,own_low hown (lt2 hS)⟩ (ss hb2 hS) (Tk.below hb2)
     refine sD 5 4 aT5 [] (fun f wq l hl hun hdn hS hd K' HK=>?_) ?_
     ·clear hd;go_simp;exact HK.o _ _ _ rfl rfl (hq 5 l _ hS) (rr _)
     refine sD 6 3 aT6 [5] (fun f wq l hl hun hdn hS hd K' HK=>?_) ?_
     ·obtain⟨e5,-⟩:=hd;have e5:f 5=_:=e5;obtain⟨r0,r1,r2,r3,r4,_⟩:=cells5 hS.2.2.1;simp only[e5];go_simp;exact HK.o _ _ _ (by simp only[e5];rfl) rfl (hq 6 l _ hS) (rr _)
     refine sD 7 2 aT7 [6] (fun f wq l hl hun hdn hS hd K' HK=>?_) ?_
     ·obtain⟨e6,-⟩:=hd;have e6:f 6=_:=e6;have HC:=Jh (clone57_any _ n cT _ wq (HT.o.below hS.1).rd (ints_one _) (by omega));have HS:=Jh hS;clear hS;simp only[e6];go_simp;go_wp2_with (go_at_call 57;refine HC.o.mono ?_;rintro e w2 ⟨⟨A9,c9,rfl,hown,hc9⟩,hb2⟩);have hS:=HS.o;exact HK.o _ _ _ (by simp only[e6];rfl) ⟨A9,c9,rfl,hc9,own_low hown (lt2 hS)⟩ (ss hb2 hS) (Tk.below hb2)
     refine sD 8 1 aT8 [1,4,7] (fun f wq l hl hun hdn hS hd K' HK=>?_) ?_
     ·obtain⟨e1,e4,e7,-⟩:=hd;have e1:f 1=_:=e1;have e4:OwnAt b6 4 1 n (bools s.done) (f 4) wq:=e4;have e7:OwnAt b6 3 1 n (ints s.told) (f 7) wq:=e7;obtain⟨E4,d4,h4,q4⟩:=e4;obtain⟨E7,d7,h7,q7⟩:=e7;simp only[e1,h4,h7];go_simp;exact HK.o _ _ _ (by simp only[e1,h4,h7];rfl) ⟨_,_,rfl,⟨E4,d4,rfl,q4⟩,⟨E7,d7,rfl,q7⟩⟩ (hq 8 l _ hS) (rr _)
     refine sD 9 0 aT9 [8] (fun f wq l hl hun hdn hS hd K' HK=>?_) ?_
     ·obtain⟨e8,-⟩:=hd;have e8:∃d t,(f 8)=.agg #[.slice A1 4 c1,.slice A2 4 c2,.slice A3 4 c3,d,t]/\OwnAt b6 4 1 n (bools s.done) d wq/\OwnAt b6 3 1 n (ints s.told) t wq:=e8;obtain⟨d,t,h8,m1,m2⟩:=e8;obtain⟨x,y,z,u,v,hx⟩:=hS.2.2.2;obtain⟨r0,r1,r2,r3,r4,r5,r6,r7,r8,r9⟩:=cells5 hx;obtain⟨E4,d4,rfl,q4⟩:=m1;obtain⟨E7,d7,rfl,q7⟩:=m2;have HX:=Jh hx
      have HM1:=Jh (show OwnAt b6 4 1 n (bools s.done) _ wq from⟨E4,d4,rfl,q4⟩);have HM2:=Jh (show OwnAt b6 3 1 n (ints s.told) _ wq from⟨E7,d7,rfl,q7⟩);have HS:=Jh hS;clear hx q4 q7 hS;simp only[h8];go_simp;have hk:=Tk.set5 (x':=.slice A1 4 c1) (y':=.slice A2 4 c2) (z':=.slice A3 4 c3) (u':=.slice E4 n d4) (v':=.slice E7 n d7) HX.o
      exact HK.o undef _ _ (by simp only[h8];rfl) ⟨_,_,set5 HX.o,HM1.o.tk hk (by decide),HM2.o.tk hk (by decide)⟩ ⟨bS (bS (bS (bS (bS HS.o.1 HL.o.1) HL.o.1) HL.o.1) HL.o.1) HL.o.1,(other5 (Nat.ne_of_lt HL.o.2.1)).trans HS.o.2.1,(other5 (Nat.ne_of_lt HL.o.2.2.1)).trans HS.o.2.2.1,⟨_,_,_,_,_,set5 HX.o⟩⟩ hk
     exact trivial
    case fin=>
     intro fo wz lo hlo hall hS;have a0:fo 0=_:=hall 0 (by decide);have a1:fo 1=_:=hall 1 (by decide);have a2:fo 2=_:=hall 2 (by decide);have a3:fo 3=_:=hall 3 (by decide);have a4:OwnAt b6 4 1 n (bools s.done) (fo 4) wz:=hall 4 (by decide);have a5:fo 5=_:=hall 5 (by decide);have a6:fo 6=_:=hall 6 (by decide);have a7:OwnAt b6 3 1 n (ints s.told) (fo 7) wz:=hall 7 (by decide)
     have a8:∃d t,(fo 8)=.agg #[.slice A1 4 c1,.slice A2 4 c2,.slice A3 4 c3,d,t]/\OwnAt b6 4 1 n (bools s.done) d wz/\OwnAt b6 3 1 n (ints s.told) t wz:=hall 8 (by decide);have a9:∃d t,wz.heap[b6]?=some (.cells #[.slice A1 4 c1,.slice A2 4 c2,.slice A3 4 c3,d,t] 70)/\OwnAt b6 4 1 n (bools s.done) d wz/\OwnAt b6 3 1 n (ints s.told) t wz:=hall 9 (by decide);clear hall;obtain⟨d,t,h9,m1,m2⟩:=a9;clear hlo
     clear a0 a1 a2 a3 a4 a5 a6 a7 a8;obtain⟨ED,dD,rfl,hdD,oD⟩:=m1;obtain⟨ET,dT,rfl,hdT,oT⟩:=m2;obtain⟨gD,_,hgD,hgD1,hgD2⟩:=own_form oD (by omega);obtain⟨gT,_,hgT,hgT1,hgT2⟩:=own_form oT (by omega);injection hgD with hgD _ hx1
     injection hgT with hgT _ hx2
     clear hx1 hx2;subst hgD;subst hgT;have hgDT:gD≠gT:=own_ne_tag oD oT (by decide);obtain⟨oD2,gw⟩:=oD.stored i (.bool true);obtain⟨Wd,hWd⟩:=exE (wz.setCell ⟨gD,i,none⟩ (.bool true));have hBd:Below w.heap.size w Wd:=hWd▸bS hS.1 (by have:=HL.o;show w.heap.size<=gD;omega);have hkp:∀p o,p≠gD->wz.heap[p]?=some o->Wd.heap[p]?=some o:=fun p o hp ho=>by rw[hWd];exact(set_other _ hp).trans ho
     rw[<-hWd] at oD2;have OD:=Jh (show OwnAt b6 4 1 n (bools (s.done.set i true)) (.slice (some ⟨gD,0,none⟩) n dD) Wd from⟨_,_,rfl,hdD,by rw[show bools (s.done.set i true)=(bools s.done).set i (.bool true) by simp[bools]];exact oD2⟩)
     have OT:=Jh (show OwnAt b6 3 1 n (ints s.told) (.slice (some ⟨gT,0,none⟩) n dT) Wd from⟨_,_,rfl,hdT,hWd▸oT.kept gw (.inr (by simp[Value.ownBlock];exact fun e=>hgDT e.symm))⟩);have H3d:=Jh (hkp b3 _ (by have:=HL.o;omega) hS.2.1);have H4d:=Jh (hkp b4 _ (by have:=HL.o;omega) hS.2.2.1);have H6d:=Jh (hkp b6 _ (by have:=HL.o;omega) h9);have HBd:=Jh hBd;have HWd:=Jh hWd;have hcD:=oD.cellAt i (by omega)
     have hfD:=oD.frozenAt i;obtain⟨ud,hud⟩:∃u,(bools s.done)[i]?=some u:=⟨_,List.getElem?_eq_getElem (by rw[oD.1];omega)⟩;rw[hud] at hcD;obtain⟨t0,t1,t2,t3,t4,f0,f1,f2,f3,f4⟩:=cells5 h9;obtain⟨ge,oe,ev',hAe,hev',hc0,hc1,hc2,hc3⟩:=(HE.o.sees (Below.sees hBd)).at_ hin;obtain rfl:ev'=ev:=Option.some.inj (hev'.symm.trans HEv.o);subst hAe;obtain⟨r3,_⟩:=cell1 H3d.o;rw[hWd] at r3 hc0 hc1 hc2 hc3
     have hin':(i:Int)<(n:Int):=by omega
     clear oD oT oD2 gw hBd hkp h9 hS hud hev' hdD hdT;go_upto_region 10 with fail
     obtain⟨W3,hW3⟩:=exE ((wz.setCell ⟨gD,i,none⟩ (.bool true)).alloc (.cells #[.int .i64 ev'.h,.int .i64 ev'.k,.int .i64 ev'.a,.int .i64 ev'.n] 44));obtain⟨b10,hb10⟩:=exE (wz.heap.size);rw[<-hW3,<-hb10];have hTT:b6<gT/\gT<b10/\b6<gD/\gD<b10:=by rw[hb10];exact⟨hgT1,hgT2,hgD1,hgD2⟩
     clear hgD1 hgD2 hgT1 hgT2;have hW3':W3=Wd.alloc (.cells #[.int .i64 ev'.h,.int .i64 ev'.k,.int .i64 ev'.a,.int .i64 ev'.n] 44):=by rw[hW3,HWd.o]
     have hbd:b10=Wd.heap.size:=by rw[hb10,HWd.o,World.size_setCell]
     have kE:Below Wd.heap.size Wd W3:=hW3'▸bA (bR Wd);have HB3:=Jh (bT HBd.o kE);have H33:=Jh (blk_below kE H3d.o);have H43:=Jh (blk_below kE H4d.o);have H63:=Jh (blk_below kE H6d.o);have H103:=Jh (show W3.heap[b10]?=some (.cells #[.int .i64 ev'.h,.int .i64 ev'.k,.int .i64 ev'.a,.int .i64 ev'.n] 44) by rw[hW3',hbd];exact heap_alloc_new Wd _);have OD3:=Jh (OD.o.tk (T:=[]) (Tk.below kE) (by simp))
     have OT3:=Jh (OT.o.tk (T:=[]) (Tk.below kE) (by simp));have HE3:=Jh (HE.o.sees (Below.sees HB3.o));have HMx:=Jh (HM.o.sees (Below.sees HB3.o));have HSx:=Jh (HSt.o.sees (Below.sees HB3.o));have hL10:b6<b10:=by rw[hbd];exact blk_lt H6d.o
     have hokev:=HPg.o.ok ev' (List.mem_of_getElem? HEv.o);have hk13:=hokev.k;have HOe:=Jh hokev;clear hW3 hW3' hb10 hbd kE r3 hc0 hc1 hc2 hc3 t0 t1 t2 t3 t4 f0 f1 f2 f3 f4 hfD hcD H3d H4d H6d HBd HWd OD OT hWd hokev p0 p1 p2;obtain⟨q0,q1,q2,q3,_⟩:=cells4 H103.o;obtain⟨r0,r1,r2,r3,r4,_⟩:=cells5 H43.o;obtain⟨t0,t1,t2,t3,t4,f0,f1,f2,f3,f4⟩:=cells5 H63.o
     have HNk:=Jh (show∀s',s.step ev' i=some s'->s'.Ok n from fun s' h=>by have:=St.step_ok HPg.o (by rw[HE.o.len];exact HOk.o) HEv.o HDn.o h;rwa[HE.o.len] at this);have hk:ev'.k=1\/ev'.k=2\/ev'.k=3:=by omega
     clear hk13;rcases hk with hk|hk|hk
     ·have hk1:(ev'.k==1)=true:=by simp[hk]
      go_wp2_with fail;have HTT:=Jh (show gT≠b6/\gT≠b4/\gT≠b10/\gT≠gD from by have:=HL.o;exact⟨by omega,by omega,by omega,hgDT.symm⟩)
      have hq:∀(k:Nat) (l:Nat->Bool) (wx:World),(Below w.heap.size w wx/\wx.heap[b4]?=some (.cells #[.slice A1 4 c1,.slice A2 4 c2,.slice A3 4 c3,.slice AD n cD,.slice AT n cT] 70)/\wx.heap[b6]?=some (.cells #[.slice A1 4 c1,.slice A2 4 c2,.slice A3 4 c3,.slice (some ⟨gD,0,none⟩) n dD,.slice (some ⟨gT,0,none⟩) n dT] 70)/\wx.heap[b10]?=some (.cells #[.int .i64 ev'.h,.int .i64 ev'.k,.int .i64 ev'.a,.int .i64 ev'.n] 44)/\OwnAt b6 4 1 n (bools (s.done.set i true)) (.slice (some ⟨gD,0,none⟩) n dD) wx/\((l 14)=false->OwnAt b6 3 1 n (ints s.told) (.slice (some ⟨gT,0,none⟩) n dT) wx)/\((l 14)=true->OwnAt b6 3 1 n (ints (s.told.set i (s.m.load ev'.h.toNat ev'.a.toNat))) (.slice (some ⟨gT,0,none⟩) n dT) wx))->(if k=14 then True else(Below w.heap.size w wx/\wx.heap[b4]?=some (.cells #[.slice A1 4 c1,.slice A2 4 c2,.slice A3 4 c3,.slice AD n cD,.slice AT n cT] 70)/\wx.heap[b6]?=some (.cells #[.slice A1 4 c1,.slice A2 4 c2,.slice A3 4 c3,.slice (some ⟨gD,0,none⟩) n dD,.slice (some ⟨gT,0,none⟩) n dT] 70)/\wx.heap[b10]?=some (.cells #[.int .i64 ev'.h,.int .i64 ev'.k,.int .i64 ev'.a,.int .i64 ev'.n] 44)/\OwnAt b6 4 1 n (bools (s.done.set i true)) (.slice (some ⟨gD,0,none⟩) n dD) wx/\((decide (14=k)||l 14)=false->OwnAt b6 3 1 n (ints s.told) (.slice (some ⟨gT,0,none⟩) n dT) wx)/\((decide (14=k)||l 14)=true->OwnAt b6 3 1 n (ints (s.told.set i (s.m.load ev'.h.toNat ev'.a.toNat))) (.slice (some ⟨gT,0,none⟩) n dT) wx))):=fun k l wx h=>by
       split
       ·trivial
       rename_i hk;have e:decide (14=k)=false:=by simp;omega
       rw[e,Bool.false_or];exact h
      have rr:∀{T:List TypeId} (wx:World),Tk T wx wx:=fun wx=>Tk.refl _ wx
      have hs9:∀(l:Nat->Bool) {wx w2:World},Below wx.heap.size wx w2->(Below w.heap.size w wx/\wx.heap[b4]?=some (.cells #[.slice A1 4 c1,.slice A2 4 c2,.slice A3 4 c3,.slice AD n cD,.slice AT n cT] 70)/\wx.heap[b6]?=some (.cells #[.slice A1 4 c1,.slice A2 4 c2,.slice A3 4 c3,.slice (some ⟨gD,0,none⟩) n dD,.slice (some ⟨gT,0,none⟩) n dT] 70)/\wx.heap[b10]?=some (.cells #[.int .i64 ev'.h,.int .i64 ev'.k,.int .i64 ev'.a,.int .i64 ev'.n] 44)/\OwnAt b6 4 1 n (bools (s.done.set i true)) (.slice (some ⟨gD,0,none⟩) n dD) wx/\((l 14)=false->OwnAt b6 3 1 n (ints s.told) (.slice (some ⟨gT,0,none⟩) n dT) wx)/\((l 14)=true->OwnAt b6 3 1 n (ints (s.told.set i (s.m.load ev'.h.toNat ev'.a.toNat))) (.slice (some ⟨gT,0,none⟩) n dT) wx))->(Below w.heap.size w w2/\w2.heap[b4]?=some (.cells #[.slice A1 4 c1,.slice A2 4 c2,.slice A3 4 c3,.slice AD n cD,.slice AT n cT] 70)/\w2.heap[b6]?=some (.cells #[.slice A1 4 c1,.slice A2 4 c2,.slice A3 4 c3,.slice (some ⟨gD,0,none⟩) n dD,.slice (some ⟨gT,0,none⟩) n dT] 70)/\w2.heap[b10]?=some (.cells #[.int .i64 ev'.h,.int .i64 ev'.k,.int .i64 ev'.a,.int .i64 ev'.n] 44)/\OwnAt b6 4 1 n (bools (s.done.set i true)) (.slice (some ⟨gD,0,none⟩) n dD) w2/\((decide (14=9)||l 14)=false->OwnAt b6 3 1 n (ints s.told) (.slice (some ⟨gT,0,none⟩) n dT) w2)/\((decide (14=9)||l 14)=true->OwnAt b6 3 1 n (ints (s.told.set i (s.m.load ev'.h.toNat ev'.a.toNat))) (.slice (some ⟨gT,0,none⟩) n dT) w2)):=fun l wx w2 h hS=>⟨bT hS.1 h,blk_below h hS.2.1,blk_below h hS.2.2.1,blk_below h hS.2.2.2.1,hS.2.2.2.2.1.tk (T:=[]) (Tk.below h) (by simp),fun hl=>(hS.2.2.2.2.2.1 hl).tk (T:=[]) (Tk.below h) (by simp),fun hl=>(hS.2.2.2.2.2.2 hl).tk (T:=[]) (Tk.below h) (by simp)⟩
      refine wp_region_det (by kernel_rfl) (fun f=>(⟨#[Value.agg #[Value.slice (some ⟨ge,oe,none⟩) n c],Value.agg #[Value.slice A1 4 c1,Value.slice A2 4 c2,Value.slice A3 4 c3,Value.slice AD n cD,Value.slice AT n cT],Value.agg #[.int .i64 xh,Value.bool false,.int .i64 0],Value.pointer (some ⟨b3,0,none⟩),Value.pointer (some ⟨b4,0,none⟩),Value.pointer (some ⟨b5,0,none⟩),Value.pointer (some ⟨b6,0,none⟩),Value.bool false,.int .i64 (i:Int),f 15,Value.pointer (some ⟨b10,0,none⟩),Value.pointer (some ⟨b5,1,none⟩),Value.bool false,undef,undef,undef,undef,undef,Value.agg #[Value.slice (some ⟨ge,oe,none⟩) n c],Value.agg #[Value.slice A1 4 c1,Value.slice A2 4 c2,Value.slice A3 4 c3,Value.slice AD n cD,Value.slice AT n cT],Value.pointer (some ⟨b5,0,none⟩),.int .i64 xh,.int .i64 (i:Int),.int .i64 (i:Int),Value.bool false,Value.bool false,Value.pointer (some ⟨b5,2,none⟩),.int .i64 0,Value.bool false,Value.bool false,undef,fo 0,fo 1,fo 2,fo 3,fo 4,fo 5,fo 6,fo 7,fo 8,Value.pointer (some ⟨b6,3,none⟩),Value.slice (some ⟨gD,0,none⟩) n dD,.int .i64 (i:Int),Value.pointer (some ⟨gD,i,none⟩),Value.pointer (some ⟨b3,0,none⟩),Value.slice (some ⟨ge,oe,none⟩) n c,.int .i64 (i:Int),Value.pointer (some ⟨ge,oe+i*4,none⟩),Value.agg #[.int .i64 ev'.h,.int .i64 1,.int .i64 ev'.a,.int .i64 ev'.n],Value.pointer (some ⟨b10,1,none⟩),.int .i64 1,Value.bool true,Value.bool true,f 10,f 0,f 1,f 2,f 3,f 4,f 5,f 6,f 7,f 8,f 9,f 11,f 12,f 13,undef,undef,undef,undef,undef,undef,undef,undef,undef,undef,undef,undef,undef,undef,undef,undef,undef,undef,undef,undef,undef,undef,undef,undef,undef,undef,undef,undef,undef,undef],[]⟩:Act)) (fun(iv:Nat) (lv:Nat->Bool) (fv:Nat->Value) (wx:World)=>match iv with|0=>fv 0=.pointer (some ⟨b6,4,none⟩)|1=>fv 1=.slice (some ⟨gT,0,none⟩) n dT|2=>fv 2=.int .i64 (i:Int)|3=>fv 3=.pointer (some ⟨b4,0,none⟩)|4=>fv 4=.agg #[.slice A1 4 c1,.slice A2 4 c2,.slice A3 4 c3]|5=>fv 5=.pointer (some ⟨b10,0,none⟩)|6=>fv 6=.int .i64 ev'.h|7=>fv 7=.pointer (some ⟨b10,2,none⟩)|8=>fv 8=.int .i64 ev'.a|9=>fv 9=.tuple #[.int .i64 (s.m.load ev'.h.toNat ev'.a.toNat),.int .i64 0]|10=>fv 10=.tuple #[.int .i64 (s.m.load ev'.h.toNat ev'.a.toNat),.int .i64 0]|11=>fv 11=.int .i64 (s.m.load ev'.h.toNat ev'.a.toNat)|12=>fv 12=.int .i64 0|13=>fv 13=.pointer (some ⟨gT,i,none⟩)|14=>True|15=>fv 15=.int .i64 0|_=>True) (fun lv wx=>Below w.heap.size w wx/\wx.heap[b4]?=some (.cells #[.slice A1 4 c1,.slice A2 4 c2,.slice A3 4 c3,.slice AD n cD,.slice AT n cT] 70)/\wx.heap[b6]?=some (.cells #[.slice A1 4 c1,.slice A2 4 c2,.slice A3 4 c3,.slice (some ⟨gD,0,none⟩) n dD,.slice (some ⟨gT,0,none⟩) n dT] 70)/\wx.heap[b10]?=some (.cells #[.int .i64 ev'.h,.int .i64 ev'.k,.int .i64 ev'.a,.int .i64 ev'.n] 44)/\OwnAt b6 4 1 n (bools (s.done.set i true)) (.slice (some ⟨gD,0,none⟩) n dD) wx/\((lv 14)=false->OwnAt b6 3 1 n (ints s.told) (.slice (some ⟨gT,0,none⟩) n dT) wx)/\((lv 14)=true->OwnAt b6 3 1 n (ints (s.told.set i (s.m.load ev'.h.toNat ev'.a.toNat))) (.slice (some ⟨gT,0,none⟩) n dT) wx)) (fun i w1 w2=>Tk (if i=14 then[3] else[]) w1 w2) (by kernel_rfl) (fun k=>match k with|15=>.int .i64 0|_=>undef) rfl ?keep ⟨bD HB3.o,H43.o,H63.o,H103.o,OD3.o,fun _=>OT3.o,fun h=>by cases h⟩ ?steps ?fin
      case keep=>
       intro iv j hij hd l f f' w1 w2 hf hR
       match j with
       |0|1|2|3|4|5|6|7|8|9|10|11|12|13|15=>exact fun h=>(hf _ (Ne.symm hij)).trans h
       |14=>intro h;have h:True:=h;show True;exact trivial
       |_+16=>exact id
      case steps=>
       refine fun iv hiv=>stepsOf_at (k:=0) (n:=16) ?_ iv (Nat.zero_le _) (by rw[Nat.zero_add];exact hiv);refine sD 0 15 aT0 [] (fun f wq l hl hun hdn hS hd K' HK=>?_) ?_
       ·clear hd;go_simp;exact HK.o _ _ _ rfl rfl (hq 0 l _ hS) (rr _)
       refine sD 1 14 aT1 [0] (fun f wq l hl hun hdn hS hd K' HK=>?_) ?_
       ·obtain⟨e0,-⟩:=hd;have e0:f 0=_:=e0;obtain⟨r0,r1,r2,r3,r4,_⟩:=cells5 hS.2.2.1;simp only[e0];go_simp;exact HK.o _ _ _ (by simp only[e0];rfl) rfl (hq 1 l _ hS) (rr _)
       refine sD 2 13 aT2 [] (fun f wq l hl hun hdn hS hd K' HK=>?_) ?_
       ·clear hd;go_simp;exact HK.o _ _ _ rfl rfl (hq 2 l _ hS) (rr _)
       refine sD 3 12 aT3 [] (fun f wq l hl hun hdn hS hd K' HK=>?_) ?_
       ·clear hd;go_simp;exact HK.o _ _ _ rfl rfl (hq 3 l _ hS) (rr _)
       refine sD 4 11 aT4 [3] (fun f wq l hl hun hdn hS hd K' HK=>?_) ?_
       ·obtain⟨e3,-⟩:=hd;have e3:f 3=_:=e3;obtain⟨r0,r1,r2,r3,r4,_⟩:=cells5 hS.2.1;simp only[e3];go_simp;exact HK.o _ _ _ (by simp only[e3];rfl) rfl (hq 4 l _ hS) (rr _)
       refine sD 5 10 aT5 [] (fun f wq l hl hun hdn hS hd K' HK=>?_) ?_
       ·clear hd;go_simp;exact HK.o _ _ _ rfl rfl (hq 5 l _ hS) (rr _)
       refine sD 6 9 aT6 [5] (fun f wq l hl hun hdn hS hd K' HK=>?_) ?_
       ·obtain⟨e5,-⟩:=hd;have e5:f 5=_:=e5;obtain⟨r0,r1,r2,r3,_⟩:=cells4 hS.2.2.2.1;simp only[e5];go_simp;exact HK.o _ _ _ (by simp only[e5];rfl) rfl (hq 6 l _ hS) (rr _)
       refine sD 7 8 aT7 [] (fun f wq l hl hun hdn hS hd K' HK=>?_) ?_
       ·clear hd;go_simp;exact HK.o _ _ _ rfl rfl (hq 7 l _ hS) (rr _)
       refine sD 8 7 aT8 [7] (fun f wq l hl hun hdn hS hd K' HK=>?_) ?_
       ·obtain⟨e7,-⟩:=hd;have e7:f 7=_:=e7;obtain⟨r0,r1,r2,r3,_⟩:=cells4 hS.2.2.2.1;simp only[e7];go_simp;exact HK.o _ _ _ (by simp only[e7];rfl) rfl (hq 8 l _ hS) (rr _)
       refine sD 9 6 aT9 [4,6,8] (fun f wq l hl hun hdn hS hd K' HK=>?_) ?_
       ·obtain⟨e4,e6,e8,-⟩:=hd;have e4:f 4=_:=e4;have e6:f 6=_:=e6;have e8:f 8=_:=e8;have HC:=Jh (ev_load HM.o HOe.o hS.1);have HS:=Jh hS;clear hS;simp only[e4,e6,e8];go_simp;go_wp2_with (go_at_call 58;refine HC.o.mono ?_;rintro e w5 ⟨rfl,hb5⟩);have hS:=HS.o;exact HK.o _ _ _ (by simp only[e4,e6,e8];rfl) rfl (hs9 l hb5 hS) (Tk.below hb5)
       refine sD 10 5 aT10 [9] (fun f wq l hl hun hdn hS hd K' HK=>?_) ?_
       ·obtain⟨e9,-⟩:=hd;have e9:f 9=_:=e9;simp only[e9];go_simp;exact HK.o _ _ _ (by simp only[e9];rfl) rfl (hq 10 l _ hS) (rr _)
       refine sD 11 4 aT11 [10] (fun f wq l hl hun hdn hS hd K' HK=>?_) ?_
       ·obtain⟨e10,-⟩:=hd;have e10:f 10=_:=e10;simp only[e10];go_simp;exact HK.o _ _ _ (by simp only[e10];rfl) rfl (hq 11 l _ hS) (rr _)
       refine sD 12 3 aT12 [10] (fun f wq l hl hun hdn hS hd K' HK=>?_) ?_
       ·obtain⟨e10,-⟩:=hd;have e10:f 10=_:=e10;simp only[e10];go_simp;exact HK.o _ _ _ (by simp only[e10];rfl) rfl (hq 12 l _ hS) (rr _)
       refine sD 13 2 aT13 [1,2] (fun f wq l hl hun hdn hS hd K' HK=>?_) ?_
       ·obtain⟨e1,e2,-⟩:=hd;have e1:f 1=_:=e1;have e2:f 2=_:=e2;simp only[e1,e2];go_simp;exact HK.o _ _ _ (by simp only[e1,e2];rfl) rfl (hq 13 l _ hS) (rr _)
       refine sD 14 1 aT14 [11,13] (fun f wq l hl hun hdn hS hd K' HK=>?_) ?_
       ·obtain⟨e11,e13,-⟩:=hd;have e11:f 11=_:=e11;have e13:f 13=_:=e13;have hot:=hS.2.2.2.2.2.1 hl;obtain⟨AT9,cT9,hA9,hcap9,hown9⟩:=hot;injection hA9 with hA9 _ hc9
        subst hA9;subst hc9;have hT1:=hown9.cellAt i (by omega);have hT2:=hown9.frozenAt i;obtain⟨ud,hud⟩:∃u,(ints s.told)[i]?=some u:=⟨_,List.getElem?_eq_getElem (by rw[hown9.1];omega)⟩;rw[hud] at hT1;have hst:=hown9.stored i (.int .i64 (s.m.load ev'.h.toNat ev'.a.toNat));have HS:=Jh hS;have HO:=Jh hst;have HCap:=Jh hcap9;clear hS hst hown9 hud hcap9;simp only[e13,e11];go_simp;have hS:=HS.o
        have htk:=tk_of_own (HS.o.2.2.2.2.2.1 hl) (i:=i) (x:=.int .i64 (s.m.load ev'.h.toNat ev'.a.toNat))
        exact HK.o undef _ _ (by simp only[e11,e13];rfl) trivial ⟨bS hS.1 (by show w.heap.size<=gT;have:=HL.o;omega),htk.at_ (by decide) hS.2.1,htk.at_ (by decide) hS.2.2.1,htk.at_ (by decide) hS.2.2.2.1,hS.2.2.2.2.1.tk htk (by decide),fun h=>by simp at h,fun _=>⟨_,_,rfl,HCap.o,by rw[show ints (s.told.set i (s.m.load ev'.h.toNat ev'.a.toNat))=(ints s.told).set i (.int .i64 (s.m.load ev'.h.toNat ev'.a.toNat)) by simp[ints]];exact HO.o.1⟩⟩ htk
       refine sD 15 0 aT15 [12,14] (fun f wq l hl hun hdn hS hd K' HK=>?_) ?_
       ·obtain⟨e12,e14,-⟩:=hd;have e12:f 12=_:=e12;have e14:True:=e14;clear e14;simp only[e12];go_simp;exact HK.o _ _ _ (by simp only[e12];rfl) rfl (hq 15 l _ hS) (rr _)
       exact trivial
      case fin=>
       intro f wz l hl hall hS;have a15:f 15=_:=hall 15 (by decide);clear hall;have h14:=hl 14 (by decide);clear hl;have HST:=Jh (show s.step ev' i=some ⟨s.m,s.done.set i true,s.told.set i (s.m.load ev'.h.toNat ev'.a.toNat)⟩ by unfold St.step;rw[if_pos hk]);have HBz:=Jh hS.1;have H6z:=Jh hS.2.2.1;have HIs:=Jh (isSt_own hS.2.2.2.2.1 (hS.2.2.2.2.2.2 h14) (HM.o.sees (Below.sees hS.1)) (HNk.o _ HST.o))
       clear hS;obtain⟨t0,t1,t2,t3,t4,f0,f1,f2,f3,f4⟩:=cells5 H6z.o;rw[a15];go_wp2_with fail;have htk:=Tk.set5 (x':=.slice A1 4 c1) (y':=.slice A2 4 c2) (z':=.slice A3 4 c3) (u':=.slice (some ⟨gD,0,none⟩) n dD) (v':=.slice (some ⟨gT,0,none⟩) n dT) H6z.o
       exact bodyPost_ret (ret70b rfl rfl (set5 H6z.o)) rfl ⟨by rw[HNx.o,HST.o];exact⟨_,rfl,HIs.o.tk htk (by decide) (by decide) (by decide) (by decide)⟩,bS (bS (bS (bS (bS HBz.o HL.o.1) HL.o.1) HL.o.1) HL.o.1) HL.o.1⟩
     ·have hk1:(ev'.k==1)=false:=by simp[hk]
      have hk2:(ev'.k==2)=true:=by simp[hk]
      have HSo:=Jh (ev_store HM.o HOe.o HB3.o (Nat.lt_of_lt_of_le (St.few HOk.o hn (getD_false HDn.o) ev'.h.toNat) (by omega)));have HST:=Jh (show s.step ev' i=some ⟨s.m.store ev'.h.toNat ev'.a ev'.n,s.done.set i true,s.told⟩ by unfold St.step;rw[if_neg (by omega),if_pos hk]);go_wp2_with fail;refine HSo.o.mono ?_;rintro e w4 ⟨⟨u1,u2,u3,rfl,hm4⟩,hb4⟩;obtain⟨E1,d1,rfl,_⟩:=hm4.ws
      obtain⟨E2,d2,ev2,rfl,_,_⟩:=hm4.ps;obtain⟨E3,d3,rfl,_⟩:=hm4.rs;have HBz:=Jh (bT HB3.o hb4);have H64:=Jh (blk_below hb4 H63.o);have HIs:=Jh (isSt_own (OD3.o.tk (T:=[]) (Tk.below hb4) (by simp)) (OT3.o.tk (T:=[]) (Tk.below hb4) (by simp)) hm4 (HNk.o _ HST.o));clear hm4 hb4 q0 q1 q2 q3 r0 r1 r2 r3 r4;obtain⟨t0,t1,t2,t3,t4,f0,f1,f2,f3,f4⟩:=cells5 H64.o;go_wp2_with fail
      obtain⟨g3,k3⟩:=set35 (x':=.slice E1 4 d1) (y':=.slice E2 4 d2) (z':=.slice E3 4 d3) H64.o;have htk:=tk_trans k3 (Tk.set5 (x':=.slice E1 4 d1) (y':=.slice E2 4 d2) (z':=.slice E3 4 d3) (u':=.slice (some ⟨gD,0,none⟩) n dD) (v':=.slice (some ⟨gT,0,none⟩) n dT) g3)
      exact bodyPost_ret (ret70b rfl rfl (set5 g3)) rfl ⟨by rw[HNx.o,HST.o];exact⟨_,rfl,HIs.o.tk htk (by decide) (by decide) (by decide) (by decide)⟩,bS (bS (bS (bS (bS (bS (bS (bS HBz.o HL.o.1) HL.o.1) HL.o.1) HL.o.1) HL.o.1) HL.o.1) HL.o.1) HL.o.1⟩
     have hk1:(ev'.k==1)=false:=by simp[hk]
     have hk2:(ev'.k==2)=false:=by simp[hk]
     have hk3:(ev'.k==3)=true:=by simp[hk]
     go_wp2_with fail;obtain⟨hN,hhN⟩:∃hN:Nat,ev'.h=hN:=⟨ev'.h.toNat,(Int.toNat_of_nonneg HOe.o.h.1).symm⟩;have hN4:hN<4:=by have:=HOe.o.h;omega
     obtain⟨p7,hp7⟩:∃p,s.m.pend[hN]?=some p:=⟨_,List.getElem?_eq_getElem (by rw[HM.o.ok.lp];exact hN4)⟩;obtain⟨A7,np,c7,g2,o2,rfl,hnp,HP7⟩:=pend_at HM.o hp7;have HhN:=Jh hhN;have Hnp:=Jh hnp;clear hhN hnp;have hhi:decide ((hN:Int)<0)=false:=by simp
     have hhj:(hN:Int)<4:=by omega
     have hb106:b10≠b6:=by omega
     have hq:∀(k:Nat) (l:Nat->Bool) (wx:World),(Below w.heap.size w wx/\wx.heap[b4]?=some (.cells #[.slice A1 4 c1,.slice (some ⟨g2,o2,none⟩) 4 c2,.slice A3 4 c3,.slice AD n cD,.slice AT n cT] 70)/\wx.heap[b6]?=some (.cells #[.slice A1 4 c1,.slice (some ⟨g2,o2,none⟩) 4 c2,.slice A3 4 c3,.slice (some ⟨gD,0,none⟩) n dD,.slice (some ⟨gT,0,none⟩) n dT] 70)/\wx.heap[b10]?=some (.cells #[.int .i64 ev'.h,.int .i64 ev'.k,.int .i64 ev'.a,.int .i64 ev'.n] 44)/\OwnAt b6 4 1 n (bools (s.done.set i true)) (.slice (some ⟨gD,0,none⟩) n dD) wx/\OwnAt b6 3 1 n (ints s.told) (.slice (some ⟨gT,0,none⟩) n dT) wx)->(Below w.heap.size w wx/\wx.heap[b4]?=some (.cells #[.slice A1 4 c1,.slice (some ⟨g2,o2,none⟩) 4 c2,.slice A3 4 c3,.slice AD n cD,.slice AT n cT] 70)/\wx.heap[b6]?=some (.cells #[.slice A1 4 c1,.slice (some ⟨g2,o2,none⟩) 4 c2,.slice A3 4 c3,.slice (some ⟨gD,0,none⟩) n dD,.slice (some ⟨gT,0,none⟩) n dT] 70)/\wx.heap[b10]?=some (.cells #[.int .i64 ev'.h,.int .i64 ev'.k,.int .i64 ev'.a,.int .i64 ev'.n] 44)/\OwnAt b6 4 1 n (bools (s.done.set i true)) (.slice (some ⟨gD,0,none⟩) n dD) wx/\OwnAt b6 3 1 n (ints s.told) (.slice (some ⟨gT,0,none⟩) n dT) wx):=fun _ _ _ h=>h
     have rr:∀{T:List TypeId} (wx:World),Tk T wx wx:=fun wx=>Tk.refl _ wx
     refine wp_region_det (by kernel_rfl) (fun f=>(⟨#[Value.agg #[Value.slice (some ⟨ge,oe,none⟩) n c],Value.agg #[Value.slice A1 4 c1,Value.slice (some ⟨g2,o2,none⟩) 4 c2,Value.slice A3 4 c3,Value.slice AD n cD,Value.slice AT n cT],Value.agg #[.int .i64 xh,Value.bool false,.int .i64 0],Value.pointer (some ⟨b3,0,none⟩),Value.pointer (some ⟨b4,0,none⟩),Value.pointer (some ⟨b5,0,none⟩),Value.pointer (some ⟨b6,0,none⟩),f 11,.int .i64 (i:Int),.int .i64 0,Value.pointer (some ⟨b10,0,none⟩),Value.pointer (some ⟨b5,1,none⟩),Value.bool false,undef,undef,undef,undef,undef,Value.agg #[Value.slice (some ⟨ge,oe,none⟩) n c],Value.agg #[Value.slice A1 4 c1,Value.slice (some ⟨g2,o2,none⟩) 4 c2,Value.slice A3 4 c3,Value.slice AD n cD,Value.slice AT n cT],Value.pointer (some ⟨b5,0,none⟩),.int .i64 xh,.int .i64 (i:Int),.int .i64 (i:Int),Value.bool false,Value.bool false,Value.pointer (some ⟨b5,2,none⟩),.int .i64 0,Value.bool false,Value.bool false,undef,fo 0,fo 1,fo 2,fo 3,fo 4,fo 5,fo 6,fo 7,fo 8,Value.pointer (some ⟨b6,3,none⟩),Value.slice (some ⟨gD,0,none⟩) n dD,.int .i64 (i:Int),Value.pointer (some ⟨gD,i,none⟩),Value.pointer (some ⟨b3,0,none⟩),Value.slice (some ⟨ge,oe,none⟩) n c,.int .i64 (i:Int),Value.pointer (some ⟨ge,oe+i*4,none⟩),Value.agg #[.int .i64 ev'.h,.int .i64 3,.int .i64 ev'.a,.int .i64 ev'.n],Value.pointer (some ⟨b10,1,none⟩),.int .i64 3,Value.bool false,Value.bool false,undef,undef,undef,undef,undef,undef,undef,undef,undef,undef,undef,undef,undef,undef,Value.bool false,Value.bool false,undef,undef,undef,undef,undef,undef,undef,undef,undef,undef,undef,undef,undef,Value.bool true,Value.bool true,f 0,f 1,f 2,f 3,f 4,f 5,f 6,f 7,f 8,f 9,undef,undef,undef],[]⟩:Act)) (fun(iv:Nat) (lv:Nat->Bool) (fv:Nat->Value) (wx:World)=>match iv with|0=>fv 0=.agg #[.slice A1 4 c1,.slice (some ⟨g2,o2,none⟩) 4 c2,.slice A3 4 c3,.slice (some ⟨gD,0,none⟩) n dD,.slice (some ⟨gT,0,none⟩) n dT]|1=>fv 1=.pointer (some ⟨b4,0,none⟩)|2=>fv 2=.pointer (some ⟨b4,1,none⟩)|3=>fv 3=.slice (some ⟨g2,o2,none⟩) 4 c2|4=>fv 4=.pointer (some ⟨b10,0,none⟩)|5=>fv 5=.int .i64 (hN:Int)|6=>fv 6=.pointer (some ⟨g2,o2+hN,none⟩)|7=>fv 7=.slice A7 np c7|8=>fv 8=.int .i64 (np:Int)|9=>fv 9=.bool ((np:Int)==0)|10=>True|11=>fv 11=.bool ((np:Int)==0)|_=>True) (fun _ wx=>Below w.heap.size w wx/\wx.heap[b4]?=some (.cells #[.slice A1 4 c1,.slice (some ⟨g2,o2,none⟩) 4 c2,.slice A3 4 c3,.slice AD n cD,.slice AT n cT] 70)/\wx.heap[b6]?=some (.cells #[.slice A1 4 c1,.slice (some ⟨g2,o2,none⟩) 4 c2,.slice A3 4 c3,.slice (some ⟨gD,0,none⟩) n dD,.slice (some ⟨gT,0,none⟩) n dT] 70)/\wx.heap[b10]?=some (.cells #[.int .i64 ev'.h,.int .i64 ev'.k,.int .i64 ev'.a,.int .i64 ev'.n] 44)/\OwnAt b6 4 1 n (bools (s.done.set i true)) (.slice (some ⟨gD,0,none⟩) n dD) wx/\OwnAt b6 3 1 n (ints s.told) (.slice (some ⟨gT,0,none⟩) n dT) wx) (fun i w1 w2=>Tk (if i=10 then[70] else[]) w1 w2) (by kernel_rfl) (fun k=>match k with|11=>Value.bool false|_=>undef) rfl ?keep ⟨bD HB3.o,H43.o,H63.o,H103.o,OD3.o,OT3.o⟩ ?steps ?fin
     case keep=>
      intro iv j hij hd l f f' w1 w2 hf hR
      match j with
      |0|1|2|3|4|5|6|7|8|9|11=>exact fun h=>(hf _ (Ne.symm hij)).trans h
      |10=>intro h;have h:True:=h;show True;exact trivial
      |_+12=>exact id
     case steps=>
      refine fun iv hiv=>stepsOf_at (k:=0) (n:=12) ?_ iv (Nat.zero_le _) (by rw[Nat.zero_add];exact hiv);refine sD 0 11 aT0 [] (fun f wq l hl hun hdn hS hd K' HK=>?_) ?_
      ·clear hd;obtain⟨r0,r1,r2,r3,r4,_⟩:=cells5 hS.2.2.1;go_simp;exact HK.o _ _ _ rfl rfl (hq 0 l _ hS) (rr _)
      refine sD 1 10 aT1 [] (fun f wq l hl hun hdn hS hd K' HK=>?_) ?_
      ·clear hd;go_simp;exact HK.o _ _ _ rfl rfl (hq 1 l _ hS) (rr _)
      refine sD 2 9 aT2 [1] (fun f wq l hl hun hdn hS hd K' HK=>?_) ?_
      ·obtain⟨e1,-⟩:=hd;have e1:f 1=_:=e1;simp only[e1];go_simp;exact HK.o _ _ _ (by simp only[e1];rfl) rfl (hq 2 l _ hS) (rr _)
      refine sD 3 8 aT3 [2] (fun f wq l hl hun hdn hS hd K' HK=>?_) ?_
      ·obtain⟨e2,-⟩:=hd;have e2:f 2=_:=e2;obtain⟨r0,r1,r2,r3,r4,_⟩:=cells5 hS.2.1;simp only[e2];go_simp;exact HK.o _ _ _ (by simp only[e2];rfl) rfl (hq 3 l _ hS) (rr _)
      refine sD 4 7 aT4 [] (fun f wq l hl hun hdn hS hd K' HK=>?_) ?_
      ·clear hd;go_simp;exact HK.o _ _ _ rfl rfl (hq 4 l _ hS) (rr _)
      refine sD 5 6 aT5 [4] (fun f wq l hl hun hdn hS hd K' HK=>?_) ?_
      ·obtain⟨e4,-⟩:=hd;have e4:f 4=_:=e4;obtain⟨r0,r1,r2,r3,_⟩:=cells4 hS.2.2.2.1;simp only[e4];go_simp;exact HK.o _ _ _ (by simp only[e4];rfl) (show Value.int .i64 ev'.h=.int .i64 (hN:Int) by rw[HhN.o]) (hq 5 l _ hS) (rr _)
      refine sD 6 5 aT6 [3,5] (fun f wq l hl hun hdn hS hd K' HK=>?_) ?_
      ·obtain⟨e3,e5,-⟩:=hd;have e3:f 3=_:=e3;have e5:f 5=_:=e5;simp only[e3,e5];go_simp;exact HK.o _ _ _ (by simp only[e3,e5];rfl) rfl (hq 6 l _ hS) (rr _)
      refine sD 7 4 aT7 [6] (fun f wq l hl hun hdn hS hd K' HK=>?_) ?_
      ·obtain⟨e6,-⟩:=hd;have e6:f 6=_:=e6;obtain⟨r9⟩:Nonempty (wq.cell? ⟨g2,o2+hN,none⟩=some (.slice A7 np c7)):=⟨HP7.o wq hS.1⟩;simp only[e6];go_simp;exact HK.o _ _ _ (by simp only[e6];rfl) rfl (hq 7 l _ hS) (rr _)
      refine sD 8 3 aT8 [7] (fun f wq l hl hun hdn hS hd K' HK=>?_) ?_
      ·obtain⟨e7,-⟩:=hd;have e7:f 7=_:=e7;simp only[e7];go_simp;exact HK.o _ _ _ (by simp only[e7];rfl) rfl (hq 8 l _ hS) (rr _)
      refine sD 9 2 aT9 [8] (fun f wq l hl hun hdn hS hd K' HK=>?_) ?_
      ·obtain⟨e8,-⟩:=hd;have e8:f 8=_:=e8;simp only[e8];go_simp;exact HK.o _ _ _ (by simp only[e8];rfl) rfl (hq 9 l _ hS) (rr _)
      refine sD 10 1 aT10 [0] (fun f wq l hl hun hdn hS hd K' HK=>?_) ?_
      ·obtain⟨e0,-⟩:=hd;have e0:f 0=_:=e0;obtain⟨r0,r1,r2,r3,r4,r5,r6,r7,r8,r9⟩:=cells5 hS.2.2.1;have HS:=Jh hS;clear hS;simp only[e0];go_simp;have hS:=HS.o;have hk:=Tk.set5 (x':=.slice A1 4 c1) (y':=.slice (some ⟨g2,o2,none⟩) 4 c2) (z':=.slice A3 4 c3) (u':=.slice (some ⟨gD,0,none⟩) n dD) (v':=.slice (some ⟨gT,0,none⟩) n dT) hS.2.2.1
       exact HK.o undef _ _ (by simp only[e0];rfl) trivial ⟨bS (bS (bS (bS (bS hS.1 HL.o.1) HL.o.1) HL.o.1) HL.o.1) HL.o.1,(other5 (Nat.ne_of_lt HL.o.2.2.1)).trans hS.2.1,set5 hS.2.2.1,(other5 hb106).trans hS.2.2.2.1,hS.2.2.2.2.1.tk hk (by decide),hS.2.2.2.2.2.tk hk (by decide)⟩ hk
      refine sD 11 0 aT11 [9,10] (fun f wq l hl hun hdn hS hd K' HK=>?_) ?_
      ·obtain⟨e9,e10,-⟩:=hd;have e9:f 9=_:=e9;have e10:True:=e10;clear e10;simp only[e9];go_simp;exact HK.o _ _ _ (by simp only[e9];rfl) rfl (hq 11 l _ hS) (rr _)
      exact trivial
     case fin=>
      intro f wz l hl hall hS;have a11:f 11=_:=hall 11 (by decide);clear hall;clear hl;have HBz:=Jh hS.1;have H6z:=Jh hS.2.2.1;have HST:=Jh (show s.step ev' i=if p7=[] then some ⟨s.m,s.done.set i true,s.told⟩ else none by unfold St.step;rw[if_neg (by omega),if_neg (by omega),HhN.o,Int.toNat_natCast,List.getD_eq_getElem?_getD,hp7];rfl)
      have HO9:=Jh (And.intro hS.2.2.2.2.1 hS.2.2.2.2.2);clear hS;obtain⟨t0,t1,t2,t3,t4,f0,f1,f2,f3,f4⟩:=cells5 H6z.o;by_cases hp0:p7=[]
      ·have h0:((np:Int)==0)=true:=by rw[Hnp.o,hp0];rfl
       rw[h0] at a11;have HIs:=Jh (isSt_own HO9.o.1 HO9.o.2 (HM.o.sees (Below.sees HBz.o)) (HNk.o _ (by rw[HST.o,if_pos hp0])));go_wp2_with fail;exact bodyPost_ret (ret70b rfl rfl H6z.o) rfl ⟨by rw[HNx.o,HST.o,if_pos hp0];exact⟨_,by rw[<-a11];rfl,HIs.o⟩,HBz.o⟩
      have h0:((np:Int)==0)=false:=by
       rw[Hnp.o];cases p7 with
       |nil=>exact absurd rfl hp0
       |cons x p=>simp;omega
      rw[h0] at a11;go_wp2_with fail;exact bodyPost_ret (ret70b rfl rfl H6z.o) rfl ⟨by rw[HNx.o,HST.o,if_neg hp0];exact⟨_,_,_,_,_,⟨_,_,_,rfl⟩,⟨_,_,_,rfl⟩,⟨_,_,_,rfl⟩,⟨_,_,_,rfl⟩,⟨_,_,_,rfl⟩,by rw[<-a11];rfl⟩,HBz.o⟩
   have HNx:=Jh (show s.next l ⟨xh,false,xw⟩=none by
    unfold St.next
    dsimp only;rw[if_neg (by decide),hd];dsimp only;rw[if_neg hw0])
   obtain⟨p0,p1,p2,_⟩:=cells3 H51.o;obtain⟨r0,r1,r2,r3,r4,_⟩:=cells5 H41.o;obtain⟨t0,t1,t2,t3,t4,f0,f1,f2,f3,f4⟩:=cells5 H61.o;have hi0:decide ((i:Int)<0)=false:=by simp
   have hne:(xw !=0)=true:=by simpa using hw0
   clear hd hev hevh hdn hw0;unfold dueV;dsimp only;go_wp2_with fail;exact bodyPost_ret (ret70b rfl rfl (set5 H61.o)) rfl ⟨by rw[HNx.o];exact⟨_,_,_,_,_,⟨_,_,_,rfl⟩,⟨_,_,_,rfl⟩,⟨_,_,_,rfl⟩,⟨_,_,_,rfl⟩,⟨_,_,_,rfl⟩,rfl⟩,bS (bS (bS (bS (bS HB1.o HL.o.1) HL.o.1) HL.o.1) HL.o.1) HL.o.1⟩
end Go.Proofs.YtnigadeohmlpiaaGreatDoor
