/- A contract: a store is put behind a hart's others. No condition of ours. -/
import Derived.Test.YtnigadeohmlpiaaGreatDoorC05
import Derived.Test.YtnigadeohmlpiaaGreatDoorC01
set_option maxHeartbeats 32000000
set_option maxRecDepth 100000
namespace Go.Proofs.YtnigadeohmlpiaaGreatDoor
open Go.RowKit
theorem two_cell{w:World}{g j:Nat}{x y u:Value}{t:TypeId}(h:w.heap[g]?=some (.cells #[x,y] t))(hu:[x,y][j]?=some u):w.cell? ⟨g,0+j,none⟩=some u:=by rw[cell_of_row w g _ _ _ _ h];simpa using hu
theorem same_slice{pv:List Value}{k n:Nat}{A A':Option Addr}{c c' m:Nat}{v:Value}(h1:pv[k]?=some (.slice A n c))(h2:pv[k]?=some v)(h3:v=.slice A' m c'):A'=A/\c'=c:=by
 rw[h1] at h2;injection h2 with h2
 rw[h3] at h2;injection h2 with a b c
 exact⟨a.symm,c.symm⟩
theorem Tk.sees{w1 w2:World}(h:Tk [] w1 w2):Sees w1 w2:=⟨h.1,fun k cur e fz _ _ _ hk=>h.2 k cur e fz (by simp) hk⟩
theorem Tk.nil{T T':List TypeId}{i n m:Nat}{w1 w2:World}(h:Tk (if i=n then T else if i=m then T' else[]) w1 w2)(h1:i≠n)(h2:i≠m):Tk [] w1 w2:=by rwa[if_neg h1,if_neg h2] at h
theorem Row.tk{T:List TypeId}{w w':World}{e:TypeId}{size n:Nat}{A:Option Addr}{xs:List Value}(h:Row w e size A n xs)(hk:Tk T w w')(he:e∉T):Row w' e size A n xs:=⟨h.1,fun hn=>by obtain⟨b,off,cur,fz,hA,hb,hc⟩:=h.2 hn;exact⟨b,off,cur,fz,hA,hk.at_ he hb,hc⟩⟩
theorem IsMem.tk{T:List TypeId}{w w':World}{v1 v2 v3:Value}{M:Mm}(h:IsMem w v1 v2 v3 M)(hk:Tk T w w')(h1:3∉T)(h2:87∉T)(h3:128∉T):IsMem w' v1 v2 v3 M:=by
 obtain⟨A1,c1,e1,r1⟩:=h.ws;obtain⟨A2,c2,pv,e2,r2,hp⟩:=h.ps;obtain⟨A3,c3,e3,r3⟩:=h.rs;refine⟨h.ok,⟨A1,c1,e1,r1.tk hk h1⟩,⟨A2,c2,pv,e2,r2.tk hk h2,fun k p hkp=>?_⟩,⟨A3,c3,e3,r3.tk hk h1⟩⟩;obtain⟨A',c',g1,g2,g3⟩:=hp k p hkp;exact⟨A',c',g1,g2,g3.tk hk h3⟩
structure StMid(B:Nat)(w:World)(x1 x3:Value)(pv:List Value)(M:Mm)(h:Nat)(p:List (Int×Int))(v:Value)(n':Nat)(a:Nat)(n:Int):Prop where
 ws:OwnAt B 3 1 4 (ints M.words) x1 w
 rs:OwnAt B 3 1 4 [.int .i64 (-1),.int .i64 (-1),.int .i64 (-1),.int .i64 (-1)] x3 w
 en:∀(k:Nat) q,k≠h->M.pend[k]?=some q->∃u,pv[k]?=some u/\OwnAt B 128 2 q.length (entCells q) u w
 nw:OwnAt B 128 2 n' (entCells p++[.int .i64 (a:Int),.int .i64 n]) v w
theorem StMid.tk{B:Nat}{w w':World}{x1 x3:Value}{pv:List Value}{M:Mm}{h:Nat}{p:List (Int×Int)}{v:Value}{n':Nat}{a:Nat}{n:Int}(hm:StMid B w x1 x3 pv M h p v n' a n)(hk:Tk [] w w'):StMid B w' x1 x3 pv M h p v n' a n:=
 ⟨hm.ws.tk hk (by simp),hm.rs.tk hk (by simp),fun k q hkh hq=>(hm.en k q hkh hq).elim fun u hu=>⟨u,hu.1,hu.2.tk hk (by simp)⟩,hm.nw.tk hk (by simp)⟩
theorem OwnMem.tk{B:Nat}{w w':World}{x1 x2 x3:Value}{pv:List Value}{M:Mm}(hm:OwnMem B w x1 x2 x3 pv M)(hk:Tk [] w w'):OwnMem B w' x1 x2 x3 pv M:=
 ⟨hm.ok,hm.ws.tk hk (by simp),hm.ps.tk hk (by simp),hm.rs.tk hk (by simp),hm.ne,fun k p hp=>(hm.en k p hp).elim fun v hv=>⟨v,hv.1,hv.2.tk hk (by simp)⟩,hm.dj⟩
theorem own_block{w:World}{base:Nat}{e:TypeId}{size n:Nat}{v:Value}{xs:List Value}{w':World}{row:Option Nat}(h:w.ownsRow base e size v n xs)(hg:w.grownBy w' row)(hne:∀g,v.ownBlock=some g->row≠some g):w'.ownsRow base e size v n xs:=by
 refine h.kept hg ?_;cases hb:v.ownBlock with
 |none=>exact .inl rfl
 |some g=>exact .inr (fun e=>hne g hb e.symm)
theorem OwnMem.mid{B:Nat}{w w':World}{x1 x2 x3:Value}{pv:List Value}{M:Mm}{h:Nat}{p:List (Int×Int)}{v:Value}{n':Nat}{a:Nat}{n:Int}{A:Option Addr}{m c:Nat}(hm:OwnMem B w x1 x2 x3 pv M)(hv:pv[h]?=some (.slice A m c))(hg:w.grownBy w' (Value.slice A m c).ownBlock)(hk:Tk [128] w w')
  (hn:OwnAt B 128 2 n' (entCells p++[.int .i64 (a:Int),.int .i64 n]) v w'):StMid B w' x1 x3 pv M h p v n' a n:=
 ⟨hm.ws.tk hk (by decide),hm.rs.tk hk (by decide),fun k q hkh hq=>by obtain⟨u,hu,A',c',rfl,hc',ho⟩:=hm.en k q hq;exact⟨_,hu,A',c',rfl,hc',own_block ho hg (fun g hg' e=>hm.dj k h g _ _ hkh hu hv hg' e)⟩,hn⟩
theorem entCells_append(p q:List (Int×Int)):entCells (p++q)=entCells p++entCells q:=by simp[entCells]
theorem OwnAt.row{b:Nat}{e:TypeId}{size n:Nat}{xs:List Value}{v:Value}{w:World}(h:OwnAt b e size n xs v w):∃A c,v=.slice A n c/\n<=c/\Row w e size A n xs:=by obtain⟨A,c,rfl,hc,ho⟩:=h;exact⟨A,c,rfl,hc,Row.of_own ho⟩
theorem StMid.fin{B:Nat}{w:World}{x1 x3:Value}{pv:List Value}{M:Mm}{h:Nat}{p:List (Int×Int)}{v:Value}{n4 cP gP:Nat}{a:Nat}{n:Int}{cur:Array Value}(hm:StMid B w x1 x3 pv M h p v (n4+1) a n)(hM:M.Ok)(hh:h<4)(ha:a<4)(hn:I32 n)(h8:n4<8)(hp:M.pend[h]?=some p)(hn4:n4=p.length)
  (hcur:cur.toList.take 4=pv/\4<=cur.size) (hg:w.heap[gP]?=some (.cells cur 87)):IsMem (w.setCell ⟨gP,h,none⟩ v) x1 (.slice (some ⟨gP,0,none⟩) 4 cP) x3 (M.store h a n):=by
 have hk:=tk_set1 (i:=h) (x:=v) hg;have hd:M.pend.getD h []=p:=by rw[List.getD_eq_getElem?_getD,hp];rfl
 obtain⟨A1,c1,e1,_,r1⟩:=(hm.ws.tk hk (by decide)).row;obtain⟨A3,c3,e3,_,r3⟩:=(hm.rs.tk hk (by decide)).row;refine⟨Mm.store_ok hM ha hn (by rw[hd];omega),⟨A1,c1,e1,r1⟩,⟨_,cP,pv.set h v,rfl,?_,fun k q hq=>?_⟩,⟨A3,c3,e3,r3⟩⟩
 ·have hl:pv.length=4:=by rw[<-hcur.1,List.length_take];have:=hcur.2;simp;omega
  refine⟨by simp[hl],fun _=>⟨gP,0,_,(0,0),rfl,set_same hg v,fun j u hu=>?_⟩⟩;rw[Nat.zero_add];have hj:j<4:=by have:=(List.getElem?_eq_some_iff.1 hu).1;simpa[hl] using this
  rw[List.getElem?_set] at hu;rw[Array.getElem?_setIfInBounds];split
  ·rename_i e;subst e;rw[if_pos rfl,if_pos (by omega)] at hu;rw[if_pos (by have:=hcur.2;omega)];exact hu
  rename_i e;rw[if_neg e] at hu;rw[<-hcur.1,List.getElem?_take,if_pos hj] at hu;simpa using hu
 by_cases e:k=h
 ·subst e;have hq':q=p++[((a:Int),n)]:=by have:(M.pend.set k (M.pend.getD k []++[((a:Int),n)]))[k]?=some q:=hq;rw[List.getElem?_set,if_pos rfl,if_pos (by have:=hM.lp;omega),hd] at this;exact(Option.some.inj this).symm
  subst hq';obtain⟨A,c,e4,hc,r⟩:=(hm.nw.tk hk (by decide)).row;have hl:pv.length=4:=by rw[<-hcur.1,List.length_take];have:=hcur.2;simp;omega
  refine⟨A,c,?_,?_,?_⟩
  ·rw[List.getElem?_set,if_pos rfl,if_pos (by omega),e4];simp[hn4]
  ·simp[<-hn4];exact hc
  rw[entCells_append];have:(p++[((a:Int),n)]).length=n4+1:=by simp[hn4]
  rw[this];exact r
 have hq':M.pend[k]?=some q:=by have:(M.pend.set h (M.pend.getD h []++[((a:Int),n)]))[k]?=some q:=hq;rwa[List.getElem?_set,if_neg (fun e'=>e e'.symm)] at this
 obtain⟨u,hu,ho⟩:=hm.en k q e hq';obtain⟨A,c,rfl,hc,r⟩:=(ho.tk hk (by decide)).row;exact⟨A,c,by rw[List.getElem?_set,if_neg (fun e'=>e e'.symm)];exact hu,hc,r⟩
theorem store_any(v1 v2 v3:Value)(M:Mm)(ht a:Nat)(n:Int)(w:World)(hm:IsMem w v1 v2 v3 M)(hh:ht<4)(ha:a<4)(hn:I32 n)(hl:(M.pend.getD ht []).length<8):
  Calls Tryz.prog 59 #[.agg #[v1,v2,v3],.int .i64 ht,.int .i64 a,.int .i64 n] w fun e w'=>(∃u1 u2 u3,e=.returned (.tuple #[.agg #[u1,u2,u3],.int .i64 0])/\IsMem w' u1 u2 u3 (M.store ht a n))/\Below w.heap.size w w':=by
 obtain⟨A1,c1,rfl,hr1⟩:=hm.ws;obtain⟨A2,c2,p0,rfl,hr2,hp⟩:=hm.ps;obtain⟨A3,c3,rfl,hr3⟩:=hm.rs;have HM:=Jh hm;obtain⟨p,hpk⟩:∃p,M.pend[ht]?=some p:=⟨_,List.getElem?_eq_getElem (by rw[hm.ok.lp];exact hh)⟩;have hp8:p.length<8:=by rw[List.getD_eq_getElem?_getD,hpk] at hl;exact hl
 obtain⟨A4,c4,he4,hc4,hr4⟩:=hp ht p hpk;obtain⟨n4,hn4⟩:=exE (p.length);rw[<-hn4] at hp8 hr4 he4 hc4;have HPk:=Jh hpk;have HN4:=Jh hn4;have HR4:=Jh hr4;have hbx:=heap_alloc_new w (.cells #[.slice A1 4 c1,.slice A2 4 c2,.slice A3 4 c3] 59);obtain⟨b4,hb4⟩:=exE (w.heap.size);obtain⟨b8,hb8⟩:=exE (b4+1)
 obtain⟨W0,hW0⟩:=exE ((w.alloc (.cells #[.slice A1 4 c1,.slice A2 4 c2,.slice A3 4 c3] 59)).alloc (.cells #[.slice none 0 0,.slice none 0 0,.slice none 0 0] 59));have hb0:Below w.heap.size w W0:=hW0▸bA (bA (bR w));have h4:W0.heap[b4]?=some (.cells #[.slice A1 4 c1,.slice A2 4 c2,.slice A3 4 c3] 59):=by rw[hW0,hb4];exact blk_below (bA (bR _)) hbx
 have h8:W0.heap[b8]?=some (.cells #[.slice none 0 0,.slice none 0 0,.slice none 0 0] 59):=by have:=heap_alloc_new (w.alloc (.cells #[.slice A1 4 c1,.slice A2 4 c2,.slice A3 4 c3] 59)) (.cells #[.slice none 0 0,.slice none 0 0,.slice none 0 0] 59);rw[World.size_alloc] at this;rw[hW0,hb8,hb4];exact this
 have h8b:decide (8<=(n4:Int))=false:=by simp;omega
 have HB0:=Jh hb0;have H4:=Jh h4;have H8:=Jh h8;have HL4:=Jh (Nat.le_of_eq hb4.symm);have HL8:=Jh (show w.heap.size<=b8 by omega);obtain⟨ba,off,u,hA2,hu,hcell⟩:=(hr2.below hb0).rd.at1 hh;rw[he4] at hu;injection hu with hu
 subst hu;subst hA2;have HR2:=Jh hr2;have HE4:=Jh he4;have hhas:=has_any A1 (some ⟨ba,off,none⟩) A3 c1 c2 c3 ht a;have htt:((decide (0<=(ht:Int))&&decide ((ht:Int)<4))&&(decide (0<=(a:Int))&&decide ((a:Int)<4)))=true:=by simp;omega
 rw[htt] at hhas;have HH:=Jh hhas;have HOf:=Jh (fun wx hx=>of_any (.slice A1 4 c1) (.slice (some ⟨ba,off,none⟩) 4 c2) (.slice A3 4 c3) M wx hx);have HNn:=Jh hn;have hi4:(ht:Int)<4:=by omega
 clear hm hl hr1 hr2 hr3 hp hpk he4 hr4 hn4 hbx hb0 h4 h8 hcell hhas htt hn;obtain⟨r0,r1,r2,_⟩:=cells3 H4.o;go_enter Tryz.func59,Tryz.ntmps59;go_wp2_with fail;rw[<-hb4,<-hb8,<-hW0];clear hb4 hb8 hW0;refine(HH.o _).mono ?_;rintro e w1 ⟨rfl,hb1⟩;have HB1:=Jh (bT HB0.o hb1);clear r0 r1 r2;obtain⟨r0,r1,r2,_⟩:=cells3 (blk_below hb1 H4.o);have H41:=Jh (blk_below hb1 H4.o)
 have H81:=Jh (blk_below hb1 H8.o);clear hb1;obtain⟨ba',off',u,hA2,hu,hcell⟩:=(HR2.o.below HB1.o).rd.at1 hh;rw[HE4.o] at hu;injection hu with hu
 subst hu;injection hA2 with hA2
 injection hA2 with e1 e2 _
 subst e1;subst e2;go_wp2_with fail;refine(HOf.o _ (HM.o.sees (Below.sees HB1.o))).mono ?_;rintro e w2 ⟨⟨bx,x1,x2,x3,pv,rfl,hbx,hblk,hown⟩,hb2⟩;clear r0 r1 r2 hcell;go_wp2_with fail;obtain⟨AP,cP,rfl,hcP4,how⟩:=hown.ps;obtain⟨gP,hgP,hgBP,_⟩:=own_some how (by decide);rcases how.2 with⟨_,h0⟩|⟨gP',cap,cur,e,_,hcg,hcn,_,hcs,hct⟩
 ·omega
 injection e with e1 _ e3
 subst e1;subst e3;obtain rfl:gP'=gP:=by simpa[Value.ownBlock] using hgP
 obtain⟨B,hBd⟩:=exE (w1.heap.size);rw[<-hBd] at hown hgBP;have HBB:=Jh (show w.heap.size<=B from hBd▸HB1.o.size);have HgP:=Jh (show B<gP' from hgBP);obtain⟨v9,hv9,A9,c9,rfl,hc9,_⟩:=hown.en ht p HPk.o;rw[<-HN4.o] at hv9;have HV9:=Jh hv9;have HCur:=Jh (show cur.toList.take 4=pv/\4<=cur.size from⟨by simpa using hct,by omega⟩)
 have HC9:=Jh (show cur[ht]?=some (.slice A9 n4 c9) by have:=hv9;rw[<-HCur.o.1,List.getElem?_take,if_pos hh] at this;simpa using this);have HOK:=Jh hown.ok
 have hS0:=Jh (show Below w.heap.size w w2.drew/\w2.drew.heap[bx]?=some (.cells #[x1,.slice (some ⟨gP',0,none⟩) 4 cP,x3] 140)/\w2.drew.heap[b8]?=some (.cells #[.slice none 0 0,.slice none 0 0,.slice none 0 0] 59)/\(false=false->OwnMem B w2.drew x1 (.slice (some ⟨gP',0,none⟩) 4 cP) x3 pv M)/\(false=false->w2.drew.heap[gP']?=some (.cells cur 87)) from
  ⟨bD (bT HB1.o hb2),hblk,blk_below hb2 H81.o,fun _=>hown.tk ⟨Nat.le_refl _,fun _ _ _ _ _ h=>h⟩,fun _=>hcg⟩)
 clear hgP hgBP how hcg hcn hcs hct hBd hv9 hown hblk hbx hb2 HH HOf H4 H8 H41 H81 HR2 HR4 HE4 HM HB0 HB1 HL4
 have hq:∀(k9:Nat),k9≠19->k9≠21->∀(l:Nat->Bool) (wx:World),(Below w.heap.size w wx/\wx.heap[bx]?=some (.cells #[x1,.slice (some ⟨gP',0,none⟩) 4 cP,x3] 140)/\wx.heap[b8]?=some (.cells #[.slice none 0 0,.slice none 0 0,.slice none 0 0] 59)/\(l 19=false->OwnMem B wx x1 (.slice (some ⟨gP',0,none⟩) 4 cP) x3 pv M)/\(l 21=false->wx.heap[gP']?=some (.cells cur 87)))->(Below w.heap.size w wx/\wx.heap[bx]?=some (.cells #[x1,.slice (some ⟨gP',0,none⟩) 4 cP,x3] 140)/\wx.heap[b8]?=some (.cells #[.slice none 0 0,.slice none 0 0,.slice none 0 0] 59)/\((decide (19=k9)||l 19)=false->OwnMem B wx x1 (.slice (some ⟨gP',0,none⟩) 4 cP) x3 pv M)/\((decide (21=k9)||l 21)=false->wx.heap[gP']?=some (.cells cur 87))):=fun k9 h1 h2 l wx h=>⟨h.1,h.2.1,h.2.2.1,fun hl=>h.2.2.2.1 (by simpa[Ne.symm h1] using hl),fun hl=>h.2.2.2.2 (by simpa[Ne.symm h2] using hl)⟩
 have rr:∀{T:List TypeId} (wx:World),Tk T wx wx:=fun wx=>Tk.refl _ wx;have rb:∀{T:List TypeId} {w1 w2:World},Below w1.heap.size w1 w2->Tk T w1 w2:=fun h=>Tk.below h;have nt19:∀{i:Nat} (e:TypeId),i≠19->e≠87->e∉(if i=19 then[128] else if i=21 then[87] else[]:List TypeId):=fun e h1 h2=>by
  rw[if_neg h1];split
  ·simpa using h2
  simp
 refine wp_region_det (by kernel_rfl) (fun f=>(⟨#[Value.agg #[Value.slice A1 4 c1,Value.slice (some ⟨ba,off,none⟩) 4 c2,Value.slice A3 4 c3],.int .i64 (ht:Int),.int .i64 (a:Int),.int .i64 n,Value.pointer (some ⟨b4,0,none⟩),undef,undef,undef,Value.pointer (some ⟨b8,0,none⟩),.int .i64 0,Value.pointer (some ⟨bx,0,none⟩),Value.bool false,Value.agg #[Value.slice A1 4 c1,Value.slice (some ⟨ba,off,none⟩) 4 c2,Value.slice A3 4 c3],.int .i64 (ht:Int),.int .i64 (a:Int),Value.bool true,Value.bool false,undef,Value.bool false,Value.pointer (some ⟨b4,1,none⟩),Value.slice (some ⟨ba,off,none⟩) 4 c2,.int .i64 (ht:Int),Value.pointer (some ⟨ba,off+ht,none⟩),Value.slice A4 n4 c4,.int .i64 (n4:Int),Value.bool false,undef,Value.agg #[Value.slice A1 4 c1,Value.slice (some ⟨ba,off,none⟩) 4 c2,Value.slice A3 4 c3],Value.pointer (some ⟨bx,0,none⟩),f 0,f 1,f 2,f 3,f 4,f 5,f 6,f 7,f 8,f 9,f 10,f 11,f 12,f 13,f 14,f 15,f 16,f 17,f 18,f 19,f 20,undef,undef,undef,undef],[]⟩:Act)) (fun(i:Nat) (lv:Nat->Bool) (fv:Nat->Value) (wx:World)=>match i with|0=>fv 0=.pointer (some ⟨bx,0,none⟩)|1=>fv 1=.pointer (some ⟨bx,0,none⟩)|2=>fv 2=.pointer (some ⟨bx,0,none⟩)|3=>fv 3=.pointer (some ⟨bx,1,none⟩)|4=>fv 4=.slice (some ⟨gP',0,none⟩) 4 cP|5=>fv 5=.int .i64 (ht:Int)|6=>fv 6=.pointer (some ⟨bx,0,none⟩)|7=>fv 7=.pointer (some ⟨bx,0,none⟩)|8=>fv 8=.pointer (some ⟨bx,0,none⟩)|9=>fv 9=.pointer (some ⟨bx,1,none⟩)|10=>fv 10=.slice (some ⟨gP',0,none⟩) 4 cP|11=>fv 11=.int .i64 (ht:Int)|12=>fv 12=.pointer (some ⟨gP',ht,none⟩)|13=>fv 13=.slice A9 n4 c9|14=>fv 14=.int .i64 (a:Int)|15=>fv 15=.int .i64 n|16=>fv 16=.int .i64 n|17=>fv 17=.agg #[.int .i64 (a:Int),.int .i64 n]|18=>∃g,(fv 18)=.slice (some ⟨g,0,none⟩) 1 1/\((lv 19)=false->wx.heap[g]?=some (.cells #[.int .i64 (a:Int),.int .i64 n] 128))|19=>∃A c,(fv 19)=.slice A (n4+1) c/\n4+1<=c/\((lv 21)=false->StMid B wx x1 x3 pv M ht p (.slice A (n4+1) c) (n4+1) a n)|20=>fv 20=.pointer (some ⟨gP',ht,none⟩)|21=>IsMem wx x1 (.slice (some ⟨gP',0,none⟩) 4 cP) x3 (M.store ht a n)|_=>True) (fun lv wx=>Below w.heap.size w wx/\wx.heap[bx]?=some (.cells #[x1,.slice (some ⟨gP',0,none⟩) 4 cP,x3] 140)/\wx.heap[b8]?=some (.cells #[.slice none 0 0,.slice none 0 0,.slice none 0 0] 59)/\((lv 19)=false->OwnMem B wx x1 (.slice (some ⟨gP',0,none⟩) 4 cP) x3 pv M)/\((lv 21)=false->wx.heap[gP']?=some (.cells cur 87))) (fun i w1 w2=>Tk (if i=19 then[128] else if i=21 then[87] else[]) w1 w2) (by kernel_rfl) (fun k=>match k with|_=>undef) rfl ?keep hS0.o ?steps ?fin
 case keep=>
  intro i j hij hd l f f' w1 w2 hf hR
  match j with
  |0|1|2|3|4|5|6|7|8|9|10|11|12|13|14|15|16|17|20=>exact fun h=>(hf _ (Ne.symm hij)).trans h
  |18=>
   intro h;have h:∃g,(f 18)=.slice (some ⟨g,0,none⟩) 1 1/\((l 19)=false->w1.heap[g]?=some (.cells #[.int .i64 (a:Int),.int .i64 n] 128)):=h;show∃g,(f' 18)=.slice (some ⟨g,0,none⟩) 1 1/\((decide (19=i)||l 19)=false->w2.heap[g]?=some (.cells #[.int .i64 (a:Int),.int .i64 n] 128));rw[hf 18 (Ne.symm hij)];exact h.elim fun g h=>⟨g,h.1,fun hl=>by
   simp only[Bool.or_eq_false_iff,decide_eq_false_iff_not] at hl;exact hR.at_ (nt19 128 (fun e=>hl.1 e.symm) (by decide)) (h.2 hl.2)⟩
  |19=>
   intro h;have h:∃A c,(f 19)=.slice A (n4+1) c/\n4+1<=c/\((l 21)=false->StMid B w1 x1 x3 pv M ht p (.slice A (n4+1) c) (n4+1) a n):=h;show∃A c,(f' 19)=.slice A (n4+1) c/\n4+1<=c/\((decide (21=i)||l 21)=false->StMid B w2 x1 x3 pv M ht p (.slice A (n4+1) c) (n4+1) a n);rw[hf 19 (Ne.symm hij)];exact h.elim fun A h=>h.elim fun c h=>⟨A,c,h.1,h.2.1,fun hl=>by
   simp only[Bool.or_eq_false_iff,decide_eq_false_iff_not] at hl;exact(h.2.2 hl.2).tk (hR.nil (fun e=>hij e) (fun e=>hl.1 e.symm))⟩
  |21=>intro h;have h:IsMem w1 x1 (.slice (some ⟨gP',0,none⟩) 4 cP) x3 (M.store ht a n):=h;show IsMem w2 x1 (.slice (some ⟨gP',0,none⟩) 4 cP) x3 (M.store ht a n);exact h.sees (Tk.sees (hR.nil (fun e=>hd (by subst e;exact of_decide_eq_true (by kernel_rfl))) hij))
  |_+22=>exact id
 case steps=>
  refine fun i hi=>stepsOf_at (k:=0) (n:=22) ?_ i (Nat.zero_le _) (by rw[Nat.zero_add];exact hi);refine sD 0 21 aT0 [] (fun f wq l hl hun hdn hS hd K' HK=>?_) ?_
  ·clear hd;go_simp;exact HK.o _ _ _ rfl rfl (hq 0 (by decide) (by decide) l _ hS) (rr _)
  refine sD 1 20 aT1 [0] (fun f wq l hl hun hdn hS hd K' HK=>?_) ?_
  ·obtain⟨e0,-⟩:=hd;have e0:f 0=_:=e0;simp only[e0];go_simp;exact HK.o _ _ _ (by simp only[e0];rfl) rfl (hq 1 (by decide) (by decide) l _ hS) (rr _)
  refine sD 2 19 aT2 [1] (fun f wq l hl hun hdn hS hd K' HK=>?_) ?_
  ·obtain⟨e1,-⟩:=hd;have e1:f 1=_:=e1;simp only[e1];go_simp;exact HK.o _ _ _ (by simp only[e1];rfl) rfl (hq 2 (by decide) (by decide) l _ hS) (rr _)
  refine sD 3 18 aT3 [2] (fun f wq l hl hun hdn hS hd K' HK=>?_) ?_
  ·obtain⟨e2,-⟩:=hd;have e2:f 2=_:=e2;simp only[e2];go_simp;exact HK.o _ _ _ (by simp only[e2];rfl) rfl (hq 3 (by decide) (by decide) l _ hS) (rr _)
  refine sD 4 17 aT4 [3] (fun f wq l hl hun hdn hS hd K' HK=>?_) ?_
  ·obtain⟨e3,-⟩:=hd;have e3:f 3=_:=e3;obtain⟨r0,r1,r2,_⟩:=cells3 hS.2.1;simp only[e3];go_simp;exact HK.o _ _ _ (by simp only[e3];rfl) rfl (hq 4 (by decide) (by decide) l _ hS) (rr _)
  refine sD 5 16 aT5 [] (fun f wq l hl hun hdn hS hd K' HK=>?_) ?_
  ·clear hd;go_simp;exact HK.o _ _ _ rfl rfl (hq 5 (by decide) (by decide) l _ hS) (rr _)
  refine sD 6 15 aT6 [] (fun f wq l hl hun hdn hS hd K' HK=>?_) ?_
  ·clear hd;go_simp;exact HK.o _ _ _ rfl rfl (hq 6 (by decide) (by decide) l _ hS) (rr _)
  refine sD 7 14 aT7 [6] (fun f wq l hl hun hdn hS hd K' HK=>?_) ?_
  ·obtain⟨e6,-⟩:=hd;have e6:f 6=_:=e6;simp only[e6];go_simp;exact HK.o _ _ _ (by simp only[e6];rfl) rfl (hq 7 (by decide) (by decide) l _ hS) (rr _)
  refine sD 8 13 aT8 [7] (fun f wq l hl hun hdn hS hd K' HK=>?_) ?_
  ·obtain⟨e7,-⟩:=hd;have e7:f 7=_:=e7;simp only[e7];go_simp;exact HK.o _ _ _ (by simp only[e7];rfl) rfl (hq 8 (by decide) (by decide) l _ hS) (rr _)
  refine sD 9 12 aT9 [8] (fun f wq l hl hun hdn hS hd K' HK=>?_) ?_
  ·obtain⟨e8,-⟩:=hd;have e8:f 8=_:=e8;simp only[e8];go_simp;exact HK.o _ _ _ (by simp only[e8];rfl) rfl (hq 9 (by decide) (by decide) l _ hS) (rr _)
  refine sD 10 11 aT10 [9] (fun f wq l hl hun hdn hS hd K' HK=>?_) ?_
  ·obtain⟨e9,-⟩:=hd;have e9:f 9=_:=e9;obtain⟨r0,r1,r2,_⟩:=cells3 hS.2.1;simp only[e9];go_simp;exact HK.o _ _ _ (by simp only[e9];rfl) rfl (hq 10 (by decide) (by decide) l _ hS) (rr _)
  refine sD 11 10 aT11 [] (fun f wq l hl hun hdn hS hd K' HK=>?_) ?_
  ·clear hd;go_simp;exact HK.o _ _ _ rfl rfl (hq 11 (by decide) (by decide) l _ hS) (rr _)
  refine sD 12 9 aT12 [10,11] (fun f wq l hl hun hdn hS hd K' HK=>?_) ?_
  ·obtain⟨e10,e11,-⟩:=hd;have e10:f 10=_:=e10;have e11:f 11=_:=e11;simp only[e10,e11];go_simp;exact HK.o _ _ _ (by simp only[e10,e11];rfl) rfl (hq 12 (by decide) (by decide) l _ hS) (rr _)
  refine sD 13 8 aT13 [12] (fun f wq l hl hun hdn hS hd K' HK=>?_) ?_
  ·obtain⟨e12,-⟩:=hd;have e12:f 12=_:=e12;have r9:=(cell_of_row wq gP' ht _ _ _ (hS.2.2.2.2 (hun 21 (of_decide_eq_true (by kernel_rfl))))).trans HC9.o;simp only[e12];go_simp;exact HK.o _ _ _ (by simp only[e12];rfl) rfl (hq 13 (by decide) (by decide) l _ hS) (rr _)
  refine sD 14 7 aT14 [] (fun f wq l hl hun hdn hS hd K' HK=>?_) ?_
  ·clear hd;go_simp;exact HK.o _ _ _ rfl rfl (hq 14 (by decide) (by decide) l _ hS) (rr _)
  refine sD 15 6 aT15 [] (fun f wq l hl hun hdn hS hd K' HK=>?_) ?_
  ·clear hd;go_simp;exact HK.o _ _ _ rfl rfl (hq 15 (by decide) (by decide) l _ hS) (rr _)
  refine sD 16 5 aT16 [15] (fun f wq l hl hun hdn hS hd K' HK=>?_) ?_
  ·obtain⟨e15,-⟩:=hd;have e15:f 15=_:=e15;have HW:=Jh (wrap_any n HNn.o wq);simp only[e15];go_simp;go_wp2_with (go_at_call 90;refine HW.o.mono ?_;rintro e wW ⟨rfl,rfl⟩);exact HK.o _ _ _ (by simp only[e15];rfl) rfl (hq 16 (by decide) (by decide) l _ hS) (rr _)
  refine sD 17 4 aT17 [14,16] (fun f wq l hl hun hdn hS hd K' HK=>?_) ?_
  ·obtain⟨e14,e16,-⟩:=hd;have e14:f 14=_:=e14;have e16:f 16=_:=e16;simp only[e14,e16];go_simp;exact HK.o _ _ _ (by simp only[e14,e16];rfl) rfl (hq 17 (by decide) (by decide) l _ hS) (rr _)
  refine sD 18 3 aT18 [17] (fun f wq l hl hun hdn hS hd K' HK=>?_) ?_
  ·obtain⟨e17,-⟩:=hd;have e17:f 17=_:=e17;simp only[e17];have HS:=Jh hS;clear hS;go_simp;have hS:=HS.o
   exact HK.o _ _ _ (by simp only[e17];rfl) ⟨_,rfl,fun _=>heap_alloc_new wq _⟩ ⟨bA hS.1,Tk.at_ (Tk.below (T:=[]) (bA (bR wq))) (by decide) hS.2.1,Tk.at_ (Tk.below (T:=[]) (bA (bR wq))) (by decide) hS.2.2.1,fun hl=>(hS.2.2.2.1 (by simpa using hl)).tk (Tk.below (T:=[]) (bA (bR wq))),fun hl=>Tk.at_ (Tk.below (T:=[]) (bA (bR wq))) (by decide) (hS.2.2.2.2 (by simpa using hl))⟩ (rb (bA (bR wq)))
  refine sD 19 2 aT19 [13,18] (fun f wq l hl hun hdn hS hd K' HK=>?_) ?_
  ·obtain⟨e13,e18,-⟩:=hd;have e13:f 13=_:=e13;have e18:∃g,(f 18)=.slice (some ⟨g,0,none⟩) 1 1/\((l 19)=false->wq.heap[g]?=some (.cells #[.int .i64 (a:Int),.int .i64 n] 128)):=e18;obtain⟨g,hv18,hg⟩:=e18;have hg:=hg hl;have hom:=hS.2.2.2.1 hl;obtain⟨v9,hv9,A9b,c9b,e9b,hc9b,how⟩:=hom.en ht p HPk.o;obtain⟨ea,ec⟩:=same_slice HV9.o hv9 (HN4.o▸e9b);rw[ea,ec,<-HN4.o] at how
   obtain⟨i0,hi0,hz0,hz1,hz2⟩:=info_parts ent_info;rw[if_pos (by rfl)]
   refine wp_append_rd _ _ _ 87 rfl (B+1) 128 i0 _ 2 16 Tryz.underlying87 hi0 hz0 hz1 hz2 rfl (by decide) (.slice A9 n4 c9) n4 (entCells p) (by simp only[e13];rfl) how (some ⟨g,0,none⟩) 1 1 [.int .i64 (a:Int),.int .i64 n] (by simp only[hv18];rfl) ⟨rfl,fun _=>⟨g,0,rfl,blk_lt hg,fun j u hu=>two_cell hg hu⟩⟩ (by simp[Value.oneCell']) (by unfold maxLen;omega) (by omega) (own_at_lt hom.ws (by decide)) ?_
   intro v10 w10 hown10 hg10;obtain⟨A10,c10,rfl,hc10,_⟩:=own_slice hown10;have htk:=tk_grown how hg10
   exact HK.o.out _ _ _ rfl ⟨A10,c10,rfl,hc10,fun _=>hom.mid HV9.o hg10 htk ⟨A10,c10,rfl,hc10,hown10⟩⟩ ⟨hS.1.grown hg10 hS.1.size (fun j hj=>by have:=(how.lt j hj).1;have:=HBB.o;omega),Tk.at_ htk (by decide) hS.2.1,Tk.at_ htk (by decide) hS.2.2.1,fun hl=>absurd hl (by simp),fun hl=>Tk.at_ htk (by decide) (hS.2.2.2.2 (by simpa using hl))⟩ htk
  refine sD 20 1 aT20 [4,5] (fun f wq l hl hun hdn hS hd K' HK=>?_) ?_
  ·obtain⟨e4,e5,-⟩:=hd;have e4:f 4=_:=e4;have e5:f 5=_:=e5;simp only[e4,e5];go_simp;exact HK.o _ _ _ (by simp only[e4,e5];rfl) rfl (hq 20 (by decide) (by decide) l _ hS) (rr _)
  refine sD 21 0 aT21 [19,20] (fun f wq l hl hun hdn hS hd K' HK=>?_) ?_
  ·obtain⟨e19,e20,-⟩:=hd;have e19:∃A c,(f 19)=.slice A (n4+1) c/\n4+1<=c/\((l 21)=false->StMid B wq x1 x3 pv M ht p (.slice A (n4+1) c) (n4+1) a n):=e19;have e20:f 20=_:=e20;obtain⟨A10,c10,hv19,hc10,hmid⟩:=e19;have hmid:=hmid hl;have hblk:=hS.2.2.2.2 hl;have r9:=(cell_of_row wq gP' ht _ _ _ hblk).trans HC9.o;have r8:=not_frozen (i:=ht) hblk;have HG:=Jh hblk;have HS:=Jh hS;have HMid:=Jh hmid
   clear hS hblk hmid;simp only[e20,hv19];go_simp;have hS:=HS.o
   exact HK.o undef _ _ (by simp only[hv19,e20];rfl) (HMid.o.fin HOK.o hh ha HNn.o hp8 HPk.o HN4.o HCur.o HG.o) ⟨bS hS.1 (by have:=HgP.o;have:=HBB.o;show w.heap.size<=gP';omega),Tk.at_ (tk_set1 HG.o) (by decide) hS.2.1,Tk.at_ (tk_set1 HG.o) (by decide) hS.2.2.1,fun hl=>absurd ((show(decide (19=21)||l 19)=true by rw[hdn 19 (of_decide_eq_true (by kernel_rfl))];rfl).symm.trans hl) (by decide),fun hl=>absurd hl (by simp)⟩ (tk_set1 HG.o)
  exact trivial
 case fin=>
  intro f wz l hl hall hS;have a18:∃g,(f 18)=.slice (some ⟨g,0,none⟩) 1 1/\((l 19)=false->wz.heap[g]?=some (.cells #[.int .i64 (a:Int),.int .i64 n] 128)):=hall 18 (by decide);have a19:∃A c,(f 19)=.slice A (n4+1) c/\n4+1<=c/\((l 21)=false->StMid B wz x1 x3 pv M ht p (.slice A (n4+1) c) (n4+1) a n):=hall 19 (by decide)
  have a21:IsMem wz x1 (.slice (some ⟨gP',0,none⟩) 4 cP) x3 (M.store ht a n):=hall 21 (by decide);clear hall;obtain⟨g18,hv18,_⟩:=a18;obtain⟨A19,c19,hv19,_,_⟩:=a19;simp only[hv18,hv19];have HI:=Jh a21;have HS:=Jh hS;clear a21 hv18 hv19 hS hq rr rb nt19 hl;obtain⟨X1,d1,e1,_⟩:=HI.o.ws;obtain⟨X3,d3,e3,_⟩:=HI.o.rs;subst e1;subst e3;obtain⟨r0,r1,r2,r3,r4,r5⟩:=cells3 HS.o.2.1
  obtain⟨s0,s1,s2,s3,s4,s5⟩:=cells3 HS.o.2.2.1;go_wp2_with fail;exact bodyPost_ret (ret59 rfl rfl (set3 HS.o.2.2.1)) rfl ⟨⟨_,_,_,rfl,HI.o.tk (Tk.set3 HS.o.2.2.1) (by decide) (by decide) (by decide)⟩,bS (bS (bS HS.o.1 HL8.o) HL8.o) HL8.o⟩
end Go.Proofs.YtnigadeohmlpiaaGreatDoor
