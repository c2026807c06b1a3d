/- Contracts and words: A state in memory, and the contract of the first one; a hart's next event; the state behind a drain; what a state's loads told. No condition of ours. -/
import Derived.Test.YtnigadeohmlpiaaGreatDoorC08
import Derived.Test.YtnigadeohmlpiaaGreatDoorC01
set_option maxHeartbeats 32000000
set_option maxRecDepth 100000
namespace Go.Proofs.YtnigadeohmlpiaaGreatDoor
open Go.RowKit
attribute [local go_sem] Oper.semAt_some
def bools(l:List Bool):List Value:=l.map Value.bool
def evCells(l:List Ev):List Value:=l.flatMap fun x=>[.int .i64 x.h,.int .i64 x.k,.int .i64 x.a,.int .i64 x.n]
structure IsSt(w:World)(v:Value)(n:Nat)(s:St):Prop where
 ok:s.Ok n
 is:∃v1 v2 v3 A2 c2 A3 c3,v=.agg #[v1,v2,v3,.slice A2 n c2,.slice A3 n c3]/\IsMem w v1 v2 v3 s.m/\Row w 4 1 A2 n (bools s.done)/\Row w 3 1 A3 n (ints s.told)/\n<=c2/\n<=c3
theorem IsSt.sees{w w':World}{v:Value}{n:Nat}{s:St}(h:IsSt w v n s)(hs:Sees w w'):IsSt w' v n s:=by obtain⟨v1,v2,v3,A2,c2,A3,c3,e,h1,h2,h3,h4⟩:=h.is;exact⟨h.ok,v1,v2,v3,A2,c2,A3,c3,e,h1.sees hs,h2.sees hs (by decide) (by decide) (by decide),h3.sees hs (by decide) (by decide) (by decide),h4⟩
def evOut:List TypeId:=[3,4,5,22,27,30,31,32,36,50,56,57,59,62,70,82,85,87,121,128,144]
def EvRow(w:World)(A:Option Addr)(n:Nat)(xs:List Value):Prop:=∃e,e∉evOut/\Row w e 4 A n xs
theorem EvRow.rd{w:World}{A:Option Addr}{n:Nat}{xs:List Value}(h:EvRow w A n xs):Rd w 4 A n xs:=h.elim fun _ r=>r.2.rd
theorem EvRow.tk{T:List TypeId}{w w':World}{A:Option Addr}{n:Nat}{xs:List Value}(h:EvRow w A n xs)(hk:Tk T w w')(hT:∀t∈T,t∈evOut):EvRow w' A n xs:=h.elim fun e r=>⟨e,r.1,r.2.tk hk fun he=>r.1 (hT e he)⟩
theorem EvRow.sees{w w':World}{A:Option Addr}{n:Nat}{xs:List Value}(h:EvRow w A n xs)(hs:Sees w w'):EvRow w' A n xs:=h.elim fun e r=>⟨e,r.1,r.2.sees hs (fun he=>r.1 (by rw[he];decide)) (fun he=>r.1 (by rw[he];decide)) (fun he=>r.1 (by rw[he];decide))⟩
structure IsEvs(w:World)(A:Option Addr)(n c:Nat)(l:List Ev):Prop where
 len:l.length=n
 cap:n<=c
 row:EvRow w A n (evCells l)
theorem IsEvs.sees{w w':World}{A:Option Addr}{n c:Nat}{l:List Ev}(h:IsEvs w A n c l)(hs:Sees w w'):IsEvs w' A n c l:=⟨h.len,h.cap,h.row.sees hs⟩
theorem cells5{w:World}{b:Nat}{x y z u v:Value}{t:TypeId}(h:w.heap[b]?=some (.cells #[x,y,z,u,v] t)):
  w.cell? ⟨b,0,none⟩=some x/\w.cell? ⟨b,1,none⟩=some y/\w.cell? ⟨b,2,none⟩=some z/\w.cell? ⟨b,3,none⟩=some u/\w.cell? ⟨b,4,none⟩=some v/\
  w.frozen? ⟨b,0,none⟩=false/\w.frozen? ⟨b,1,none⟩=false/\w.frozen? ⟨b,2,none⟩=false/\w.frozen? ⟨b,3,none⟩=false/\w.frozen? ⟨b,4,none⟩=false:=
 ⟨by rw[cell_of_row w b 0 _ _ _ h];rfl,by rw[cell_of_row w b 1 _ _ _ h];rfl,by rw[cell_of_row w b 2 _ _ _ h];rfl,by rw[cell_of_row w b 3 _ _ _ h];rfl,by rw[cell_of_row w b 4 _ _ _ h];rfl,not_frozen h,not_frozen h,not_frozen h,not_frozen h,not_frozen h⟩
theorem set5{w:World}{b:Nat}{x y z u v x' y' z' u' v':Value}{t:TypeId}(h:w.heap[b]?=some (.cells #[x,y,z,u,v] t)):
  (((((w.setCell ⟨b,0,none⟩ x').setCell ⟨b,1,none⟩ y').setCell ⟨b,2,none⟩ z').setCell ⟨b,3,none⟩ u').setCell ⟨b,4,none⟩ v').heap[b]?=some (.cells #[x',y',z',u',v'] t):=
 set_same (set_same (set_same (set_same (set_same h x') y') z') u') v'
theorem tk_trans{T:List TypeId}{a b c:World}(h:Tk T a b)(k:Tk T b c):Tk T a c:=⟨Nat.le_trans h.1 k.1,fun i cur e fz he hi=>k.2 i cur e fz he (h.2 i cur e fz he hi)⟩
theorem Tk.set5{w:World}{g:Nat}{x y z u v x' y' z' u' v':Value}{t:TypeId}(h:w.heap[g]?=some (.cells #[x,y,z,u,v] t)):
  Tk [t] w (((((w.setCell ⟨g,0,none⟩ x').setCell ⟨g,1,none⟩ y').setCell ⟨g,2,none⟩ z').setCell ⟨g,3,none⟩ u').setCell ⟨g,4,none⟩ v'):=by
 have h1:=set_same (i:=0) h x';have h2:=set_same (i:=1) h1 y';have h3:=set_same (i:=2) h2 z';have h4:=set_same (i:=3) h3 u';exact tk_trans (tk_trans (tk_trans (tk_trans (tk_set1 h) (tk_set1 h1)) (tk_set1 h2)) (tk_set1 h3)) (tk_set1 h4)
theorem ret70{fn:Func}{p:Tmp}{tmps:Array Value}{w:World}{b:Nat}{x y z u v:Value}(hfn:fn.results=#[.cell p 70])(hp:tmps.getD p undef=.pointer (some ⟨b,0,none⟩))
  (h:w.heap[b]?=some (.cells #[x,y,z,u,v] 70)):(results fn tmps).run Tryz.prog w=.ok (.agg #[x,y,z,u,v]) w:=by
 rw[results_cell1 hfn,hp];obtain⟨h0,h1,h2,h3,h4,_⟩:=cells5 h;simp[go_sem,h0,h1,h2,h3,h4]
theorem make_n_bools(n:Nat)(hn:n<=6)(w:World):(Instr.makeSlice 60 (.int .i64 (n:Int)) (.int .i64 (n:Int))).run Tryz.prog w=.ok (.slice (some ⟨w.heap.size,0,none⟩) n n) (w.alloc (.cells (bools (List.replicate n false)).toArray 4)):=by
 obtain rfl|rfl|rfl|rfl|rfl|rfl|rfl:n=0\/n=1\/n=2\/n=3\/n=4\/n=5\/n=6:=by omega
 all_goals kernel_rfl
theorem make_n_ints(n:Nat)(hn:n<=6)(w:World):(Instr.makeSlice 32 (.int .i64 (n:Int)) (.int .i64 (n:Int))).run Tryz.prog w=.ok (.slice (some ⟨w.heap.size,0,none⟩) n n) (w.alloc (.cells (ints (List.replicate n 0)).toArray 3)):=by
 obtain rfl|rfl|rfl|rfl|rfl|rfl|rfl:n=0\/n=1\/n=2\/n=3\/n=4\/n=5\/n=6:=by omega
 all_goals kernel_rfl
def RowN(b:Nat)(e:TypeId)(n:Nat)(xs:List Value)(v:Value)(w:World):Prop:=∃g,v=.slice (some ⟨g,0,none⟩) n n/\b<g/\w.heap[g]?=some (.cells xs.toArray e)
theorem RowN.tk{T:List TypeId}{b:Nat}{e:TypeId}{n:Nat}{xs:List Value}{v:Value}{w1 w2:World}(h:RowN b e n xs v w1)(hk:Tk T w1 w2)(he:e∉T):RowN b e n xs v w2:=by obtain⟨g,h1,h2,h3⟩:=h;exact⟨g,h1,h2,hk.at_ he h3⟩
theorem RowN.row{b:Nat}{e:TypeId}{n:Nat}{xs:List Value}{v:Value}{w:World}(h:RowN b e n xs v w)(hn:xs.length=n):∃A,v=.slice A n n/\Row w e 1 A n xs:=by obtain⟨g,rfl,_,hg⟩:=h;exact⟨_,rfl,by omega,fun _=>⟨g,0,xs.toArray,(0,0),rfl,hg,fun j u hu=>by simpa using hu⟩⟩
theorem first_any(A:Option Addr)(n c:Nat)(w:World)(hn:n<=6):
  Calls Tryz.prog 31 #[.agg #[.slice A n c]] w fun e w'=>(∃v,e=.returned v/\IsSt w' v n (St.first n))/\Below w.heap.size w w':=by
 obtain⟨b1,hb1⟩:=exE (w.heap.size);obtain⟨b2,hb2⟩:=exE (b1+1);obtain⟨X1,hX1⟩:=exE (w.alloc (.cells #[.slice A n c] 68));obtain⟨W0,hW0⟩:=exE (X1.alloc (.cells #[.slice none 0 0,.slice none 0 0,.slice none 0 0,.slice none 0 0,.slice none 0 0] 70));have s1:X1.heap.size=b1+1:=by rw[hX1,World.size_alloc,hb1]
 have k1:Below X1.heap.size X1 W0:=hW0▸bA (bR X1);have HB0:=Jh (show Below w.heap.size w W0 from bT (hX1▸bA (bR w)) k1);have H1:=Jh (show W0.heap[b1]?=some (.cells #[.slice A n c] 68) from blk_below k1 (by rw[hX1,hb1];exact heap_alloc_new w _))
 have H2:=Jh (show W0.heap[b2]?=some (.cells #[.slice none 0 0,.slice none 0 0,.slice none 0 0,.slice none 0 0,.slice none 0 0] 70) by rw[hW0,hb2,<-s1];exact heap_alloc_new X1 _);have HL:=Jh (show w.heap.size<=b2 by omega);have hWW:W0=(w.alloc (.cells #[.slice A n c] 68)).alloc (.cells #[.slice none 0 0,.slice none 0 0,.slice none 0 0,.slice none 0 0,.slice none 0 0] 70):=by rw[hW0,hX1]
 have HNw:=Jh (new_any W0);clear hX1 hW0 s1 k1;go_enter Tryz.func31,Tryz.ntmps31;go_wp2_with fail;rw[<-hb1,<-hb2,<-hWW];clear hb1 hb2 hWW;refine HNw.o.mono ?_;rintro e w1 ⟨⟨v1,v2,v3,rfl,him⟩,hbw⟩;obtain⟨A1,c1,rfl,hr1⟩:=him.ws;obtain⟨A2,c2,pv,rfl,hr2,hp⟩:=him.ps;obtain⟨A3,c3,rfl,hr3⟩:=him.rs;have HM:=Jh him;have HB1:=Jh (bT HB0.o hbw);have H11:=Jh (blk_below hbw H1.o)
 have H21:=Jh (blk_below hbw H2.o);clear him hr1 hr2 hr3 hp hbw;go_wp2_with fail;obtain⟨b3,hb3⟩:=exE (w1.heap.size);obtain⟨W2,hW2⟩:=exE (w1.alloc (.cells #[.slice A1 4 c1,.slice A2 4 c2,.slice A3 4 c3] 59));have hb12:Below w1.heap.size w1 W2:=hW2▸bA (bR w1);rw[<-hb3,<-hW2];have HB2:=Jh (bT HB1.o hb12);have H12:=Jh (blk_below hb12 H11.o);have H22:=Jh (blk_below hb12 H21.o)
 have H32:=Jh (show W2.heap[b3]?=some (.cells #[.slice A1 4 c1,.slice A2 4 c2,.slice A3 4 c3] 59) by rw[hW2,hb3];exact heap_alloc_new w1 _);have HM2:=Jh (HM.o.sees (Below.sees hb12));clear hb12 hb3 hW2
 have hq:∀(k:Nat) (l:Nat->Bool) (wx:World),(Below w.heap.size w wx/\wx.heap[b1]?=some (.cells #[.slice A n c] 68)/\(∃x y z u v,wx.heap[b2]?=some (.cells #[x,y,z,u,v] 70))/\wx.heap[b3]?=some (.cells #[.slice A1 4 c1,.slice A2 4 c2,.slice A3 4 c3] 59)/\IsMem wx (.slice A1 4 c1) (.slice A2 4 c2) (.slice A3 4 c3) Mm.zero)->(Below w.heap.size w wx/\wx.heap[b1]?=some (.cells #[.slice A n c] 68)/\(∃x y z u v,wx.heap[b2]?=some (.cells #[x,y,z,u,v] 70))/\wx.heap[b3]?=some (.cells #[.slice A1 4 c1,.slice A2 4 c2,.slice A3 4 c3] 59)/\IsMem wx (.slice A1 4 c1) (.slice A2 4 c2) (.slice A3 4 c3) Mm.zero):=fun _ _ _ h=>h
 have rr:∀{T:List TypeId} (wx:World),Tk T wx wx:=fun wx=>Tk.refl _ wx;have tn4:∀(i:Nat),4∉(if i=10 then[70] else[]:List TypeId):=fun i=>by split<;>decide
 have tn3:∀(i:Nat),3∉(if i=10 then[70] else[]:List TypeId):=fun i=>by split<;>decide
 have lt2:∀{wx:World},(Below w.heap.size w wx/\wx.heap[b1]?=some (.cells #[.slice A n c] 68)/\(∃x y z u v,wx.heap[b2]?=some (.cells #[x,y,z,u,v] 70))/\wx.heap[b3]?=some (.cells #[.slice A1 4 c1,.slice A2 4 c2,.slice A3 4 c3] 59)/\IsMem wx (.slice A1 4 c1) (.slice A2 4 c2) (.slice A3 4 c3) Mm.zero)->b2<wx.heap.size:=fun⟨_,_,⟨_,_,_,_,_,h⟩,_⟩=>blk_lt h
 have ss:∀{wx w2:World},Below wx.heap.size wx w2->(Below w.heap.size w wx/\wx.heap[b1]?=some (.cells #[.slice A n c] 68)/\(∃x y z u v,wx.heap[b2]?=some (.cells #[x,y,z,u,v] 70))/\wx.heap[b3]?=some (.cells #[.slice A1 4 c1,.slice A2 4 c2,.slice A3 4 c3] 59)/\IsMem wx (.slice A1 4 c1) (.slice A2 4 c2) (.slice A3 4 c3) Mm.zero)->(Below w.heap.size w w2/\w2.heap[b1]?=some (.cells #[.slice A n c] 68)/\(∃x y z u v,w2.heap[b2]?=some (.cells #[x,y,z,u,v] 70))/\w2.heap[b3]?=some (.cells #[.slice A1 4 c1,.slice A2 4 c2,.slice A3 4 c3] 59)/\IsMem w2 (.slice A1 4 c1) (.slice A2 4 c2) (.slice A3 4 c3) Mm.zero):=fun h ⟨h1,h2,⟨x,y,z,u,v,h3⟩,h4,h5⟩=>⟨bT h1 h,blk_below h h2,⟨x,y,z,u,v,blk_below h h3⟩,blk_below h h4,h5.sees (Below.sees h)⟩
 refine wp_region_det (by kernel_rfl) (fun f=>(⟨#[Value.agg #[Value.slice A n c],Value.pointer (some ⟨b1,0,none⟩),Value.pointer (some ⟨b2,0,none⟩),Value.pointer (some ⟨b3,0,none⟩),.int .i64 0,Value.tuple #[Value.agg #[Value.slice A1 4 c1,Value.slice A2 4 c2,Value.slice A3 4 c3],.int .i64 0],Value.tuple #[Value.agg #[Value.slice A1 4 c1,Value.slice A2 4 c2,Value.slice A3 4 c3],.int .i64 0],Value.agg #[Value.slice A1 4 c1,Value.slice A2 4 c2,Value.slice A3 4 c3],.int .i64 0,f 0,f 1,f 2,f 3,f 4,f 5,f 6,f 7,f 8,f 9],[]⟩:Act)) (fun(i:Nat) (lv:Nat->Bool) (fv:Nat->Value) (wx:World)=>match i with|0=>fv 0=.agg #[.slice A1 4 c1,.slice A2 4 c2,.slice A3 4 c3]|1=>fv 1=.pointer (some ⟨b1,0,none⟩)|2=>fv 2=.slice A n c|3=>fv 3=.int .i64 (n:Int)|4=>RowN b2 4 n (bools (List.replicate n false)) (fv 4) wx|5=>fv 5=.pointer (some ⟨b1,0,none⟩)|6=>fv 6=.slice A n c|7=>fv 7=.int .i64 (n:Int)|8=>RowN b2 3 n (ints (List.replicate n 0)) (fv 8) wx|9=>∃d t,(fv 9)=.agg #[.slice A1 4 c1,.slice A2 4 c2,.slice A3 4 c3,d,t]/\RowN b2 4 n (bools (List.replicate n false)) d wx/\RowN b2 3 n (ints (List.replicate n 0)) t wx|10=>∃d t,wx.heap[b2]?=some (.cells #[.slice A1 4 c1,.slice A2 4 c2,.slice A3 4 c3,d,t] 70)/\RowN b2 4 n (bools (List.replicate n false)) d wx/\RowN b2 3 n (ints (List.replicate n 0)) t wx|_=>True) (fun _ wx=>Below w.heap.size w wx/\wx.heap[b1]?=some (.cells #[.slice A n c] 68)/\(∃x y z u v,wx.heap[b2]?=some (.cells #[x,y,z,u,v] 70))/\wx.heap[b3]?=some (.cells #[.slice A1 4 c1,.slice A2 4 c2,.slice A3 4 c3] 59)/\IsMem wx (.slice A1 4 c1) (.slice A2 4 c2) (.slice A3 4 c3) Mm.zero) (fun i w1 w2=>Tk (if i=10 then[70] else[]) w1 w2) (by kernel_rfl) (fun k=>match k with|_=>undef) rfl ?keep ⟨bD HB2.o,H12.o,⟨_,_,_,_,_,H22.o⟩,H32.o,HM2.o.sees (Below.sees (bD (bR W2)))⟩ ?steps ?fin
 case keep=>
  intro i j hij hd l f f' w1 w2 hf hR
  match j with
  |0|1|2|3|5|6|7=>exact fun h=>(hf _ (Ne.symm hij)).trans h
  |4=>intro h;have h:RowN b2 4 n (bools (List.replicate n false)) (f 4) w1:=h;show RowN b2 4 n (bools (List.replicate n false)) (f' 4) w2;rw[hf 4 (Ne.symm hij)];exact h.tk hR (tn4 _)
  |8=>intro h;have h:RowN b2 3 n (ints (List.replicate n 0)) (f 8) w1:=h;show RowN b2 3 n (ints (List.replicate n 0)) (f' 8) w2;rw[hf 8 (Ne.symm hij)];exact h.tk hR (tn3 _)
  |9=>
   intro h;have h:∃d t,(f 9)=.agg #[.slice A1 4 c1,.slice A2 4 c2,.slice A3 4 c3,d,t]/\RowN b2 4 n (bools (List.replicate n false)) d w1/\RowN b2 3 n (ints (List.replicate n 0)) t w1:=h;show∃d t,(f' 9)=.agg #[.slice A1 4 c1,.slice A2 4 c2,.slice A3 4 c3,d,t]/\RowN b2 4 n (bools (List.replicate n false)) d w2/\RowN b2 3 n (ints (List.replicate n 0)) t w2;rw[hf 9 (Ne.symm hij)]
   exact h.elim fun d h=>h.elim fun t h=>⟨d,t,h.1,h.2.1.tk hR (tn4 _),h.2.2.tk hR (tn3 _)⟩
  |10=>
   intro h;have h:∃d t,w1.heap[b2]?=some (.cells #[.slice A1 4 c1,.slice A2 4 c2,.slice A3 4 c3,d,t] 70)/\RowN b2 4 n (bools (List.replicate n false)) d w1/\RowN b2 3 n (ints (List.replicate n 0)) t w1:=h;show∃d t,w2.heap[b2]?=some (.cells #[.slice A1 4 c1,.slice A2 4 c2,.slice A3 4 c3,d,t] 70)/\RowN b2 4 n (bools (List.replicate n false)) d w2/\RowN b2 3 n (ints (List.replicate n 0)) t w2
   exact h.elim fun d h=>h.elim fun t h=>⟨d,t,Tk.at_ hR (by rw[if_neg (fun e=>hij e)];decide) h.1,h.2.1.tk hR (tn4 _),h.2.2.tk hR (tn3 _)⟩
  |_+11=>exact id
 case steps=>
  refine fun i hi=>stepsOf_at (k:=0) (n:=11) ?_ i (Nat.zero_le _) (by rw[Nat.zero_add];exact hi);refine sD 0 10 aT0 [] (fun f wq l hl hun hdn hS hd K' HK=>?_) ?_
  ·clear hd;obtain⟨r0,r1,r2,_⟩:=cells3 hS.2.2.2.1;go_simp;exact HK.o _ _ _ rfl rfl (hq 0 l _ hS) (rr _)
  refine sD 1 9 aT1 [] (fun f wq l hl hun hdn hS hd K' HK=>?_) ?_
  ·clear hd;go_simp;exact HK.o _ _ _ rfl rfl (hq 1 l _ hS) (rr _)
  refine sD 2 8 aT2 [1] (fun f wq l hl hun hdn hS hd K' HK=>?_) ?_
  ·obtain⟨e1,-⟩:=hd;have e1:f 1=_:=e1;obtain⟨r0,_⟩:=cell1 hS.2.1;simp only[e1];go_simp;exact HK.o _ _ _ (by simp only[e1];rfl) rfl (hq 2 l _ hS) (rr _)
  refine sD 3 7 aT3 [2] (fun f wq l hl hun hdn hS hd K' HK=>?_) ?_
  ·obtain⟨e2,-⟩:=hd;have e2:f 2=_:=e2;simp only[e2];go_simp;exact HK.o _ _ _ (by simp only[e2];rfl) rfl (hq 3 l _ hS) (rr _)
  refine sD 4 6 aT4 [3] (fun f wq l hl hun hdn hS hd K' HK=>?_) ?_
  ·obtain⟨e3,-⟩:=hd;have e3:f 3=_:=e3;simp only[e3];have hmk:=make_n_bools n hn;go_simp;exact HK.o _ _ _ (by simp only[e3];rfl) ⟨_,rfl,lt2 hS,heap_alloc_new wq _⟩ (ss (bA (bR wq)) hS) (Tk.below (bA (bR wq)))
  refine sD 5 5 aT5 [] (fun f wq l hl hun hdn hS hd K' HK=>?_) ?_
  ·clear hd;go_simp;exact HK.o _ _ _ rfl rfl (hq 5 l _ hS) (rr _)
  refine sD 6 4 aT6 [5] (fun f wq l hl hun hdn hS hd K' HK=>?_) ?_
  ·obtain⟨e5,-⟩:=hd;have e5:f 5=_:=e5;obtain⟨r0,_⟩:=cell1 hS.2.1;simp only[e5];go_simp;exact HK.o _ _ _ (by simp only[e5];rfl) rfl (hq 6 l _ hS) (rr _)
  refine sD 7 3 aT7 [6] (fun f wq l hl hun hdn hS hd K' HK=>?_) ?_
  ·obtain⟨e6,-⟩:=hd;have e6:f 6=_:=e6;simp only[e6];go_simp;exact HK.o _ _ _ (by simp only[e6];rfl) rfl (hq 7 l _ hS) (rr _)
  refine sD 8 2 aT8 [7] (fun f wq l hl hun hdn hS hd K' HK=>?_) ?_
  ·obtain⟨e7,-⟩:=hd;have e7:f 7=_:=e7;simp only[e7];have hmk:=make_n_ints n hn;go_simp;exact HK.o _ _ _ (by simp only[e7];rfl) ⟨_,rfl,lt2 hS,heap_alloc_new wq _⟩ (ss (bA (bR wq)) hS) (Tk.below (bA (bR wq)))
  refine sD 9 1 aT9 [0,4,8] (fun f wq l hl hun hdn hS hd K' HK=>?_) ?_
  ·obtain⟨e0,e4,e8,-⟩:=hd;have e0:f 0=_:=e0;have e4:RowN b2 4 n (bools (List.replicate n false)) (f 4) wq:=e4;have e8:RowN b2 3 n (ints (List.replicate n 0)) (f 8) wq:=e8;obtain⟨g1,h1⟩:=e4;obtain⟨g2,h2⟩:=e8;simp only[e0,h1.1,h2.1];go_simp;exact HK.o _ _ _ (by simp only[e0,h1.1,h2.1];rfl) ⟨_,_,rfl,⟨g1,rfl,h1.2⟩,⟨g2,rfl,h2.2⟩⟩ (hq 9 l _ hS) (rr _)
  refine sD 10 0 aT10 [9] (fun f wq l hl hun hdn hS hd K' HK=>?_) ?_
  ·obtain⟨e9,-⟩:=hd;have e9:∃d t,(f 9)=.agg #[.slice A1 4 c1,.slice A2 4 c2,.slice A3 4 c3,d,t]/\RowN b2 4 n (bools (List.replicate n false)) d wq/\RowN b2 3 n (ints (List.replicate n 0)) t wq:=e9;obtain⟨d,t,h9,m1,m2⟩:=e9;obtain⟨x,y,z,u,v,hx⟩:=hS.2.2.1;obtain⟨r0,r1,r2,r3,r4,r5,r6,r7,r8,r9⟩:=cells5 hx;obtain⟨g1,rfl,p1⟩:=m1;obtain⟨g2,rfl,p2⟩:=m2;have HX:=Jh hx
   have HM1:=Jh (show RowN b2 4 n (bools (List.replicate n false)) _ wq from⟨g1,rfl,p1⟩);have HM2:=Jh (show RowN b2 3 n (ints (List.replicate n 0)) _ wq from⟨g2,rfl,p2⟩);have HS:=Jh hS;clear hx p1 p2 hS;simp only[h9];go_simp;have hk:=Tk.set5 (x':=.slice A1 4 c1) (y':=.slice A2 4 c2) (z':=.slice A3 4 c3) (u':=.slice (some ⟨g1,0,none⟩) n n) (v':=.slice (some ⟨g2,0,none⟩) n n) HX.o
   exact HK.o undef _ _ (by simp only[h9];rfl) ⟨_,_,set5 HX.o,HM1.o.tk hk (by decide),HM2.o.tk hk (by decide)⟩ ⟨bS (bS (bS (bS (bS HS.o.1 HL.o) HL.o) HL.o) HL.o) HL.o,hk.at_ (by decide) HS.o.2.1,⟨_,_,_,_,_,set5 HX.o⟩,hk.at_ (by decide) HS.o.2.2.2.1,HS.o.2.2.2.2.tk hk (by decide) (by decide) (by decide)⟩ hk
  exact trivial
 case fin=>
  intro f wz l hl hall hS;have a10:∃d t,wz.heap[b2]?=some (.cells #[.slice A1 4 c1,.slice A2 4 c2,.slice A3 4 c3,d,t] 70)/\RowN b2 4 n (bools (List.replicate n false)) d wz/\RowN b2 3 n (ints (List.replicate n 0)) t wz:=hall 10 (by decide);clear hall;obtain⟨d,t,h10,m1,m2⟩:=a10;have HM:=Jh hS.2.2.2.2;have HBz:=Jh hS.1;obtain⟨AD,rfl,rD⟩:=m1.row (by simp[bools])
  obtain⟨AT,rfl,rT⟩:=m2.row (by simp[ints]);have RD:=Jh rD;have RT:=Jh rT;clear m1 m2 rD rT hS;go_wp2_with fail;exact bodyPost_ret (ret70 rfl rfl h10) rfl ⟨⟨_,rfl,St.first_ok n,_,_,_,_,_,_,_,rfl,HM.o,RD.o,RT.o,Nat.le_refl _,Nat.le_refl _⟩,HBz.o⟩
end Go.Proofs.YtnigadeohmlpiaaGreatDoor
namespace Go.Proofs.YtnigadeohmlpiaaGreatDoor
open Go.RowKit
attribute [local go_sem] Oper.semAt_some
theorem ev_len:∀l:List Ev,(evCells l).length=l.length*4
 |[]=>rfl
 |x::l=>by have:=ev_len l;simp only[evCells,List.flatMap_cons,List.length_append,List.length_cons,List.length_nil] at*;omega
theorem ev_at:∀(l:List Ev) (k:Nat) (e:Ev),l[k]?=some e->(evCells l)[k*4]?=some (.int .i64 e.h)/\(evCells l)[k*4+1]?=some (.int .i64 e.k)/\(evCells l)[k*4+2]?=some (.int .i64 e.a)/\(evCells l)[k*4+3]?=some (.int .i64 e.n)
 |[],k,e,h=>by simp at h
 |x::l,0,e,h=>by
  have:x=e:=by simpa using h
  subst this;simp[evCells]
 |x::l,k+1,e,h=>by
  obtain⟨h1,h2,h3,h4⟩:=ev_at l k e (by simpa using h);have hc:evCells (x::l)=[.int .i64 x.h,.int .i64 x.k,.int .i64 x.a,.int .i64 x.n]++evCells l:=rfl;rw[hc];rw[show(k+1)*4=k*4+4 by omega];refine⟨?_,?_,?_,?_⟩
  ·rw[List.getElem?_append_right (by simp)];simpa using h1
  ·rw[List.getElem?_append_right (by simp),show k*4+4+1-[Value.int .i64 x.h,.int .i64 x.k,.int .i64 x.a,.int .i64 x.n].length=k*4+1 by simp];exact h2
  ·rw[List.getElem?_append_right (by simp),show k*4+4+2-[Value.int .i64 x.h,.int .i64 x.k,.int .i64 x.a,.int .i64 x.n].length=k*4+2 by simp];exact h3
  rw[List.getElem?_append_right (by simp),show k*4+4+3-[Value.int .i64 x.h,.int .i64 x.k,.int .i64 x.a,.int .i64 x.n].length=k*4+3 by simp];exact h4
theorem IsEvs.at_{w:World}{A:Option Addr}{n c k:Nat}{l:List Ev}(h:IsEvs w A n c l)(hk:k<n):
  ∃b off e,A=some ⟨b,off,none⟩/\l[k]?=some e/\w.cell? ⟨b,off+k*4,none⟩=some (.int .i64 e.h)/\w.cell? ⟨b,off+k*4+1,none⟩=some (.int .i64 e.k)/\w.cell? ⟨b,off+k*4+2,none⟩=some (.int .i64 e.a)/\w.cell? ⟨b,off+k*4+3,none⟩=some (.int .i64 e.n):=by
 obtain⟨b,off,e,_,hc⟩:=h.row.rd.2 (by omega);have hl:k<l.length:=by have:=h.len;omega
 have hx:l[k]?=some l[k]:=List.getElem?_eq_getElem hl;obtain⟨h1,h2,h3,h4⟩:=ev_at l k _ hx;exact⟨b,off,_,e,hx,hc _ _ h1,hc _ _ h2,hc _ _ h3,hc _ _ h4⟩
theorem Row.bool{w:World}{A:Option Addr}{n k:Nat}{L:List Bool}(h:Row w 4 1 A n (bools L))(hk:k<n):∃b off u,A=some ⟨b,off,none⟩/\L[k]?=some u/\w.cell? ⟨b,off+k,none⟩=some (.bool u):=by
 obtain⟨b,off,v,e,hv,hc⟩:=h.rd.at1 hk;obtain⟨u,hu,rfl⟩:∃u,L[k]?=some u/\Value.bool u=v:=by simpa[bools,List.getElem?_map] using hv
 exact⟨b,off,u,e,hu,hc⟩
theorem Row.int{w:World}{A:Option Addr}{n k:Nat}{L:List Int}(h:Row w 3 1 A n (ints L))(hk:k<n):∃b off u,A=some ⟨b,off,none⟩/\L[k]?=some u/\w.cell? ⟨b,off+k,none⟩=some (.int .i64 u):=by
 obtain⟨b,off,v,e,hv,hc⟩:=h.rd.at1 hk;obtain⟨u,hu,rfl⟩:∃u,L[k]?=some u/\Value.int .i64 u=v:=by simpa[ints,List.getElem?_map] using hv
 exact⟨b,off,u,e,hu,hc⟩
def dueV:Option Nat->Int
 |some i=>(i:Int)
 |none=>-1
theorem due_any(A:Option Addr)(n c:Nat)(l:List Ev)(v:Value)(s:St)(h:Int)(w:World)(hn:n<=6)(he:IsEvs w A n c l)(hs:IsSt w v n s):
  Calls Tryz.prog 55 #[.agg #[.slice A n c],v,.int .i64 h] w fun e w'=>e=.returned (.int .i64 (dueV (s.due l h)))/\Below w.heap.size w w':=by
 obtain⟨v1,v2,v3,AD,cD,AT,cT,rfl,him,hrd,hrt,hcD,hcT⟩:=hs.is;obtain⟨A1,c1,rfl,_⟩:=him.ws;obtain⟨A2,c2,pv,rfl,_,_⟩:=him.ps;obtain⟨A3,c3,rfl,_⟩:=him.rs;have HE:=Jh he;have HD:=Jh hrd;obtain⟨b3,hb3⟩:=exE (w.heap.size);obtain⟨b4,hb4⟩:=exE (b3+1);obtain⟨X1,hX1⟩:=exE (w.alloc (.cells #[.slice A n c] 68))
 obtain⟨W0,hW0⟩:=exE (X1.alloc (.cells #[.slice A1 4 c1,.slice A2 4 c2,.slice A3 4 c3,.slice AD n cD,.slice AT n cT] 70));have s1:X1.heap.size=b3+1:=by rw[hX1,World.size_alloc,hb3]
 have k1:Below X1.heap.size X1 W0:=hW0▸bA (bR X1);have HB0:=Jh (show Below w.heap.size w W0 from bT (hX1▸bA (bR w)) k1);have H3:=Jh (show W0.heap[b3]?=some (.cells #[.slice A n c] 68) from blk_below k1 (by rw[hX1,hb3];exact heap_alloc_new w _))
 have H4:=Jh (show W0.heap[b4]?=some (.cells #[.slice A1 4 c1,.slice A2 4 c2,.slice A3 4 c3,.slice AD n cD,.slice AT n cT] 70) by rw[hW0,hb4,<-s1];exact heap_alloc_new X1 _);have hWW:W0=(w.alloc (.cells #[.slice A n c] 68)).alloc (.cells #[.slice A1 4 c1,.slice A2 4 c2,.slice A3 4 c3,.slice AD n cD,.slice AT n cT] 70):=by rw[hW0,hX1]
 clear hX1 hW0 s1 k1 he hs him hrd hrt;go_enter Tryz.func55,Tryz.ntmps55;go_wp2_with fail;rw[<-hb3,<-hb4,<-hWW];clear hb3 hb4 hWW;go_loopw [12] (fun x wr=>∃k:Nat,k<=n/\x=.int .i64 k/\(∀j,j<k->s.at_ l h j=false)/\Below w.heap.size w wr/\Below W0.heap.size W0 wr) (fun x _=>n-(intOf x).toNat);case atStart=>exact⟨0,by omega,rfl,fun j hj=>absurd hj (by omega),HB0.o,bR W0⟩
 case round=>
  obtain⟨k,hk,rfl,hall,hbw,hbw0⟩:=hrel;have HA:=Jh hall;have HBW:=Jh hbw;have HBW0:=Jh hbw0;clear hall hbw hbw0;by_cases hlt:k<n
  ·obtain⟨g,off,x,hA,hx,hc0,hc1,hc2,hc3⟩:=(HE.o.sees (Below.sees HBW.o)).at_ hlt;obtain⟨gd,offd,u,hAD,hu,hcd⟩:=(HD.o.below HBW.o).bool hlt;have HX:=Jh hx;have HU:=Jh hu;have H4w:=Jh (blk_below HBW0.o H4.o);have hlb:decide ((k:Int)<(n:Int))=true:=by simp;omega
   have hat:s.at_ l h k=((x.h==h)&&(u==false)):=by unfold St.at_;rw[HX.o,List.getD_eq_getElem?_getD,HU.o];rfl
   have HAT:=Jh hat;obtain⟨xh,hxh⟩:=exE (x.h);rw[<-hxh] at hc0 HAT;clear hx hu hat hxh;subst hA;subst hAD;by_cases hxa:xh=h
   ·subst hxa;have hbn:Below wr.heap.size wr (wr.alloc (.cells #[.int .i64 xh,.int .i64 x.k,.int .i64 x.a,.int .i64 x.n] 44)):=bA (bR wr);have hcd':=(hbn.cell (p:=⟨gd,offd+k,none⟩) (cell_lt hcd)).trans hcd;obtain⟨_,_,_,r3,_⟩:=cells5 (blk_below hbn H4w.o);cases u
    ·have HF:=Jh (show dueV (s.due l xh)=(k:Int) by rw[show s.due l xh=some k from find_range_some (by have:=HE.o.len;omega) (by rw[HAT.o];simp) HA.o];rfl);go_wp2_with fail;go_ret;exact⟨ret_int HF.o.symm,bA HBW.o⟩
    have HN:=Jh (show∀j,j<k+1->s.at_ l xh j=false from fun j hj=>by
     rcases Nat.lt_or_ge j k with h1|h1
     ·exact HA.o j h1
     rw[show j=k by omega,HAT.o];simp)
    go_wp2_with fail;go_roundw;case rel=>exact⟨k+1,by omega,by go_num,HN.o,bA HBW.o,bA HBW0.o⟩
    case measure=>simp[intOf];omega
   have hxb:(xh==h)=false:=by simpa using hxa
   have HN:=Jh (show∀j,j<k+1->s.at_ l h j=false from fun j hj=>by
    rcases Nat.lt_or_ge j k with h1|h1
    ·exact HA.o j h1
    rw[show j=k by omega,HAT.o,hxb];rfl)
   clear hxa;go_wp2_with fail;go_roundw;case rel=>exact⟨k+1,by omega,by go_num,HN.o,bA HBW.o,bA HBW0.o⟩
   case measure=>simp[intOf];omega
  have hlb:decide ((k:Int)<(n:Int))=false:=by simp;omega
  have HF:=Jh (show dueV (s.due l h)=-1 by rw[show s.due l h=none from find_range_none (fun j hj=>HA.o j (by have:=HE.o.len;omega))];rfl);go_wp2_with fail;go_ret;exact⟨ret_int HF.o.symm,HBW.o⟩
end Go.Proofs.YtnigadeohmlpiaaGreatDoor
namespace Go.Proofs.YtnigadeohmlpiaaGreatDoor
open Go.RowKit
attribute [local go_sem] Oper.semAt_some
theorem ret70b{fn:Func}{p q:Tmp}{tmps:Array Value}{w:World}{b:Nat}{x y z u v:Value}(hfn:fn.results=#[.cell p 70,.tmp q])(hp:tmps.getD p undef=.pointer (some ⟨b,0,none⟩))
  (h:w.heap[b]?=some (.cells #[x,y,z,u,v] 70)):(results fn tmps).run Tryz.prog w=.ok (.tuple #[.agg #[x,y,z,u,v],tmps.getD q undef]) w:=by
 rw[results_cell_tmp hfn,hp];obtain⟨h0,h1,h2,h3,h4,_⟩:=cells5 h;simp[go_sem,h0,h1,h2,h3,h4]
def Sl(v:Value):Prop:=∃a n c,v=.slice a n c
def NextIs(n:Nat)(o:Option St)(e:Ending)(w:World):Prop:=
 match o with
 |some s'=>∃v,e=.returned (.tuple #[v,.bool true])/\IsSt w v n s'
 |none=>∃u1 u2 u3 u4 u5,Sl u1/\Sl u2/\Sl u3/\Sl u4/\Sl u5/\e=.returned (.tuple #[.agg #[u1,u2,u3,u4,u5],.bool false])
def pickV(x:Pk):Value:=.agg #[.int .i64 x.h,.bool x.d,.int .i64 x.w]
def I64ok(z:Int):Prop:=-9223372036854775808<=z/\z<=9223372036854775807
theorem stDrain_any(n:Nat)(v:Value)(s:St)(x:Pk)(w:World)(hs:IsSt w v n s)(hx1:I64ok x.h)(hx2:I64ok x.w):
  Calls Tryz.prog 54 #[v,pickV x] w fun e w'=>NextIs n ((s.m.drainZ' x.h x.w).map (fun m=>⟨m,s.done,s.told⟩)) e w'/\Below w.heap.size w w':=by
 have HS:=Jh hs;obtain⟨v1,v2,v3,AD,cD,AT,cT,rfl,him,hrd,hrt,hcD,hcT⟩:=hs.is;obtain⟨A1,c1,rfl,_⟩:=him.ws;obtain⟨A2,c2,pv,rfl,_,_⟩:=him.ps;obtain⟨A3,c3,rfl,_⟩:=him.rs;have HIM:=Jh him;have HD:=Jh hrd;have HT:=Jh hrt;obtain⟨b2,hb2⟩:=exE (w.heap.size);obtain⟨b3,hb3⟩:=exE (b2+1);obtain⟨b4,hb4⟩:=exE (b3+1)
 obtain⟨X1,hX1⟩:=exE (w.alloc (.cells #[.slice A1 4 c1,.slice A2 4 c2,.slice A3 4 c3,.slice AD n cD,.slice AT n cT] 70));obtain⟨X2,hX2⟩:=exE (X1.alloc (.cells #[.int .i64 x.h,.bool x.d,.int .i64 x.w] 56));obtain⟨W0,hW0⟩:=exE (X2.alloc (.cells #[.slice none 0 0,.slice none 0 0,.slice none 0 0,.slice none 0 0,.slice none 0 0] 70));have s1:X1.heap.size=b2+1:=by rw[hX1,World.size_alloc,hb2]
 have s2:X2.heap.size=b2+1+1:=by rw[hX2,World.size_alloc,s1]
 have k2:Below X2.heap.size X2 W0:=hW0▸bA (bR X2);have k1:Below X1.heap.size X1 W0:=bT (hX2▸bA (bR X1)) k2;have HB0:=Jh (show Below w.heap.size w W0 from bT (hX1▸bA (bR w)) k1);have H2:=Jh (show W0.heap[b2]?=some (.cells #[.slice A1 4 c1,.slice A2 4 c2,.slice A3 4 c3,.slice AD n cD,.slice AT n cT] 70) from blk_below k1 (by rw[hX1,hb2];exact heap_alloc_new w _))
 have H3:=Jh (show W0.heap[b3]?=some (.cells #[.int .i64 x.h,.bool x.d,.int .i64 x.w] 56) from blk_below k2 (by rw[hX2,hb3,<-s1];exact heap_alloc_new X1 _));have H4:=Jh (show W0.heap[b4]?=some (.cells #[.slice none 0 0,.slice none 0 0,.slice none 0 0,.slice none 0 0,.slice none 0 0] 70) by rw[hW0,hb4,hb3,<-s2];exact heap_alloc_new X2 _);have HL:=Jh (show w.heap.size<=b4 by omega)
 have hWW:W0=((w.alloc (.cells #[.slice A1 4 c1,.slice A2 4 c2,.slice A3 4 c3,.slice AD n cD,.slice AT n cT] 70)).alloc (.cells #[.int .i64 x.h,.bool x.d,.int .i64 x.w] 56)).alloc (.cells #[.slice none 0 0,.slice none 0 0,.slice none 0 0,.slice none 0 0,.slice none 0 0] 70):=by rw[hW0,hX2,hX1]
 have HDr:=Jh (drainTop_any (.slice A1 4 c1) (.slice A2 4 c2) (.slice A3 4 c3) s.m x.h x.w W0 (him.sees (Below.sees HB0.o)) hx1.1 hx1.2 hx2.1 hx2.2);clear hX1 hX2 hW0 s1 s2 k1 k2 hs him hrd hrt hx1 hx2;unfold pickV;go_enter Tryz.func54,Tryz.ntmps54;go_wp2_with fail;rw[<-hb2,<-hb3,<-hb4,<-hWW];clear hb2 hb3 hb4 hWW;refine HDr.o.mono ?_;rintro e w1 ⟨hdi,hbw⟩;have HB1:=Jh (bT HB0.o hbw)
 have H21:=Jh (blk_below hbw H2.o);have H41:=Jh (blk_below hbw H4.o);have HD1:=Jh (HD.o.below HB1.o);have HT1:=Jh (HT.o.below HB1.o);cases hd:s.m.drainZ x.h x.w with
 |none=>
  rw[hd] at hdi;obtain⟨er,her,rfl⟩:=hdi;have hee:(er==0)=false:=by simpa using her
  have hz:(s.m.drainZ' x.h x.w)=none:=hd;have HZ:=Jh hz;have hbn:Below w1.heap.size w1 (w1.alloc (.cells #[.slice none 0 0,.slice none 0 0,.slice none 0 0] 59)):=bA (bR w1);obtain⟨_,_,_,r3,r4,_⟩:=cells5 (blk_below hbn H21.o);have H42:=Jh (blk_below hbn H41.o);obtain⟨t0,t1,t2,t3,t4,f0,f1,f2,f3,f4⟩:=cells5 H42.o;have HB2:=Jh (bT HB1.o hbn);clear hd hz hbw hbn her;go_wp2_with fail
  exact bodyPost_ret (ret70b rfl rfl (set5 H42.o)) rfl ⟨by rw[HZ.o];exact⟨_,_,_,_,_,⟨_,_,_,rfl⟩,⟨_,_,_,rfl⟩,⟨_,_,_,rfl⟩,⟨_,_,_,rfl⟩,⟨_,_,_,rfl⟩,rfl⟩,bS (bS (bS (bS (bS HB2.o HL.o) HL.o) HL.o) HL.o) HL.o⟩
 |some M'=>
  rw[hd] at hdi;obtain⟨u1,u2,u3,rfl,him'⟩:=hdi;obtain⟨E1,d1,rfl,_⟩:=him'.ws;obtain⟨E2,d2,pw,rfl,_,_⟩:=him'.ps;obtain⟨E3,d3,rfl,_⟩:=him'.rs;have hz:(s.m.drainZ' x.h x.w)=some M':=hd;have HZ:=Jh hz;have HI:=Jh him';have hbn:Below w1.heap.size w1 (w1.alloc (.cells #[.slice E1 4 d1,.slice E2 4 d2,.slice E3 4 d3] 59)):=bA (bR w1);obtain⟨_,_,_,r3,r4,_⟩:=cells5 (blk_below hbn H21.o)
  have H42:=Jh (blk_below hbn H41.o);obtain⟨t0,t1,t2,t3,t4,f0,f1,f2,f3,f4⟩:=cells5 H42.o;have HB2:=Jh (bT HB1.o hbn);have HSn:=Jh (Below.sees hbn);have HOk:=Jh (show(⟨M',s.done,s.told⟩:St).Ok n by
   have h1:(⟨M',s.done,s.told⟩:St).Ok n:=by
    unfold Mm.drainZ' at hz;split at hz
    ·exact St.drain_ok HS.o.ok hz
    cases hz
   exact h1)
  clear hd hz hbw hbn him';go_wp2_with fail;refine bodyPost_ret (ret70b rfl rfl (set5 H42.o)) rfl ⟨?_,bS (bS (bS (bS (bS HB2.o HL.o) HL.o) HL.o) HL.o) HL.o⟩;have htk:=Tk.set5 (x':=.slice E1 4 d1) (y':=.slice E2 4 d2) (z':=.slice E3 4 d3) (u':=.slice AD n cD) (v':=.slice AT n cT) H42.o;rw[HZ.o]
  exact⟨_,rfl,HOk.o,_,_,_,_,_,_,_,rfl,(HI.o.sees HSn.o).tk htk (by decide) (by decide) (by decide),(HD1.o.sees HSn.o (by decide) (by decide) (by decide)).tk htk (by decide),(HT1.o.sees HSn.o (by decide) (by decide) (by decide)).tk htk (by decide),hcD,hcT⟩
end Go.Proofs.YtnigadeohmlpiaaGreatDoor
namespace Go.Proofs.YtnigadeohmlpiaaGreatDoor
open Go.RowKit
attribute [local go_sem] Oper.semAt_some
def outF(x:Ev×Int):Option Int:=if x.1.k=1 then some x.2 else none
def outK(l:List Ev)(s:St)(k:Nat):List Int:=((l.zip s.told).take k).filterMap outF
theorem outK_all{l:List Ev}{s:St}{n:Nat}(hl:l.length=n)(h:∀j,j<n->s.done[j]?=some true)(hd:s.done.length=n):s.outcome l=some (outK l s n):=by
 unfold St.outcome outK;have h1:s.done.all id=true:=by rw[List.all_eq_true];intro b hb;obtain⟨j,hj,rfl⟩:=List.getElem_of_mem hb;have:=h j (by omega);rw[List.getElem?_eq_getElem hj] at this;exact Option.some.inj this
 rw[if_pos h1,List.take_of_length_le (by rw[List.length_zip];omega)];rfl
theorem out_none{l:List Ev}{s:St}{k:Nat}(h:s.done[k]?=some false):s.outcome l=none:=by unfold St.outcome;rw[if_neg];intro h1;have:=List.all_eq_true.1 h1 false (List.mem_of_getElem? h);cases this
theorem outK_succ{l:List Ev}{s:St}{k:Nat}{e:Ev}{z:Int}(h1:l[k]?=some e)(h2:s.told[k]?=some z):outK l s (k+1)=if e.k=1 then outK l s k++[z] else outK l s k:=by
 unfold outK;rw[List.take_add_one,List.filterMap_append];have h3:(l.zip s.told)[k]?=some (e,z):=by rw[List.getElem?_zip_eq_some];exact⟨h1,h2⟩
 rw[h3];by_cases hk:e.k=1
 ·rw[if_pos hk];simp[outF,hk]
 rw[if_neg hk];simp[outF,hk]
theorem outK_len(l:List Ev)(s:St)(k:Nat):(outK l s k).length<=k:=
 Nat.le_trans (List.length_filterMap_le _ _) (by rw[List.length_take];exact Nat.min_le_left _ _)
def OutIs(base:Nat)(o:Option (List Int))(e:Ending)(w:World):Prop:=
 match o with
 |some z=>∃A c,e=.returned (.tuple #[.slice A z.length c,.bool true])/\w.ownsRow base 3 1 (.slice A z.length c) z.length (ints z)/\z.length<=c
 |none=>e=.returned (.tuple #[.slice none 0 0,.bool false])
theorem outcome_any(A:Option Addr)(n c:Nat)(l:List Ev)(v:Value)(s:St)(w:World)(hn:n<=6)(he:IsEvs w A n c l)(hs:IsSt w v n s):
  Calls Tryz.prog 33 #[.agg #[.slice A n c],v] w fun e w'=>OutIs w.heap.size (s.outcome l) e w'/\Below w.heap.size w w':=by
 have HSd:=Jh hs.ok.d;obtain⟨i0,hi,hz0,hz1,hz2⟩:=info_parts int_info;obtain⟨v1,v2,v3,AD,cD,AT,cT,rfl,him,hrd,hrt,hcD,hcT⟩:=hs.is;obtain⟨A1,c1,rfl,_⟩:=him.ws;obtain⟨A2,c2,pv,rfl,_,_⟩:=him.ps;obtain⟨A3,c3,rfl,_⟩:=him.rs;have HE:=Jh he;have HD:=Jh hrd;have HT:=Jh hrt;obtain⟨b2,hb2⟩:=exE (w.heap.size);obtain⟨b3,hb3⟩:=exE (b2+1);obtain⟨X1,hX1⟩:=exE (w.alloc (.cells #[.slice A n c] 68))
 obtain⟨W0,hW0⟩:=exE (X1.alloc (.cells #[.slice A1 4 c1,.slice A2 4 c2,.slice A3 4 c3,.slice AD n cD,.slice AT n cT] 70));have s1:X1.heap.size=b2+1:=by rw[hX1,World.size_alloc,hb2]
 have k1:Below X1.heap.size X1 W0:=hW0▸bA (bR X1);have HB0:=Jh (show Below w.heap.size w W0 from bT (hX1▸bA (bR w)) k1);have H3:=Jh (show W0.heap[b3]?=some (.cells #[.slice A1 4 c1,.slice A2 4 c2,.slice A3 4 c3,.slice AD n cD,.slice AT n cT] 70) by rw[hW0,hb3,<-s1];exact heap_alloc_new X1 _);have HLe:=Jh (show w.heap.size<=W0.heap.size from HB0.o.size)
 have hWW:W0=(w.alloc (.cells #[.slice A n c] 68)).alloc (.cells #[.slice A1 4 c1,.slice A2 4 c2,.slice A3 4 c3,.slice AD n cD,.slice AT n cT] 70):=by rw[hW0,hX1]
 clear hX1 hW0 s1 k1 he hs him hrd hrt;go_enter Tryz.func33,Tryz.ntmps33;go_wp2_with fail;rw[<-hb2,<-hb3,<-hWW];clear hb2 hb3 hWW;go_loopw [4,11] (fun v x wr=>∃k:Nat,k<=n/\x=.int .i64 k/\(∀j,j<k->s.done[j]?=some true)/\wr.ownsRow W0.heap.size 3 1 v (outK l s k).length (ints (outK l s k))/\Below W0.heap.size W0 wr) (fun _ x _=>n-(intOf x).toNat)
 case atStart=>exact⟨0,by omega,rfl,fun j hj=>absurd hj (by omega),World.ownsRow_nil _ _ _ _,bR W0⟩
 case round=>
  obtain⟨k,hk,rfl,hall,hown,hbw⟩:=hrel;have HA:=Jh hall;have HO:=Jh hown;have HBW:=Jh hbw;have HB:=Jh (bT HB0.o hbw);clear hall hown hbw;by_cases hlt:k<n
  ·obtain⟨g,off,x,hA,hx,hc0,hc1,hc2,hc3⟩:=(HE.o.sees (Below.sees HB.o)).at_ hlt;obtain⟨gd,offd,u,hAD,hu,hcd⟩:=(HD.o.below HB.o).bool hlt;obtain⟨gt,offt,z,hAT,hz,hct⟩:=(HT.o.below HB.o).int hlt;have HX:=Jh hx;have HU:=Jh hu;have HZ:=Jh hz;have hlb:decide ((k:Int)<(n:Int))=true:=by simp;omega
   obtain⟨xk,hxk⟩:=exE (x.k);rw[<-hxk] at hc1;have HXK:=Jh hxk;clear hx hu hz hxk;subst hA;subst hAD;subst hAT;have hbn:Below wr.heap.size wr (wr.alloc (.cells #[.int .i64 x.h,.int .i64 xk,.int .i64 x.a,.int .i64 x.n] 44)):=bA (bR wr);have hcd':=(hbn.cell (p:=⟨gd,offd+k,none⟩) (cell_lt hcd)).trans hcd;have hct':=(hbn.cell (p:=⟨gt,offt+k,none⟩) (cell_lt hct)).trans hct
   obtain⟨_,_,_,r3,r4,_⟩:=cells5 (blk_below hbn (blk_below HBW.o H3.o));cases u
   ·have HN:=Jh (out_none (l:=l) HU.o);go_wp2_with fail;exact bodyPost_ret (results_tmp2 rfl _ _ _) rfl ⟨by rw[HN.o];rfl,bA HB.o⟩
   have HAll:=Jh (show∀j,j<k+1->s.done[j]?=some true from fun j hj=>by
    rcases Nat.lt_or_ge j k with h1|h1
    ·exact HA.o j h1
    rw[show j=k by omega];exact HU.o)
   by_cases hx1:xk=1
   ·subst hx1;have HS:=Jh ((outK_succ HX.o HZ.o).trans (if_pos HXK.o.symm));have hlen:=outK_len l s k;obtain⟨zs,hzs⟩:=exE (outK l s k);rw[<-hzs] at HO HS hlen;obtain⟨Ao,co,rfl,hco,_⟩:=own_slice HO.o;have HO2:=Jh (HO.o.alloc (.cells #[.int .i64 x.h,.int .i64 1,.int .i64 x.a,.int .i64 x.n] 44));clear hzs
    have hnew:((wr.alloc (.cells #[.int .i64 x.h,.int .i64 1,.int .i64 x.a,.int .i64 x.n] 44)).alloc (.cells #[.int .i64 z] 3)).heap[wr.heap.size+1]?=some (.cells #[.int .i64 z] 3):=by have:=heap_alloc_new (wr.alloc (.cells #[.int .i64 x.h,.int .i64 1,.int .i64 x.a,.int .i64 x.n] 44)) (.cells #[.int .i64 z] 3);rwa[World.size_alloc] at this
    have HNw:=Jh hnew;have HOl:=Jh (HO2.o.alloc (.cells #[.int .i64 z] 3));clear hnew
    go_wp2_with (at_builtin;refine wpList_append_rd _ rfl (.tmp 25) (.tmp 31) 32 rfl W0.heap.size 3 i0 _ 1 8 Tryz.underlying32 hi hz0 hz1 hz2 rfl (by decide) (.slice Ao zs.length co) zs.length _ rfl HOl.o (some ⟨wr.heap.size+1,0,none⟩) 1 1 [.int .i64 z] rfl ⟨rfl,fun _=>⟨wr.heap.size+1,0,rfl,blk_lt HNw.o,fun j u hu=>one_cell HNw.o hu⟩⟩ (by simp[Value.oneCell']) (by unfold maxLen;omega) (by omega) (by have:=HBW.o.size;simp;omega) ?_;intro v' w3 hown' hgrow)
    go_roundw;case rel=>refine⟨k+1,by omega,by go_num,HAll.o,?_,(bA (bA HBW.o)).grown hgrow (bA (bA HBW.o)).size (fun r e=>(HOl.o.lt r e).1)⟩;rw[HS.o,List.length_append];simpa[ints] using hown'
    case measure=>simp[intOf];omega
   have hxb:(xk==1)=false:=by simpa using hx1
   have HS:=Jh ((outK_succ HX.o HZ.o).trans (if_neg (fun e=>hx1 (HXK.o.trans e))));clear hx1;go_wp2_with fail;go_roundw;case rel=>exact⟨k+1,by omega,by go_num,HAll.o,by rw[HS.o];exact HO.o.alloc _,bA HBW.o⟩
   case measure=>simp[intOf];omega
  have hlb:decide ((k:Int)<(n:Int))=false:=by simp;omega
  have hkn:k=n:=by omega
  have HF:=Jh (outK_all HE.o.len (fun j hj=>HA.o j (by omega)) HSd.o);obtain⟨Ao,co,rfl,hco,_⟩:=own_slice HO.o;go_wp2_with fail;refine bodyPost_ret (results_tmp2 rfl _ _ _) rfl ⟨?_,bT HB0.o HBW.o⟩;rw[HF.o,<-hkn];exact⟨Ao,co,rfl,own_low HO.o HLe.o,hco⟩
end Go.Proofs.YtnigadeohmlpiaaGreatDoor
