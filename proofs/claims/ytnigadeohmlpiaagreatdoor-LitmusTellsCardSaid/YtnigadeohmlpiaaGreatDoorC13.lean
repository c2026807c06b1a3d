/- Contracts and words: whether an access may be placed next, and the state behind it; its keys, and what it tells. No condition of ours. -/
import Derived.Test.YtnigadeohmlpiaaGreatDoorC12
import Derived.DeepKeys5
set_option maxHeartbeats 32000000
set_option maxRecDepth 100000
namespace Go.Proofs.YtnigadeohmlpiaaGreatDoor
open Go.RowKit
attribute [local go_sem] Oper.semAt_some
def AS.wd(s:AS)(a:Nat):Int:=match a with
 |0=>s.w0
 |1=>s.w1
 |2=>s.w2
 |_=>s.w3
def AS.setw(s:AS)(a:Nat)(n:Int):AS:=match a with
 |0=>⟨s.p,n,s.w1,s.w2,s.w3⟩
 |1=>⟨s.p,s.w0,n,s.w2,s.w3⟩
 |2=>⟨s.p,s.w0,s.w1,n,s.w3⟩
 |_=>⟨s.p,s.w0,s.w1,s.w2,n⟩
def AS.mark(s:AS)(i:Nat):AS:=⟨s.p|||2^i,s.w0,s.w1,s.w2,s.w3⟩
def blockedAt(l:List Ev)(p i:Nat)(e:Ev)(k:Nat):Bool:=match l[k]?with
 |some x=>(x.acc&&!p.testBit k)&&keepsE l k i x e
 |none=>false
def blocked(l:List Ev)(p i:Nat)(e:Ev):Bool:=(List.range i).any (blockedAt l p i e)
def freeP(l:List Ev)(s:AS)(i:Nat)(e:Ev):Option AS:=
 if blocked l s.p i e then none
 else if e.k=1 then
  if(pendingP l s.p e i).getD (s.wd e.a.toNat)=e.n then some (s.mark i) else none
 else some ((s.setw e.a.toNat e.n).mark i)
def asV(s:AS):Value:=.agg (asC s)
def freeV(s:AS)(o:Option AS):Value:=match o with
 |some s'=>.tuple #[asV s',.bool true]
 |none=>.tuple #[asV s,.bool false]
theorem ret121{fn:Func}{p q:Tmp}{tmps:Array Value}{w:World}{b:Nat}{s:AS}(hfn:fn.results=#[.cell p 121,.tmp q])(hp:tmps.getD p undef=.pointer (some ⟨b,0,none⟩))
  (h:w.heap[b]?=some (.cells (asC s) 121)):(results fn tmps).run Tryz.prog w=.ok (.tuple #[asV s,tmps.getD q undef]) w:=by
 rw[results_cell_tmp hfn,hp];unfold asC at h;obtain⟨h0,h1,h2,h3,h4,_⟩:=cells5 h;unfold asV asC;simp[go_sem,h0,h1,h2,h3,h4]
theorem word_at{w:World}{b aN:Nat}{s:AS}(ha:aN<4)(h:w.heap[b]?=some (.cells (asC s) 121)):w.cell? ⟨b,1+aN,none⟩=some (.int .i64 (s.wd aN)):=by
 rw[cell_of_row w b _ _ _ _ h];unfold asC AS.wd
 match aN,ha with
 |0,_=>rfl
 |1,_=>rfl
 |2,_=>rfl
 |3,_=>rfl
theorem word_set{w:World}{b aN:Nat}{s:AS}(ha:aN<4)(n:Int)(h:w.heap[b]?=some (.cells (asC s) 121)):(w.setCell ⟨b,1+aN,none⟩ (.int .i64 n)).heap[b]?=some (.cells (asC (s.setw aN n)) 121):=by
 rw[set_same h];unfold asC AS.setw
 match aN,ha with
 |0,_=>rfl
 |1,_=>rfl
 |2,_=>rfl
 |3,_=>rfl
theorem setw_p(s:AS)(a:Nat)(n:Int):(s.setw a n).p=s.p:=by unfold AS.setw;split<;>rfl
theorem shl_ok{k:Nat}(hk:k<8):IntKind.u64.wrap (2^k)=((2^k:Nat):Int):=by
 match k,hk with
 |0,_=>rfl
 |1,_=>rfl
 |2,_=>rfl
 |3,_=>rfl
 |4,_=>rfl
 |5,_=>rfl
 |6,_=>rfl
 |7,_=>rfl
theorem or_ok{p k:Nat}(hp:p<256)(hk:k<8):bits .or .u64 (p:Int) ((2^k:Nat):Int)=((p|||2^k:Nat):Int):=
 bits_or_u64_nat p (2^k) (by omega) (Nat.lt_of_lt_of_le (Nat.pow_lt_pow_right (by omega) hk) (by decide))
theorem blocked_no{l:List Ev}{p i:Nat}{e:Ev}(h:∀k,k<i->blockedAt l p i e k=false):blocked l p i e=false:=by unfold blocked;rw[List.any_eq_false];intro k hk;rw[h k (List.mem_range.1 hk)];simp
theorem blocked_yes{l:List Ev}{p i k:Nat}{e:Ev}(hk:k<i)(h:blockedAt l p i e k=true):blocked l p i e=true:=
 List.any_eq_true.2 ⟨k,List.mem_range.2 hk,h⟩
theorem free_any(px bm:Nat)(A:Option Addr)(n c i:Nat)(l:List Ev)(x:Ev)(s:AS)(w:World)(he:IsEvs w A n c l)(hn:n<=8)(hx:l[i]?=some x)(hox:x.Ok)(hp:w.heap[px]?=some (.cells #[.slice A n c,.map (some bm)] 117))(hs:s.p<256):
  Calls Tryz.prog 102 #[.pointer (some ⟨px,0,none⟩),asV s,.int .i64 i] w fun o w'=>o=.returned (freeV s (freeP l s i x))/\Below w.heap.size w w':=by
 have hin:i<n:=by have:=(List.getElem?_eq_some_iff.1 hx).1;have:=he.len;omega
 have HPd:=Jh (fun(wx:World) (hb:Below w.heap.size w wx)=>pending_any px bm A n c i l x s wx (he.sees (Below.sees hb)) hn hx (blk_below hb hp) hs);obtain⟨b4,hb4⟩:=exE (w.heap.size);obtain⟨b6,hb6⟩:=exE (b4+1);obtain⟨W1,hW1⟩:=exE (w.alloc (.cells (asC s) 121));obtain⟨W,hW⟩:=exE (W1.alloc (.cells #[.int .u64 0,.int .i64 0,.int .i64 0,.int .i64 0,.int .i64 0] 121))
 have s1:W1.heap.size=b4+1:=by rw[hW1,World.size_alloc,hb4]
 have k1:Below W1.heap.size W1 W:=hW▸bA (bR W1);have kW:Below w.heap.size w W:=bT (hW1▸bA (bR w)) k1;have HB:=Jh kW;have HP:=Jh (blk_below kW hp);have H4:=Jh (show W.heap[b4]?=some (.cells (asC s) 121) from blk_below k1 (by rw[hW1,hb4];exact heap_alloc_new w _))
 have H6:=Jh (show W.heap[b6]?=some (.cells #[.int .u64 0,.int .i64 0,.int .i64 0,.int .i64 0,.int .i64 0] 121) by rw[hW,hb6,<-s1];exact heap_alloc_new W1 _);have hWW:W=(w.alloc (.cells (asC s) 121)).alloc (.cells #[.int .u64 0,.int .i64 0,.int .i64 0,.int .i64 0,.int .i64 0] 121):=by rw[hW,hW1]
 have HL:=Jh (show w.heap.size<=b4/\w.heap.size<=b6/\b4≠b6 by omega);have HE:=Jh (he.sees (Below.sees kW));have HX:=Jh hx;have HO:=Jh hox;clear he hx hp kW hox s1 k1 hW hW1;obtain⟨p,w0,w1,w2',w3⟩:=s;unfold asV asC at*;dsimp only at*;go_enter Tryz.func102,Tryz.ntmps102;go_wp2_with fail;rw[<-hb4,<-hb6,<-hWW];clear hWW hb4 hb6
 go_loopw [13] (fun v wr=>∃k:Nat,k<=i/\v=.int .i64 k/\(∀j,j<k->blockedAt l p i x j=false)/\Below W.heap.size W wr) (fun v _=>i-(intOf v).toNat);case atStart=>exact⟨0,by omega,rfl,fun j hj=>absurd hj (by omega),bR W⟩
 case round=>
  obtain⟨k,hk,rfl,hall,hbw⟩:=hrel;have HA:=Jh hall;have HBW:=Jh hbw;clear hall hbw;by_cases hlt:k<i
  ·have hlb:decide ((k:Int)<(i:Int))=true:=by simp;omega
   obtain⟨ge,oe,y,hA,hy,hc0,hc1,hc2,hc3⟩:=(HE.o.sees (Below.sees HBW.o)).at_ (show k<n by omega);subst hA;obtain⟨r0,r1,_⟩:=cells2 (blk_below HBW.o HP.o);have hkn:(k:Int)<(n:Int):=by omega
   have hk0:decide ((k:Int)<0)=false:=by simp
   have HAc:=Jh (isAccess_any y wr);have HKp:=Jh (fun(wx:World) (hb:Below W.heap.size W wx)=>keeps_any (some ⟨ge,oe,none⟩) n c k i l y x wx (HE.o.sees (Below.sees hb)) (by omega) hy HX.o);have HY:=Jh (show blockedAt l p i x k=((y.acc&&!p.testBit k)&&keepsE l k i y x) by unfold blockedAt;rw[hy]);unfold evV at HAc;obtain⟨q1,hq1⟩:=exE (y.acc);obtain⟨q3,hq3⟩:=exE (keepsE l k i y x);rw[<-hq1] at HAc HY
   rw[<-hq3] at HKp HY;clear hy hq1 hq3;go_wp2_with fail;refine HAc.o.mono ?_;rintro o w2 ⟨rfl,hb2⟩;have HB2:=Jh (bT HBW.o hb2);obtain⟨s0,s1,s2,s3,s4,_⟩:=cells5 (blk_below HB2.o H4.o);obtain⟨r0,r1,_⟩:=cells2 (blk_below HB2.o HP.o);clear hb2 hc0 hc1 hc2 hc3;cases q1
   ·have HN:=Jh (show∀j,j<k+1->blockedAt l p i x j=false from fun j hj=>by
     rcases Nat.lt_or_ge j k with h1|h1
     ·exact HA.o j h1
     rw[show j=k by omega,HY.o];rfl)
    go_wp2_with fail;go_roundw;case rel=>exact⟨k+1,by omega,by go_num,HN.o,HB2.o⟩
    case measure=>simp[intOf];omega
   have hsh:=bit_free (j:=k) hs;cases hbit:p.testBit k
   ·rw[hbit] at hsh;have hsh:(bits BinOp.and IntKind.u64 ((p:Int)/2^k) 1==0)=true:=hsh;rw[hbit] at HY;have HKx:=Jh (HKp.o w2 HB2.o);clear hbit;go_wp2_with fail;refine HKx.o.mono ?_;rintro o w4 ⟨rfl,hb4⟩;have HB4:=Jh (bT HB2.o hb4);obtain⟨s0,s1,s2,s3,s4,_⟩:=cells5 (blk_below HB4.o H4.o);obtain⟨t0,t1,t2,t3,t4,f0,f1,f2,f3,f4⟩:=cells5 (blk_below HB4.o H6.o);clear hb4 r0 r1;cases q3
    ·have HN:=Jh (show∀j,j<k+1->blockedAt l p i x j=false from fun j hj=>by
      rcases Nat.lt_or_ge j k with h1|h1
      ·exact HA.o j h1
      rw[show j=k by omega,HY.o];rfl)
     go_wp2_with fail;go_roundw;case rel=>exact⟨k+1,by omega,by go_num,HN.o,HB4.o⟩
     case measure=>simp[intOf];omega
    have HF:=Jh (show freeP l ⟨p,w0,w1,w2',w3⟩ i x=none by unfold freeP;rw[if_pos (blocked_yes hlt HY.o)]);go_wp2_with fail;refine bodyPost_ret (ret121 (s:=⟨p,w0,w1,w2',w3⟩) rfl rfl (set5 (blk_below HB4.o H6.o))) rfl ⟨by rw[HF.o];rfl,bS (bS (bS (bS (bS (bT HB.o HB4.o) HL.o.2.1) HL.o.2.1) HL.o.2.1) HL.o.2.1) HL.o.2.1⟩
   rw[hbit] at hsh;have hsh:(bits BinOp.and IntKind.u64 ((p:Int)/2^k) 1==0)=false:=hsh;rw[hbit] at HY;clear hbit;have HN:=Jh (show∀j,j<k+1->blockedAt l p i x j=false from fun j hj=>by
    rcases Nat.lt_or_ge j k with h1|h1
    ·exact HA.o j h1
    rw[show j=k by omega,HY.o];simp)
   go_wp2_with fail;go_roundw;case rel=>exact⟨k+1,by omega,by go_num,HN.o,HB2.o⟩
   case measure=>simp[intOf];omega
  have hlb:decide ((k:Int)<(i:Int))=false:=by simp;omega
  obtain rfl:k=i:=by omega
  have HNB:=Jh (blocked_no HA.o);obtain⟨ge,oe,y,hA,hy,hc0,hc1,hc2,hc3⟩:=(HE.o.sees (Below.sees HBW.o)).at_ hin;obtain rfl:y=x:=Option.some.inj (hy.symm.trans HX.o);subst hA;obtain⟨r0,r1,_⟩:=cells2 (blk_below HBW.o HP.o);have hkn:(k:Int)<(n:Int):=by omega
  have hk0:decide ((k:Int)<0)=false:=by simp
  obtain⟨W2,hW2⟩:=exE (wr.alloc (.cells #[.int .i64 y.h,.int .i64 y.k,.int .i64 y.a,.int .i64 y.n] 44));obtain⟨b9,hb9⟩:=exE (wr.heap.size);have k2:Below wr.heap.size wr W2:=hW2▸bA (bR wr);have HB2:=Jh (bT HBW.o k2);have H92:=Jh (show W2.heap[b9]?=some (.cells #[.int .i64 y.h,.int .i64 y.k,.int .i64 y.a,.int .i64 y.n] 44) by rw[hW2,hb9];exact heap_alloc_new wr _)
  have HPx:=Jh (HPd.o W2 (bT HB.o HB2.o));go_upto_region 8 with fail
  rw[<-hW2,<-hb9];clear hc0 hc1 hc2 hc3 r0 r1 k2 hW2 hb9 hy;obtain⟨q0,q1,q2,q3,_⟩:=cells4 H92.o;obtain⟨aN,haN⟩:∃aN:Nat,y.a=aN:=⟨y.a.toNat,(Int.toNat_of_nonneg HO.o.a.1).symm⟩;have ha4:aN<4:=by have:=HO.o.a;omega
  have haN':y.a.toNat=aN:=by omega
  have HAN:=Jh (And.intro haN haN');rw[haN] at q2;clear haN haN';have ha4':(aN:Int)<4:=by omega
  have ha0:decide ((aN:Int)<0)=false:=by simp
  by_cases hk1:y.k=1
  ·have hkb:(y.k==1)=true:=by simpa using hk1
   have HFr:=Jh (show freeP l ⟨p,w0,w1,w2',w3⟩ k y=if(pendingP l p y k).getD ((⟨p,w0,w1,w2',w3⟩:AS).wd aN)=y.n then some ((⟨p,w0,w1,w2',w3⟩:AS).mark k) else none by unfold freeP;rw[if_neg (by rw[HNB.o];simp),if_pos hk1,HAN.o.2])
   have hwd:=word_at (aN:=aN) ha4 (show(W2.heap[b4]?)=some (.cells (asC ⟨p,w0,w1,w2',w3⟩) 121) from blk_below HB2.o H4.o);obtain⟨wd,hwd2⟩:=exE ((⟨p,w0,w1,w2',w3⟩:AS).wd aN);obtain⟨o,ho⟩:=exE (pendingP l p y k);rw[<-hwd2,<-ho] at HFr;rw[<-ho] at HPx;have HWd:=Jh hwd2;clear hk1 hwd2 ho hwd;obtain⟨s0,s1,s2,s3,s4,_⟩:=cells5 (blk_below HB2.o H4.o);go_wp2_with fail;refine HPx.o.mono ?_
   rintro e w5 ⟨rfl,hb5⟩;have HB5:=Jh (bT HB2.o hb5);have H95:=Jh (blk_below hb5 H92.o);have hwd5:=word_at (aN:=aN) ha4 (show(w5.heap[b4]?)=some (.cells (asC ⟨p,w0,w1,w2',w3⟩) 121) from blk_below hb5 (blk_below HB2.o H4.o));have H45:=Jh (blk_below hb5 (blk_below HB2.o H4.o));have H65:=Jh (blk_below hb5 (blk_below HB2.o H6.o));have HBt:=Jh (bT HB.o HB5.o);rw[<-HWd.o] at hwd5
   clear hb5 q0 q1 q2 q3 s0 s1 s2 s3 s4;obtain⟨q0,q1,q2,q3,_⟩:=cells4 H95.o;rw[HAN.o.1] at q2;have hcell:w5.cell? ⟨b4,1+aN,none⟩=some (.int .i64 wd):=hwd5;clear hwd5;obtain⟨s0,s1,s2,s3,s4,_⟩:=cells5 H45.o;obtain⟨t0,t1,t2,t3,t4,f0,f1,f2,f3,f4⟩:=cells5 H65.o;unfold pendV;cases o with
   |none=>
    dsimp only[Option.getD_none] at*;by_cases hzn:wd=y.n
    ·have hne:(wd !=y.n)=false:=by simp[hzn]
     have HFt:=Jh (show freeP l ⟨p,w0,w1,w2',w3⟩ k y=some ⟨p|||2^k,w0,w1,w2',w3⟩ by rw[HFr.o];exact if_pos hzn);clear hzn;have H4t:=Jh H45.o;have H6t:=Jh H65.o;go_upto_region 15 with fail
     have hk8:k<8:=by omega
     have hq:∀(k9:Nat) (l:Nat->Bool) (wx:World),(Below w.heap.size w wx/\wx.heap[b6]?=some (.cells #[.int .u64 0,.int .i64 0,.int .i64 0,.int .i64 0,.int .i64 0] 121)/\((l 6)=false->wx.heap[b4]?=some (.cells #[.int .u64 p,.int .i64 w0,.int .i64 w1,.int .i64 w2',.int .i64 w3] 121))/\((l 6)=true->wx.heap[b4]?=some (.cells #[.int .u64 ((p|||2^k:Nat):Int),.int .i64 w0,.int .i64 w1,.int .i64 w2',.int .i64 w3] 121)))->(if k9=6 then True else(Below w.heap.size w wx/\wx.heap[b6]?=some (.cells #[.int .u64 0,.int .i64 0,.int .i64 0,.int .i64 0,.int .i64 0] 121)/\((decide (6=k9)||l 6)=false->wx.heap[b4]?=some (.cells #[.int .u64 p,.int .i64 w0,.int .i64 w1,.int .i64 w2',.int .i64 w3] 121))/\((decide (6=k9)||l 6)=true->wx.heap[b4]?=some (.cells #[.int .u64 ((p|||2^k:Nat):Int),.int .i64 w0,.int .i64 w1,.int .i64 w2',.int .i64 w3] 121)))):=fun k9 l wx h=>by
      split
      ·trivial
      rename_i hk9;have e:decide (6=k9)=false:=by simp;omega
      rw[e,Bool.false_or];exact h
     have rr:∀{T:List TypeId} (wx:World),Tk T wx wx:=fun wx=>Tk.refl _ wx
     refine wp_region_det (by kernel_rfl) (fun f=>(⟨#[Value.pointer (some ⟨px,0,none⟩),Value.agg #[Value.int IntKind.u64 (p:Int),.int .i64 w0,.int .i64 w1,.int .i64 w2',.int .i64 w3],.int .i64 (k:Int),undef,Value.pointer (some ⟨b4,0,none⟩),undef,Value.pointer (some ⟨b6,0,none⟩),u7,u8,Value.pointer (some ⟨b9,0,none⟩),.int .i64 wd,Value.bool false,.int .i64 (k:Int),.int .i64 (k:Int),Value.bool false,u15,u16,u17,u18,u19,u20,u21,u22,u23,u24,u25,u26,u27,u28,u29,u30,u31,u32,u33,u34,u35,u36,u37,u38,u39,u40,u41,u42,Value.pointer (some ⟨px,0,none⟩),Value.pointer (some ⟨px,0,none⟩),Value.pointer (some ⟨px,0,none⟩),Value.slice (some ⟨ge,oe,none⟩) n c,.int .i64 (k:Int),Value.pointer (some ⟨ge,oe+k*4,none⟩),Value.agg #[.int .i64 y.h,.int .i64 y.k,.int .i64 y.a,.int .i64 y.n],Value.pointer (some ⟨b9,1,none⟩),.int .i64 y.k,Value.bool true,Value.tuple #[.int .i64 0,Value.bool false],Value.pointer (some ⟨px,0,none⟩),Value.agg #[Value.int IntKind.u64 (p:Int),.int .i64 w0,.int .i64 w1,.int .i64 w2',.int .i64 w3],.int .i64 (k:Int),Value.tuple #[.int .i64 0,Value.bool false],.int .i64 0,Value.bool false,Value.bool false,Value.bool true,Value.pointer (some ⟨b9,2,none⟩),.int .i64 (aN:Int),Value.pointer (some ⟨b4,1,none⟩),Value.pointer (some ⟨b4,1+aN,none⟩),.int .i64 wd,.int .i64 wd,Value.pointer (some ⟨b9,3,none⟩),.int .i64 y.n,Value.bool false,undef,undef,undef,undef,undef,undef,undef,f 0,f 1,f 2,f 3,f 4,f 5,undef],[]⟩:Act)) (fun(iv:Nat) (lv:Nat->Bool) (fv:Nat->Value) (wx:World)=>match iv with|0=>fv 0=.pointer (some ⟨b4,0,none⟩)|1=>fv 1=.int .u64 (p:Int)|2=>fv 2=.int .i64 (k:Int)|3=>fv 3=.int .u64 ((2^k:Nat):Int)|4=>fv 4=.int .u64 ((p|||2^k:Nat):Int)|5=>fv 5=.pointer (some ⟨b4,0,none⟩)|6=>True|_=>True) (fun lv wx=>Below w.heap.size w wx/\wx.heap[b6]?=some (.cells #[.int .u64 0,.int .i64 0,.int .i64 0,.int .i64 0,.int .i64 0] 121)/\((lv 6)=false->wx.heap[b4]?=some (.cells #[.int .u64 p,.int .i64 w0,.int .i64 w1,.int .i64 w2',.int .i64 w3] 121))/\((lv 6)=true->wx.heap[b4]?=some (.cells #[.int .u64 ((p|||2^k:Nat):Int),.int .i64 w0,.int .i64 w1,.int .i64 w2',.int .i64 w3] 121))) (fun iv w1 w2=>Tk (if iv=6 then[121] else[]) w1 w2) (by kernel_rfl) (fun k=>match k with|_=>undef) rfl ?keep ⟨bD HBt.o,H6t.o,fun _=>H4t.o,fun h=>by cases h⟩ ?steps ?fin
     case keep=>
      intro iv j hij hd l f f' w1 w2 hf hR
      match j with
      |0|1|2|3|4|5=>exact fun h=>(hf _ (Ne.symm hij)).trans h
      |6=>intro h;have h:True:=h;show True;exact trivial
      |_+7=>exact id
     case steps=>
      refine fun iv hiv=>stepsOf_at (k:=0) (n:=7) ?_ iv (Nat.zero_le _) (by rw[Nat.zero_add];exact hiv);refine sD 0 6 aT0 [] (fun f wq l hl hun hdn hS hd K' HK=>?_) ?_
      ·clear hd;go_simp;exact HK.o _ _ _ rfl rfl (hq 0 l _ hS) (rr _)
      refine sD 1 5 aT1 [0] (fun f wq l hl hun hdn hS hd K' HK=>?_) ?_
      ·obtain⟨e0,-⟩:=hd;have e0:f 0=_:=e0;obtain⟨s0,_⟩:=cells5 (hS.2.2.1 (hun 6 (of_decide_eq_true (by kernel_rfl))));simp only[e0];go_simp;exact HK.o _ _ _ (by simp only[e0];rfl) rfl (hq 1 l _ hS) (rr _)
      refine sD 2 4 aT2 [] (fun f wq l hl hun hdn hS hd K' HK=>?_) ?_
      ·clear hd;go_simp;exact HK.o _ _ _ rfl rfl (hq 2 l _ hS) (rr _)
      refine sD 3 3 aT3 [2] (fun f wq l hl hun hdn hS hd K' HK=>?_) ?_
      ·obtain⟨e2,-⟩:=hd;have e2:f 2=_:=e2;simp only[e2];go_simp;exact HK.o _ _ _ (by simp only[e2];rfl) (congrArg (Value.int .u64) (shl_ok hk8)) (hq 3 l _ hS) (rr _)
      refine sD 4 2 aT4 [1,3] (fun f wq l hl hun hdn hS hd K' HK=>?_) ?_
      ·obtain⟨e1,e3,-⟩:=hd;have e1:f 1=_:=e1;have e3:f 3=_:=e3;simp only[e1,e3];go_simp;exact HK.o _ _ _ (by simp only[e1,e3];rfl) (congrArg (Value.int .u64) (or_ok hs hk8)) (hq 4 l _ hS) (rr _)
      refine sD 5 1 aT5 [] (fun f wq l hl hun hdn hS hd K' HK=>?_) ?_
      ·clear hd;go_simp;exact HK.o _ _ _ rfl rfl (hq 5 l _ hS) (rr _)
      refine sD 6 0 aT6 [4,5] (fun f wq l hl hun hdn hS hd K' HK=>?_) ?_
      ·obtain⟨e4,e5,-⟩:=hd;have e4:f 4=_:=e4;have e5:f 5=_:=e5;have hblk:=hS.2.2.1 hl;obtain⟨s0,_,_,_,_,f0,_⟩:=cells5 hblk;have HS:=Jh hS;have HG:=Jh hblk;clear hS hblk;simp only[e5,e4];go_simp;have hS:=HS.o;exact HK.o undef _ _ (by simp only[e4,e5];rfl) trivial ⟨bS hS.1 HL.o.1,(set_other _ HL.o.2.2.symm).trans hS.2.1,fun h=>by simp at h,fun _=>set_same HG.o _⟩ (tk_set1 HG.o)
      exact trivial
     case fin=>
      intro f wz l hl hall hS;clear hall;have H4z:=Jh (hS.2.2.2 (hl 6 (by decide)));have HBz:=Jh hS.1;have H6z:=Jh hS.2.1;clear hl hS;obtain⟨s0,s1,s2,s3,s4,_⟩:=cells5 H4z.o;obtain⟨t0,t1,t2,t3,t4,f0,f1,f2,f3,f4⟩:=cells5 H6z.o;go_wp2_with fail
      exact bodyPost_ret (ret121 (s:=⟨p|||2^k,w0,w1,w2',w3⟩) rfl rfl (set5 H6z.o)) rfl ⟨by rw[HFt.o];rfl,bS (bS (bS (bS (bS HBz.o HL.o.2.1) HL.o.2.1) HL.o.2.1) HL.o.2.1) HL.o.2.1⟩
    have hne:(wd !=y.n)=true:=by simpa using hzn
    have HFt:=Jh (show freeP l ⟨p,w0,w1,w2',w3⟩ k y=none by rw[HFr.o];exact if_neg hzn);clear hzn;go_wp2_with fail;exact bodyPost_ret (ret121 (s:=⟨p,w0,w1,w2',w3⟩) rfl rfl (set5 H65.o)) rfl ⟨by rw[HFt.o];rfl,bS (bS (bS (bS (bS HBt.o HL.o.2.1) HL.o.2.1) HL.o.2.1) HL.o.2.1) HL.o.2.1⟩
   |some z=>
    dsimp only[Option.getD_some] at*;by_cases hzn:z=y.n
    ·have hne:(z !=y.n)=false:=by simp[hzn]
     have HFt:=Jh (show freeP l ⟨p,w0,w1,w2',w3⟩ k y=some ⟨p|||2^k,w0,w1,w2',w3⟩ by rw[HFr.o];exact if_pos hzn);clear hzn;have H4t:=Jh H45.o;have H6t:=Jh H65.o;go_upto_region 15 with fail
     have hk8:k<8:=by omega
     have hq:∀(k9:Nat) (l:Nat->Bool) (wx:World),(Below w.heap.size w wx/\wx.heap[b6]?=some (.cells #[.int .u64 0,.int .i64 0,.int .i64 0,.int .i64 0,.int .i64 0] 121)/\((l 6)=false->wx.heap[b4]?=some (.cells #[.int .u64 p,.int .i64 w0,.int .i64 w1,.int .i64 w2',.int .i64 w3] 121))/\((l 6)=true->wx.heap[b4]?=some (.cells #[.int .u64 ((p|||2^k:Nat):Int),.int .i64 w0,.int .i64 w1,.int .i64 w2',.int .i64 w3] 121)))->(if k9=6 then True else(Below w.heap.size w wx/\wx.heap[b6]?=some (.cells #[.int .u64 0,.int .i64 0,.int .i64 0,.int .i64 0,.int .i64 0] 121)/\((decide (6=k9)||l 6)=false->wx.heap[b4]?=some (.cells #[.int .u64 p,.int .i64 w0,.int .i64 w1,.int .i64 w2',.int .i64 w3] 121))/\((decide (6=k9)||l 6)=true->wx.heap[b4]?=some (.cells #[.int .u64 ((p|||2^k:Nat):Int),.int .i64 w0,.int .i64 w1,.int .i64 w2',.int .i64 w3] 121)))):=fun k9 l wx h=>by
      split
      ·trivial
      rename_i hk9;have e:decide (6=k9)=false:=by simp;omega
      rw[e,Bool.false_or];exact h
     have rr:∀{T:List TypeId} (wx:World),Tk T wx wx:=fun wx=>Tk.refl _ wx
     refine wp_region_det (by kernel_rfl) (fun f=>(⟨#[Value.pointer (some ⟨px,0,none⟩),Value.agg #[Value.int IntKind.u64 (p:Int),.int .i64 w0,.int .i64 w1,.int .i64 w2',.int .i64 w3],.int .i64 (k:Int),undef,Value.pointer (some ⟨b4,0,none⟩),undef,Value.pointer (some ⟨b6,0,none⟩),u7,u8,Value.pointer (some ⟨b9,0,none⟩),.int .i64 z,Value.bool true,.int .i64 (k:Int),.int .i64 (k:Int),Value.bool false,u15,u16,u17,u18,u19,u20,u21,u22,u23,u24,u25,u26,u27,u28,u29,u30,u31,u32,u33,u34,u35,u36,u37,u38,u39,u40,u41,u42,Value.pointer (some ⟨px,0,none⟩),Value.pointer (some ⟨px,0,none⟩),Value.pointer (some ⟨px,0,none⟩),Value.slice (some ⟨ge,oe,none⟩) n c,.int .i64 (k:Int),Value.pointer (some ⟨ge,oe+k*4,none⟩),Value.agg #[.int .i64 y.h,.int .i64 y.k,.int .i64 y.a,.int .i64 y.n],Value.pointer (some ⟨b9,1,none⟩),.int .i64 y.k,Value.bool true,Value.tuple #[.int .i64 z,Value.bool true],Value.pointer (some ⟨px,0,none⟩),Value.agg #[Value.int IntKind.u64 (p:Int),.int .i64 w0,.int .i64 w1,.int .i64 w2',.int .i64 w3],.int .i64 (k:Int),Value.tuple #[.int .i64 z,Value.bool true],.int .i64 z,Value.bool true,Value.bool true,Value.bool false,undef,undef,undef,undef,undef,.int .i64 z,Value.pointer (some ⟨b9,3,none⟩),.int .i64 y.n,Value.bool false,undef,undef,undef,undef,undef,undef,undef,f 0,f 1,f 2,f 3,f 4,f 5,undef],[]⟩:Act)) (fun(iv:Nat) (lv:Nat->Bool) (fv:Nat->Value) (wx:World)=>match iv with|0=>fv 0=.pointer (some ⟨b4,0,none⟩)|1=>fv 1=.int .u64 (p:Int)|2=>fv 2=.int .i64 (k:Int)|3=>fv 3=.int .u64 ((2^k:Nat):Int)|4=>fv 4=.int .u64 ((p|||2^k:Nat):Int)|5=>fv 5=.pointer (some ⟨b4,0,none⟩)|6=>True|_=>True) (fun lv wx=>Below w.heap.size w wx/\wx.heap[b6]?=some (.cells #[.int .u64 0,.int .i64 0,.int .i64 0,.int .i64 0,.int .i64 0] 121)/\((lv 6)=false->wx.heap[b4]?=some (.cells #[.int .u64 p,.int .i64 w0,.int .i64 w1,.int .i64 w2',.int .i64 w3] 121))/\((lv 6)=true->wx.heap[b4]?=some (.cells #[.int .u64 ((p|||2^k:Nat):Int),.int .i64 w0,.int .i64 w1,.int .i64 w2',.int .i64 w3] 121))) (fun iv w1 w2=>Tk (if iv=6 then[121] else[]) w1 w2) (by kernel_rfl) (fun k=>match k with|_=>undef) rfl ?keep ⟨bD HBt.o,H6t.o,fun _=>H4t.o,fun h=>by cases h⟩ ?steps ?fin
     case keep=>
      intro iv j hij hd l f f' w1 w2 hf hR
      match j with
      |0|1|2|3|4|5=>exact fun h=>(hf _ (Ne.symm hij)).trans h
      |6=>intro h;have h:True:=h;show True;exact trivial
      |_+7=>exact id
     case steps=>
      refine fun iv hiv=>stepsOf_at (k:=0) (n:=7) ?_ iv (Nat.zero_le _) (by rw[Nat.zero_add];exact hiv);refine sD 0 6 aT0 [] (fun f wq l hl hun hdn hS hd K' HK=>?_) ?_
      ·clear hd;go_simp;exact HK.o _ _ _ rfl rfl (hq 0 l _ hS) (rr _)
      refine sD 1 5 aT1 [0] (fun f wq l hl hun hdn hS hd K' HK=>?_) ?_
      ·obtain⟨e0,-⟩:=hd;have e0:f 0=_:=e0;obtain⟨s0,_⟩:=cells5 (hS.2.2.1 (hun 6 (of_decide_eq_true (by kernel_rfl))));simp only[e0];go_simp;exact HK.o _ _ _ (by simp only[e0];rfl) rfl (hq 1 l _ hS) (rr _)
      refine sD 2 4 aT2 [] (fun f wq l hl hun hdn hS hd K' HK=>?_) ?_
      ·clear hd;go_simp;exact HK.o _ _ _ rfl rfl (hq 2 l _ hS) (rr _)
      refine sD 3 3 aT3 [2] (fun f wq l hl hun hdn hS hd K' HK=>?_) ?_
      ·obtain⟨e2,-⟩:=hd;have e2:f 2=_:=e2;simp only[e2];go_simp;exact HK.o _ _ _ (by simp only[e2];rfl) (congrArg (Value.int .u64) (shl_ok hk8)) (hq 3 l _ hS) (rr _)
      refine sD 4 2 aT4 [1,3] (fun f wq l hl hun hdn hS hd K' HK=>?_) ?_
      ·obtain⟨e1,e3,-⟩:=hd;have e1:f 1=_:=e1;have e3:f 3=_:=e3;simp only[e1,e3];go_simp;exact HK.o _ _ _ (by simp only[e1,e3];rfl) (congrArg (Value.int .u64) (or_ok hs hk8)) (hq 4 l _ hS) (rr _)
      refine sD 5 1 aT5 [] (fun f wq l hl hun hdn hS hd K' HK=>?_) ?_
      ·clear hd;go_simp;exact HK.o _ _ _ rfl rfl (hq 5 l _ hS) (rr _)
      refine sD 6 0 aT6 [4,5] (fun f wq l hl hun hdn hS hd K' HK=>?_) ?_
      ·obtain⟨e4,e5,-⟩:=hd;have e4:f 4=_:=e4;have e5:f 5=_:=e5;have hblk:=hS.2.2.1 hl;obtain⟨s0,_,_,_,_,f0,_⟩:=cells5 hblk;have HS:=Jh hS;have HG:=Jh hblk;clear hS hblk;simp only[e5,e4];go_simp;have hS:=HS.o;exact HK.o undef _ _ (by simp only[e4,e5];rfl) trivial ⟨bS hS.1 HL.o.1,(set_other _ HL.o.2.2.symm).trans hS.2.1,fun h=>by simp at h,fun _=>set_same HG.o _⟩ (tk_set1 HG.o)
      exact trivial
     case fin=>
      intro f wz l hl hall hS;clear hall;have H4z:=Jh (hS.2.2.2 (hl 6 (by decide)));have HBz:=Jh hS.1;have H6z:=Jh hS.2.1;clear hl hS;obtain⟨s0,s1,s2,s3,s4,_⟩:=cells5 H4z.o;obtain⟨t0,t1,t2,t3,t4,f0,f1,f2,f3,f4⟩:=cells5 H6z.o;go_wp2_with fail
      exact bodyPost_ret (ret121 (s:=⟨p|||2^k,w0,w1,w2',w3⟩) rfl rfl (set5 H6z.o)) rfl ⟨by rw[HFt.o];rfl,bS (bS (bS (bS (bS HBz.o HL.o.2.1) HL.o.2.1) HL.o.2.1) HL.o.2.1) HL.o.2.1⟩
    have hne:(z !=y.n)=true:=by simpa using hzn
    have HFt:=Jh (show freeP l ⟨p,w0,w1,w2',w3⟩ k y=none by rw[HFr.o];exact if_neg hzn);clear hzn;go_wp2_with fail;exact bodyPost_ret (ret121 (s:=⟨p,w0,w1,w2',w3⟩) rfl rfl (set5 H65.o)) rfl ⟨by rw[HFt.o];rfl,bS (bS (bS (bS (bS HBt.o HL.o.2.1) HL.o.2.1) HL.o.2.1) HL.o.2.1) HL.o.2.1⟩
  have hkb:(y.k==1)=false:=by simpa using hk1
  have HFr:=Jh (show freeP l ⟨p,w0,w1,w2',w3⟩ k y=some (((⟨p,w0,w1,w2',w3⟩:AS).setw aN y.n).mark k) by unfold freeP;rw[if_neg (by rw[HNB.o];simp),if_neg hk1,HAN.o.2]);have hcell:=word_at (aN:=aN) ha4 (show(W2.heap[b4]?)=some (.cells (asC ⟨p,w0,w1,w2',w3⟩) 121) from blk_below HB2.o H4.o);have hfz:W2.frozen? ⟨b4,1+aN,none⟩=false:=not_frozen (blk_below HB2.o H4.o)
  have HSet:=Jh (word_set (aN:=aN) ha4 y.n (show(W2.heap[b4]?)=some (.cells (asC ⟨p,w0,w1,w2',w3⟩) 121) from blk_below HB2.o H4.o));clear hk1;obtain⟨s1',hs1⟩:∃q,q=(⟨p,w0,w1,w2',w3⟩:AS).setw aN y.n:=⟨_,rfl⟩;have hp1:s1'.p=p:=by rw[hs1];exact setw_p _ _ _
  rw[<-hs1] at HSet HFr;clear hs1;obtain⟨p1,u0,u1,u2,u3⟩:=s1';dsimp only at hp1;subst hp1;obtain⟨s0,s1,s2,s3,s4,_⟩:=cells5 (blk_below HB2.o H4.o);go_upto_region 15 with fail
  obtain⟨W5,hW5⟩:=exE (W2.setCell ⟨b4,1+aN,none⟩ (.int .i64 y.n));rw[<-hW5];have HBt:=Jh (show Below w.heap.size w W5 from hW5▸bS (bT HB.o HB2.o) HL.o.1);have H6t:=Jh (show W5.heap[b6]?=_ from hW5▸(set_other _ HL.o.2.2.symm).trans (blk_below HB2.o H6.o));have H4t:=Jh (hW5▸HSet.o);have HFt:=Jh HFr.o;clear hW5 hcell hfz s0 s1 s2 s3 s4;have hk8:k<8:=by omega
  have hq:∀(k9:Nat) (l:Nat->Bool) (wx:World),(Below w.heap.size w wx/\wx.heap[b6]?=some (.cells #[.int .u64 0,.int .i64 0,.int .i64 0,.int .i64 0,.int .i64 0] 121)/\((l 6)=false->wx.heap[b4]?=some (.cells #[.int .u64 p1,.int .i64 u0,.int .i64 u1,.int .i64 u2,.int .i64 u3] 121))/\((l 6)=true->wx.heap[b4]?=some (.cells #[.int .u64 ((p1|||2^k:Nat):Int),.int .i64 u0,.int .i64 u1,.int .i64 u2,.int .i64 u3] 121)))->(if k9=6 then True else(Below w.heap.size w wx/\wx.heap[b6]?=some (.cells #[.int .u64 0,.int .i64 0,.int .i64 0,.int .i64 0,.int .i64 0] 121)/\((decide (6=k9)||l 6)=false->wx.heap[b4]?=some (.cells #[.int .u64 p1,.int .i64 u0,.int .i64 u1,.int .i64 u2,.int .i64 u3] 121))/\((decide (6=k9)||l 6)=true->wx.heap[b4]?=some (.cells #[.int .u64 ((p1|||2^k:Nat):Int),.int .i64 u0,.int .i64 u1,.int .i64 u2,.int .i64 u3] 121)))):=fun k9 l wx h=>by
   split
   ·trivial
   rename_i hk9;have e:decide (6=k9)=false:=by simp;omega
   rw[e,Bool.false_or];exact h
  have rr:∀{T:List TypeId} (wx:World),Tk T wx wx:=fun wx=>Tk.refl _ wx
  refine wp_region_det (by kernel_rfl) (fun f=>(⟨#[Value.pointer (some ⟨px,0,none⟩),Value.agg #[Value.int IntKind.u64 (p1:Int),.int .i64 w0,.int .i64 w1,.int .i64 w2',.int .i64 w3],.int .i64 (k:Int),undef,Value.pointer (some ⟨b4,0,none⟩),undef,Value.pointer (some ⟨b6,0,none⟩),u7,u8,Value.pointer (some ⟨b9,0,none⟩),undef,undef,.int .i64 (k:Int),.int .i64 (k:Int),Value.bool false,u15,u16,u17,u18,u19,u20,u21,u22,u23,u24,u25,u26,u27,u28,u29,u30,u31,u32,u33,u34,u35,u36,u37,u38,u39,u40,u41,u42,Value.pointer (some ⟨px,0,none⟩),Value.pointer (some ⟨px,0,none⟩),Value.pointer (some ⟨px,0,none⟩),Value.slice (some ⟨ge,oe,none⟩) n c,.int .i64 (k:Int),Value.pointer (some ⟨ge,oe+k*4,none⟩),Value.agg #[.int .i64 y.h,.int .i64 y.k,.int .i64 y.a,.int .i64 y.n],Value.pointer (some ⟨b9,1,none⟩),.int .i64 y.k,Value.bool false,undef,undef,undef,undef,undef,undef,undef,undef,undef,undef,undef,undef,undef,undef,undef,undef,undef,undef,undef,Value.pointer (some ⟨b9,2,none⟩),.int .i64 (aN:Int),Value.pointer (some ⟨b9,3,none⟩),.int .i64 y.n,Value.pointer (some ⟨b4,1,none⟩),Value.pointer (some ⟨b4,1+aN,none⟩),f 0,f 1,f 2,f 3,f 4,f 5,undef],[]⟩:Act)) (fun(iv:Nat) (lv:Nat->Bool) (fv:Nat->Value) (wx:World)=>match iv with|0=>fv 0=.pointer (some ⟨b4,0,none⟩)|1=>fv 1=.int .u64 (p1:Int)|2=>fv 2=.int .i64 (k:Int)|3=>fv 3=.int .u64 ((2^k:Nat):Int)|4=>fv 4=.int .u64 ((p1|||2^k:Nat):Int)|5=>fv 5=.pointer (some ⟨b4,0,none⟩)|6=>True|_=>True) (fun lv wx=>Below w.heap.size w wx/\wx.heap[b6]?=some (.cells #[.int .u64 0,.int .i64 0,.int .i64 0,.int .i64 0,.int .i64 0] 121)/\((lv 6)=false->wx.heap[b4]?=some (.cells #[.int .u64 p1,.int .i64 u0,.int .i64 u1,.int .i64 u2,.int .i64 u3] 121))/\((lv 6)=true->wx.heap[b4]?=some (.cells #[.int .u64 ((p1|||2^k:Nat):Int),.int .i64 u0,.int .i64 u1,.int .i64 u2,.int .i64 u3] 121))) (fun iv w1 w2=>Tk (if iv=6 then[121] else[]) w1 w2) (by kernel_rfl) (fun k=>match k with|_=>undef) rfl ?keep ⟨bD HBt.o,H6t.o,fun _=>H4t.o,fun h=>by cases h⟩ ?steps ?fin
  case keep=>
   intro iv j hij hd l f f' w1 w2 hf hR
   match j with
   |0|1|2|3|4|5=>exact fun h=>(hf _ (Ne.symm hij)).trans h
   |6=>intro h;have h:True:=h;show True;exact trivial
   |_+7=>exact id
  case steps=>
   refine fun iv hiv=>stepsOf_at (k:=0) (n:=7) ?_ iv (Nat.zero_le _) (by rw[Nat.zero_add];exact hiv);refine sD 0 6 aT0 [] (fun f wq l hl hun hdn hS hd K' HK=>?_) ?_
   ·clear hd;go_simp;exact HK.o _ _ _ rfl rfl (hq 0 l _ hS) (rr _)
   refine sD 1 5 aT1 [0] (fun f wq l hl hun hdn hS hd K' HK=>?_) ?_
   ·obtain⟨e0,-⟩:=hd;have e0:f 0=_:=e0;obtain⟨s0,_⟩:=cells5 (hS.2.2.1 (hun 6 (of_decide_eq_true (by kernel_rfl))));simp only[e0];go_simp;exact HK.o _ _ _ (by simp only[e0];rfl) rfl (hq 1 l _ hS) (rr _)
   refine sD 2 4 aT2 [] (fun f wq l hl hun hdn hS hd K' HK=>?_) ?_
   ·clear hd;go_simp;exact HK.o _ _ _ rfl rfl (hq 2 l _ hS) (rr _)
   refine sD 3 3 aT3 [2] (fun f wq l hl hun hdn hS hd K' HK=>?_) ?_
   ·obtain⟨e2,-⟩:=hd;have e2:f 2=_:=e2;simp only[e2];go_simp;exact HK.o _ _ _ (by simp only[e2];rfl) (congrArg (Value.int .u64) (shl_ok hk8)) (hq 3 l _ hS) (rr _)
   refine sD 4 2 aT4 [1,3] (fun f wq l hl hun hdn hS hd K' HK=>?_) ?_
   ·obtain⟨e1,e3,-⟩:=hd;have e1:f 1=_:=e1;have e3:f 3=_:=e3;simp only[e1,e3];go_simp;exact HK.o _ _ _ (by simp only[e1,e3];rfl) (congrArg (Value.int .u64) (or_ok hs hk8)) (hq 4 l _ hS) (rr _)
   refine sD 5 1 aT5 [] (fun f wq l hl hun hdn hS hd K' HK=>?_) ?_
   ·clear hd;go_simp;exact HK.o _ _ _ rfl rfl (hq 5 l _ hS) (rr _)
   refine sD 6 0 aT6 [4,5] (fun f wq l hl hun hdn hS hd K' HK=>?_) ?_
   ·obtain⟨e4,e5,-⟩:=hd;have e4:f 4=_:=e4;have e5:f 5=_:=e5;have hblk:=hS.2.2.1 hl;obtain⟨s0,_,_,_,_,f0,_⟩:=cells5 hblk;have HS:=Jh hS;have HG:=Jh hblk;clear hS hblk;simp only[e5,e4];go_simp;have hS:=HS.o;exact HK.o undef _ _ (by simp only[e4,e5];rfl) trivial ⟨bS hS.1 HL.o.1,(set_other _ HL.o.2.2.symm).trans hS.2.1,fun h=>by simp at h,fun _=>set_same HG.o _⟩ (tk_set1 HG.o)
   exact trivial
  case fin=>
   intro f wz l hl hall hS;clear hall;have H4z:=Jh (hS.2.2.2 (hl 6 (by decide)));have HBz:=Jh hS.1;have H6z:=Jh hS.2.1;clear hl hS;obtain⟨s0,s1,s2,s3,s4,_⟩:=cells5 H4z.o;obtain⟨t0,t1,t2,t3,t4,f0,f1,f2,f3,f4⟩:=cells5 H6z.o;go_wp2_with fail
   exact bodyPost_ret (ret121 (s:=⟨p1|||2^k,u0,u1,u2,u3⟩) rfl rfl (set5 H6z.o)) rfl ⟨by rw[HFt.o];rfl,bS (bS (bS (bS (bS HBz.o HL.o.2.1) HL.o.2.1) HL.o.2.1) HL.o.2.1) HL.o.2.1⟩
end Go.Proofs.YtnigadeohmlpiaaGreatDoor
namespace Go.Proofs.YtnigadeohmlpiaaGreatDoor
open Go.RowKit
theorem law121:Maps.Keyed Tryz.prog 121:=Maps.Keyed.of_law (deep_law_gate (by kernel_rfl) (Nat.le_of_ble_eq_true (by kernel_rfl)) (Nat.le_of_ble_eq_true (by kernel_rfl)) (by kernel_rfl) (by kernel_rfl))
theorem law9:Maps.Keyed Tryz.prog 9:=Maps.string_keyed Tryz.underlying9
structure AS.Ok(s:AS):Prop where
 p:s.p<256
 w0:I32 s.w0
 w1:I32 s.w1
 w2:I32 s.w2
 w3:I32 s.w3
theorem u119:Tryz.prog.underlying 119=some (.int .u64):=by kernel_rfl
theorem i64_wf{z:Int}(h:I32 z):(Lit.int .i64 z).wf=true:=by
 unfold I32 at h;have h1:IntKind.i64.min=-9223372036854775808:=by decide
 have h2:IntKind.i64.max=9223372036854775807:=by decide
 simp only[Lit.wf,h1,h2,Bool.and_eq_true,decide_eq_true_eq];omega
theorem u64_wf{p:Nat}(h:p<256):(Lit.int .u64 (p:Int)).wf=true:=by
 have h1:IntKind.u64.min=0:=by decide
 have h2:IntKind.u64.max=18446744073709551615:=by decide
 simp only[Lit.wf,h1,h2,Bool.and_eq_true,decide_eq_true_eq];omega
theorem key121(s:AS)(h:s.Ok):∃kl,keyOf Tryz.prog 121 (asV s)=some kl:=by
 obtain⟨d,hd⟩:∃d,Tryz.prog.types.size+1=d+3:=⟨Tryz.prog.types.size-2,by kernel_rfl⟩;have hlits:Tryz.prog.keyLits (Tryz.prog.types.size+1) 121 (asC s).toList=some [.int .u64 s.p,.int .i64 s.w0,.int .i64 s.w1,.int .i64 s.w2,.int .i64 s.w3]:=by
  rw[hd];have hc121:Tryz.prog.cellsOf 121=5:=by kernel_rfl
  have hc119:Tryz.prog.cellsOf 119=1:=by kernel_rfl
  have hc50:Tryz.prog.cellsOf 50=4:=by kernel_rfl
  have hc3:Tryz.prog.cellsOf 3=1:=by kernel_rfl
  have hu3:Tryz.prog.underlying 3=some (.int .i64):=by kernel_rfl
  have w0:=i64_wf h.w0;have w1:=i64_wf h.w1;have w2:=i64_wf h.w2;have w3:=i64_wf h.w3;have wp:=u64_wf h.p;simp[Program.keyLits,Tryz.underlying121,Tryz.underlying50,hu3,hc121,hc119,hc50,hc3,asC,w0,w1,w2,w3,wp,show List.range 4=[0,1,2,3] from rfl]
 have hkt:Tryz.prog.keyType 121=true:=by kernel_rfl
 have hf:(asV s).formed Tryz.prog 121=true:=by
  have hc121:Tryz.prog.cellsOf 121=5:=by kernel_rfl
  simp[asV,asC,Value.formed,Tryz.underlying121,hc121]
 unfold keyOf;rw[Tryz.underlying121];dsimp only;rw[hkt,hf,show(asV s).cells.toList=(asC s).toList from rfl,hlits];exact⟨_,rfl⟩
end Go.Proofs.YtnigadeohmlpiaaGreatDoor
