/- Contracts and words: which of n things a raw number speaks of; of raw numbers, events that may be; of raw numbers, a program. No condition of ours. -/
import Derived.Test.YtnigadeohmlpiaaGreatDoorC15
import Derived.Test.YtnigadeohmlpiaaGreatDoorC17
set_option maxHeartbeats 32000000
set_option maxRecDepth 100000
namespace Go.Proofs.YtnigadeohmlpiaaGreatDoor
open Go.RowKit
attribute [local go_sem] Oper.semAt_some
def pk(c:Int)(n:Int):Int:=if c<0 then(-(c+1))%n else c%n
theorem pk_lo(c n:Int)(hn:0<n):0<=pk c n:=by unfold pk;split<;>exact Int.emod_nonneg _ (by omega)
theorem pk_hi(c n:Int)(hn:0<n):pk c n<n:=by unfold pk;split<;>exact Int.emod_lt_of_pos _ hn
theorem pick24_any(c n:Int)(w:World)(hn:0<n)(hc1:-9223372036854775808<=c)(hc2:c<=9223372036854775807):
  Calls Tryz.prog 24 #[.int .i64 c,.int .i64 n] w fun e w'=>e=.returned (.int .i64 (pk c n))/\w=w':=by
 by_cases h:c<0
 ·have H:Hid ((-(c+1)).tmod n=pk c n):=by show(-(c+1)).tmod n=pk c n;rw[pk,if_pos h,Int.tmod_eq_emod_of_nonneg (by omega)]
  go_enter Tryz.func24,Tryz.ntmps24;go_wp2;go_ret;refine⟨?_,rfl⟩;rw[<-H.o];simp[Int.neg_tmod]
 have H:Hid (c%n=pk c n):=by show c%n=pk c n;rw[pk,if_neg h]
 have h':0<=c:=by omega
 go_enter Tryz.func24,Tryz.ntmps24;go_wp2;go_ret;exact⟨ret_int H.o,rfl⟩
theorem pick48_any(c n:Int)(w:World)(hn:0<n)(hc1:-9223372036854775808<=c)(hc2:c<=9223372036854775807):
  Calls Tryz.prog 48 #[.int .i64 c,.int .i64 n] w fun e w'=>e=.returned (.int .i64 (pk c n))/\w=w':=by
 by_cases h:c<0
 ·have H:Hid ((-(c+1)).tmod n=pk c n):=by show(-(c+1)).tmod n=pk c n;rw[pk,if_pos h,Int.tmod_eq_emod_of_nonneg (by omega)]
  go_enter Tryz.func48,Tryz.ntmps48;go_wp2;go_ret;refine⟨?_,rfl⟩;rw[<-H.o];simp[Int.neg_tmod]
 have H:Hid (c%n=pk c n):=by show c%n=pk c n;rw[pk,if_neg h]
 have h':0<=c:=by omega
 go_enter Tryz.func48,Tryz.ntmps48;go_wp2;go_ret;exact⟨ret_int H.o,rfl⟩
end Go.Proofs.YtnigadeohmlpiaaGreatDoor
namespace Go.Proofs.YtnigadeohmlpiaaGreatDoor
open Go.RowKit
attribute [local go_sem] Oper.semAt_some
structure R4 where
 a:Int
 b:Int
 c:Int
 d:Int
def r4Cells(L:List R4):List Value:=L.flatMap fun x=>[.int .i64 x.a,.int .i64 x.b,.int .i64 x.c,.int .i64 x.d]
theorem r4_at(L:List R4)(k:Nat)(x:R4)(h:L[k]?=some x):(r4Cells L)[k*4]?=some (.int .i64 x.a)/\(r4Cells L)[k*4+1]?=some (.int .i64 x.b)/\(r4Cells L)[k*4+2]?=some (.int .i64 x.c)/\(r4Cells L)[k*4+3]?=some (.int .i64 x.d):=by
 induction L generalizing k with
 |nil=>simp at h
 |cons y L ih=>
  have hc:r4Cells (y::L)=[.int .i64 y.a,.int .i64 y.b,.int .i64 y.c,.int .i64 y.d]++r4Cells L:=rfl;cases k with
  |zero=>obtain rfl:y=x:=Option.some.inj h;exact⟨rfl,rfl,rfl,rfl⟩
  |succ k=>
   obtain⟨h0,h1,h2,h3⟩:=ih k h;rw[hc];refine⟨?_,?_,?_,?_⟩<;>rw[List.getElem?_append_right (by simp;omega)]
   ·rw[<-h0];congr 1;simp;omega
   ·rw[<-h1];congr 1;simp;omega
   ·rw[<-h2];congr 1;simp;omega
   rw[<-h3];congr 1;simp;omega
structure IsRaw(w:World)(A:Option Addr)(n:Nat)(L:List R4):Prop where
 len:L.length=n
 rd:Rd w 4 A n (r4Cells L)
 ok:∀x∈L,I64ok x.a/\I64ok x.b/\I64ok x.c/\I64ok x.d
theorem IsRaw.below{w w':World}{A:Option Addr}{n:Nat}{L:List R4}(h:IsRaw w A n L)(hb:Below w.heap.size w w'):IsRaw w' A n L:=⟨h.len,h.rd.below hb,h.ok⟩
theorem IsRaw.at_{w:World}{A:Option Addr}{n k:Nat}{L:List R4}(h:IsRaw w A n L)(hk:k<n):∃g o x,A=some ⟨g,o,none⟩/\L[k]?=some x/\w.cell? ⟨g,o+k*4,none⟩=some (.int .i64 x.a)/\w.cell? ⟨g,o+k*4+1,none⟩=some (.int .i64 x.b)/\w.cell? ⟨g,o+k*4+2,none⟩=some (.int .i64 x.c)/\w.cell? ⟨g,o+k*4+3,none⟩=some (.int .i64 x.d)/\I64ok x.a/\I64ok x.b/\I64ok x.c/\I64ok x.d:=by
 obtain⟨g,o,hA,_,hc⟩:=h.rd.2 (by omega);have hkl:k<L.length:=by rw[h.len];exact hk
 have hx:L[k]?=some L[k]:=List.getElem?_eq_getElem hkl;obtain⟨h0,h1,h2,h3⟩:=r4_at L k _ hx;exact⟨g,o,L[k],hA,hx,hc _ _ h0,by rw[Nat.add_assoc];exact hc _ _ h1,by rw[Nat.add_assoc];exact hc _ _ h2,by rw[Nat.add_assoc];exact hc _ _ h3,h.ok _ (List.getElem_mem _)⟩
def evR(x:R4):Ev:=if pk x.a 7=6 then⟨pk x.b 3,3,0,0⟩ else⟨pk x.b 3,1+pk x.a 2,pk x.c 3,pk x.d 3⟩
theorem evR_ok(x:R4):(evR x).Ok:=by
 have h1:=pk_lo x.b 3 (by omega);have h2:=pk_hi x.b 3 (by omega);have h3:=pk_lo x.a 2 (by omega);have h4:=pk_hi x.a 2 (by omega);have h5:=pk_lo x.c 3 (by omega);have h6:=pk_hi x.c 3 (by omega);have h7:=pk_lo x.d 3 (by omega);have h8:=pk_hi x.d 3 (by omega);unfold evR;split
 ·exact⟨⟨h1,by show pk x.b 3<4;omega⟩,⟨by show(1:Int)<=3;omega,by show(3:Int)<=3;omega⟩,⟨by show(0:Int)<=0;omega,by show(0:Int)<4;omega⟩,i32_zero,fun _=>⟨rfl,rfl⟩⟩
 refine⟨⟨h1,by show pk x.b 3<4;omega⟩,⟨by show 1<=1+pk x.a 2;omega,by show 1+pk x.a 2<=3;omega⟩,⟨h5,by show pk x.c 3<4;omega⟩,⟨by show _<=pk x.d 3;omega,by show pk x.d 3<=_;omega⟩,fun h=>?_⟩;have h:1+pk x.a 2=3:=h;omega
def fitR(L:List R4):List Ev:=(L.take 6).map evR
theorem set4{w:World}{b:Nat}{x y z u x' y' z' u':Value}{t:TypeId}(h:w.heap[b]?=some (.cells #[x,y,z,u] t)):
  ((((w.setCell ⟨b,0,none⟩ x').setCell ⟨b,1,none⟩ y').setCell ⟨b,2,none⟩ z').setCell ⟨b,3,none⟩ u').heap[b]?=some (.cells #[x',y',z',u'] t):=
 set_same (set_same (set_same (set_same h x') y') z') u'
theorem fit27_any(A:Option Addr)(n c:Nat)(L:List R4)(w:World)(h:IsRaw w A n L)(hn:n<=9223372036854775807):
  Calls Tryz.prog 27 #[.slice A n c] w fun o w'=>(∃v,o=.returned v/\w'.ownsRow w.heap.size 44 4 v (fitR L).length (evCells (fitR L)))/\Below w.heap.size w w':=by
 obtain⟨i0,hi,hz0,hz1,hz2⟩:=info_parts ev_info;have HR:=Jh h;clear h;have HLn:=Jh hn;go_enter Tryz.func27,Tryz.ntmps27;go_wp2_with fail;go_loopw [3,4] (fun v x wr=>∃k:Nat,k<=n/\k<=6/\x=.int .i64 k/\wr.ownsRow w.heap.size 44 4 v ((L.take k).map evR).length (evCells ((L.take k).map evR))/\Below w.heap.size w wr) (fun _ x _=>6-(intOf x).toNat)
 case atStart=>exact⟨0,by omega,by omega,rfl,World.ownsRow_nil _ _ _ _,bR w⟩
 case round=>
  obtain⟨k,hk,hk6,rfl,hown,hbw⟩:=hrel;have HO:=Jh hown;have HBW:=Jh hbw;clear hown hbw;by_cases hlt:k<n
  ·have hlb:decide ((k:Int)<(n:Int))=true:=by simp;omega
   by_cases hl6:k<6
   ·have hl6b:decide ((k:Int)<6)=true:=by simp;omega
    obtain⟨g,o,x,hA,hx,hc0,hc1,hc2,hc3,hxo⟩:=(HR.o.below HBW.o).at_ hlt;subst hA;have HX:=Jh hx;have HXo:=Jh hxo;have HC:=Jh (And.intro hc0 (And.intro hc1 (And.intro hc2 hc3)));clear hx hxo hc0 hc1 hc2 hc3;go_upto_region 5 with fail
    obtain⟨xa,xb,xc,xd⟩:=x;dsimp only at HC HXo;obtain⟨b5,hb5⟩:=exE (wr.heap.size);have HB5:=Jh (show wr.heap.size<=b5 by omega);have HB5e:=Jh hb5;clear hb5
    have hq:∀(k:Nat) (l:Nat->Bool) (wx:World),k≠26->k≠27->(Below wr.heap.size wr wx/\(l 26=false->wx.heap.size=b5)/\(l 26=true->l 27=false->wx.heap[b5]?=some (.cells #[.int .i64 0,.int .i64 0,.int .i64 0,.int .i64 0] 44))/\(l 27=true->wx.heap[b5]?=some (.cells #[.int .i64 (pk xb 3),.int .i64 (1+pk xa 2),.int .i64 (pk xc 3),.int .i64 (pk xd 3)] 44)))->(Below wr.heap.size wr wx/\((decide (26=k)||l 26)=false->wx.heap.size=b5)/\((decide (26=k)||l 26)=true->(decide (27=k)||l 27)=false->wx.heap[b5]?=some (.cells #[.int .i64 0,.int .i64 0,.int .i64 0,.int .i64 0] 44))/\((decide (27=k)||l 27)=true->wx.heap[b5]?=some (.cells #[.int .i64 (pk xb 3),.int .i64 (1+pk xa 2),.int .i64 (pk xc 3),.int .i64 (pk xd 3)] 44))):=fun k l wx h1 h2 h=>by
     have e1:decide (26=k)=false:=by simp;omega
     have e2:decide (27=k)=false:=by simp;omega
     rw[e1,e2];exact h
    refine wp_region_det (by kernel_rfl) (fun f=>(⟨#[Value.slice (some ⟨g,o,none⟩) n c,undef,Value.slice none 0 0,u3,.int .i64 (k:Int),f 26,.int .i64 (k:Int),Value.slice (some ⟨g,o,none⟩) n c,.int .i64 (n:Int),Value.bool true,Value.bool true,.int .i64 (k:Int),Value.bool true,Value.bool true,u14,u15,f 0,f 1,f 2,f 3,f 4,f 5,f 6,f 7,f 8,f 9,f 10,f 11,f 12,f 13,f 14,f 15,f 16,f 17,f 18,f 19,f 20,f 21,f 22,f 23,f 24,f 25,u42,u43,u44,u45,u46,u47,u48,u49,u50,u51,u52,u53,u54,u55,undef],[]⟩:Act)) (fun(iv:Nat) (lv:Nat->Bool) (fv:Nat->Value) (wx:World)=>match iv with|0=>fv 0=.slice (some ⟨g,o,none⟩) n c|1=>fv 1=.int .i64 k|2=>fv 2=.pointer (some ⟨g,o+k*4,none⟩)|3=>fv 3=.pointer (some ⟨g,o+k*4+1,none⟩)|4=>fv 4=.int .i64 xb|5=>fv 5=.int .i64 (pk xb 3)|6=>fv 6=.slice (some ⟨g,o,none⟩) n c|7=>fv 7=.int .i64 k|8=>fv 8=.pointer (some ⟨g,o+k*4,none⟩)|9=>fv 9=.pointer (some ⟨g,o+k*4,none⟩)|10=>fv 10=.int .i64 xa|11=>fv 11=.int .i64 (pk xa 2)|12=>fv 12=.int .i64 (1+pk xa 2)|13=>fv 13=.slice (some ⟨g,o,none⟩) n c|14=>fv 14=.int .i64 k|15=>fv 15=.pointer (some ⟨g,o+k*4,none⟩)|16=>fv 16=.pointer (some ⟨g,o+k*4+2,none⟩)|17=>fv 17=.int .i64 xc|18=>fv 18=.int .i64 (pk xc 3)|19=>fv 19=.slice (some ⟨g,o,none⟩) n c|20=>fv 20=.int .i64 k|21=>fv 21=.pointer (some ⟨g,o+k*4,none⟩)|22=>fv 22=.pointer (some ⟨g,o+k*4+3,none⟩)|23=>fv 23=.int .i64 xd|24=>fv 24=.int .i64 (pk xd 3)|25=>fv 25=.agg #[.int .i64 (pk xb 3),.int .i64 (1+pk xa 2),.int .i64 (pk xc 3),.int .i64 (pk xd 3)]|26=>fv 26=.pointer (some ⟨b5,0,none⟩)|27=>True|_=>True) (fun(lv:Nat->Bool) (wx:World)=>Below wr.heap.size wr wx/\(lv 26=false->wx.heap.size=b5)/\(lv 26=true->lv 27=false->wx.heap[b5]?=some (.cells #[.int .i64 0,.int .i64 0,.int .i64 0,.int .i64 0] 44))/\(lv 27=true->wx.heap[b5]?=some (.cells #[.int .i64 (pk xb 3),.int .i64 (1+pk xa 2),.int .i64 (pk xc 3),.int .i64 (pk xd 3)] 44))) (fun(_:Nat) (_:World) (_:World)=>True) (by kernel_rfl) (fun k=>match k with|0=>u16|1=>u17|2=>u18|3=>u19|4=>u20|5=>u21|6=>u22|7=>u23|8=>u24|9=>u25|10=>u26|11=>u27|12=>u28|13=>u29|14=>u30|15=>u31|16=>u32|17=>u33|18=>u34|19=>u35|20=>u36|21=>u37|22=>u38|23=>u39|24=>u40|25=>u41|26=>u5|_=>undef) rfl ?keep ⟨bD (bR wr),fun _=>HB5e.o.symm,fun h=>absurd h (by simp),fun h=>absurd h (by simp)⟩ ?steps ?fin
    case keep=>
     intro iv j hij hd l f f' w1 w2 hf hR
     match j with
     |0|1|2|3|4|5|6|7|8|9|10|11|12|13|14|15|16|17|18|19|20|21|22|23|24|25|26=>exact fun h=>(hf _ (Ne.symm hij)).trans h
     |27=>intro h;have h:True:=h;show True;exact trivial
     |_+28=>exact id
    case steps=>
     refine fun iv hiv=>stepsOf_at (k:=0) (n:=28) ?_ iv (Nat.zero_le _) (by rw[Nat.zero_add];exact hiv);refine sD 0 27 aT0 [] (fun f wq l hl hun hdn hS hd K' HK=>?_) ?_
     ·clear hd;have HSS:=Jh hS;clear hS;go_simp;exact HK.o _ _ _ rfl rfl (hq 0 l _ (by decide) (by decide) HSS.o) trivial
     refine sD 1 26 aT1 [] (fun f wq l hl hun hdn hS hd K' HK=>?_) ?_
     ·clear hd;have HSS:=Jh hS;clear hS;go_simp;exact HK.o _ _ _ rfl rfl (hq 1 l _ (by decide) (by decide) HSS.o) trivial
     refine sD 2 25 aT2 [0,1] (fun f wq l hl hun hdn hS hd K' HK=>?_) ?_
     ·obtain⟨e0,e1,-⟩:=hd;have e0:f 0=_:=e0;have e1:f 1=_:=e1;have HSS:=Jh hS;clear hS;simp only[e0,e1];have hkn:(k:Int)<(n:Int):=by omega
      go_simp;exact HK.o _ _ _ (by simp only[e0,e1];rfl) rfl (hq 2 l _ (by decide) (by decide) HSS.o) trivial
     refine sD 3 24 aT3 [2] (fun f wq l hl hun hdn hS hd K' HK=>?_) ?_
     ·obtain⟨e2,-⟩:=hd;have e2:f 2=_:=e2;have HSS:=Jh hS;clear hS;simp only[e2];go_simp;exact HK.o _ _ _ (by simp only[e2];rfl) rfl (hq 3 l _ (by decide) (by decide) HSS.o) trivial
     refine sD 4 23 aT4 [3] (fun f wq l hl hun hdn hS hd K' HK=>?_) ?_
     ·obtain⟨e3,-⟩:=hd;have e3:f 3=_:=e3;have hc:=(hS.1.cell (cell_lt HC.o.2.1)).trans HC.o.2.1;have HSS:=Jh hS;clear hS;simp only[e3];go_simp;exact HK.o _ _ _ (by simp only[e3];rfl) rfl (hq 4 l _ (by decide) (by decide) HSS.o) trivial
     refine sD 5 22 aT5 [4] (fun f wq l hl hun hdn hS hd K' HK=>?_) ?_
     ·obtain⟨e4,-⟩:=hd;have e4:f 4=_:=e4;have HSS:=Jh hS;clear hS;simp only[e4];have HCl:=Jh (pick48_any xb 3 wq (by omega) HXo.o.2.1.1 HXo.o.2.1.2);go_simp;go_wp2_with fail;refine HCl.o.mono ?_;rintro e w9 ⟨rfl,rfl⟩;exact HK.o _ _ _ (by simp only[e4];rfl) rfl (hq 5 l _ (by decide) (by decide) HSS.o) trivial
     refine sD 6 21 aT6 [] (fun f wq l hl hun hdn hS hd K' HK=>?_) ?_
     ·clear hd;have HSS:=Jh hS;clear hS;go_simp;exact HK.o _ _ _ rfl rfl (hq 6 l _ (by decide) (by decide) HSS.o) trivial
     refine sD 7 20 aT7 [] (fun f wq l hl hun hdn hS hd K' HK=>?_) ?_
     ·clear hd;have HSS:=Jh hS;clear hS;go_simp;exact HK.o _ _ _ rfl rfl (hq 7 l _ (by decide) (by decide) HSS.o) trivial
     refine sD 8 19 aT8 [6,7] (fun f wq l hl hun hdn hS hd K' HK=>?_) ?_
     ·obtain⟨e6,e7,-⟩:=hd;have e6:f 6=_:=e6;have e7:f 7=_:=e7;have HSS:=Jh hS;clear hS;simp only[e6,e7];have hkn:(k:Int)<(n:Int):=by omega
      go_simp;exact HK.o _ _ _ (by simp only[e6,e7];rfl) rfl (hq 8 l _ (by decide) (by decide) HSS.o) trivial
     refine sD 9 18 aT9 [8] (fun f wq l hl hun hdn hS hd K' HK=>?_) ?_
     ·obtain⟨e8,-⟩:=hd;have e8:f 8=_:=e8;have HSS:=Jh hS;clear hS;simp only[e8];go_simp;exact HK.o _ _ _ (by simp only[e8];rfl) rfl (hq 9 l _ (by decide) (by decide) HSS.o) trivial
     refine sD 10 17 aT10 [9] (fun f wq l hl hun hdn hS hd K' HK=>?_) ?_
     ·obtain⟨e9,-⟩:=hd;have e9:f 9=_:=e9;have hc:=(hS.1.cell (cell_lt HC.o.1)).trans HC.o.1;have HSS:=Jh hS;clear hS;simp only[e9];go_simp;exact HK.o _ _ _ (by simp only[e9];rfl) rfl (hq 10 l _ (by decide) (by decide) HSS.o) trivial
     refine sD 11 16 aT11 [10] (fun f wq l hl hun hdn hS hd K' HK=>?_) ?_
     ·obtain⟨e10,-⟩:=hd;have e10:f 10=_:=e10;have HSS:=Jh hS;clear hS;simp only[e10];have HCl:=Jh (pick48_any xa 2 wq (by omega) HXo.o.1.1 HXo.o.1.2);go_simp;go_wp2_with fail;refine HCl.o.mono ?_;rintro e w9 ⟨rfl,rfl⟩;exact HK.o _ _ _ (by simp only[e10];rfl) rfl (hq 11 l _ (by decide) (by decide) HSS.o) trivial
     refine sD 12 15 aT12 [11] (fun f wq l hl hun hdn hS hd K' HK=>?_) ?_
     ·obtain⟨e11,-⟩:=hd;have e11:f 11=_:=e11;have HSS:=Jh hS;clear hS;have hw1:IntKind.i64.wrap (1+pk xa 2)=1+pk xa 2:=IntWalk.i64_in _ (by have h1:=pk_lo xa 2 (by omega);have h2:=pk_hi xa 2 (by omega);omega);simp only[e11];go_simp;exact HK.o _ _ _ (by simp only[e11];rfl) rfl (hq 12 l _ (by decide) (by decide) HSS.o) trivial
     refine sD 13 14 aT13 [] (fun f wq l hl hun hdn hS hd K' HK=>?_) ?_
     ·clear hd;have HSS:=Jh hS;clear hS;go_simp;exact HK.o _ _ _ rfl rfl (hq 13 l _ (by decide) (by decide) HSS.o) trivial
     refine sD 14 13 aT14 [] (fun f wq l hl hun hdn hS hd K' HK=>?_) ?_
     ·clear hd;have HSS:=Jh hS;clear hS;go_simp;exact HK.o _ _ _ rfl rfl (hq 14 l _ (by decide) (by decide) HSS.o) trivial
     refine sD 15 12 aT15 [13,14] (fun f wq l hl hun hdn hS hd K' HK=>?_) ?_
     ·obtain⟨e13,e14,-⟩:=hd;have e13:f 13=_:=e13;have e14:f 14=_:=e14;have HSS:=Jh hS;clear hS;simp only[e13,e14];have hkn:(k:Int)<(n:Int):=by omega
      go_simp;exact HK.o _ _ _ (by simp only[e13,e14];rfl) rfl (hq 15 l _ (by decide) (by decide) HSS.o) trivial
     refine sD 16 11 aT16 [15] (fun f wq l hl hun hdn hS hd K' HK=>?_) ?_
     ·obtain⟨e15,-⟩:=hd;have e15:f 15=_:=e15;have HSS:=Jh hS;clear hS;simp only[e15];go_simp;exact HK.o _ _ _ (by simp only[e15];rfl) rfl (hq 16 l _ (by decide) (by decide) HSS.o) trivial
     refine sD 17 10 aT17 [16] (fun f wq l hl hun hdn hS hd K' HK=>?_) ?_
     ·obtain⟨e16,-⟩:=hd;have e16:f 16=_:=e16;have hc:=(hS.1.cell (cell_lt HC.o.2.2.1)).trans HC.o.2.2.1;have HSS:=Jh hS;clear hS;simp only[e16];go_simp;exact HK.o _ _ _ (by simp only[e16];rfl) rfl (hq 17 l _ (by decide) (by decide) HSS.o) trivial
     refine sD 18 9 aT18 [17] (fun f wq l hl hun hdn hS hd K' HK=>?_) ?_
     ·obtain⟨e17,-⟩:=hd;have e17:f 17=_:=e17;have HSS:=Jh hS;clear hS;simp only[e17];have HCl:=Jh (pick48_any xc 3 wq (by omega) HXo.o.2.2.1.1 HXo.o.2.2.1.2);go_simp;go_wp2_with fail;refine HCl.o.mono ?_;rintro e w9 ⟨rfl,rfl⟩;exact HK.o _ _ _ (by simp only[e17];rfl) rfl (hq 18 l _ (by decide) (by decide) HSS.o) trivial
     refine sD 19 8 aT19 [] (fun f wq l hl hun hdn hS hd K' HK=>?_) ?_
     ·clear hd;have HSS:=Jh hS;clear hS;go_simp;exact HK.o _ _ _ rfl rfl (hq 19 l _ (by decide) (by decide) HSS.o) trivial
     refine sD 20 7 aT20 [] (fun f wq l hl hun hdn hS hd K' HK=>?_) ?_
     ·clear hd;have HSS:=Jh hS;clear hS;go_simp;exact HK.o _ _ _ rfl rfl (hq 20 l _ (by decide) (by decide) HSS.o) trivial
     refine sD 21 6 aT21 [19,20] (fun f wq l hl hun hdn hS hd K' HK=>?_) ?_
     ·obtain⟨e19,e20,-⟩:=hd;have e19:f 19=_:=e19;have e20:f 20=_:=e20;have HSS:=Jh hS;clear hS;simp only[e19,e20];have hkn:(k:Int)<(n:Int):=by omega
      go_simp;exact HK.o _ _ _ (by simp only[e19,e20];rfl) rfl (hq 21 l _ (by decide) (by decide) HSS.o) trivial
     refine sD 22 5 aT22 [21] (fun f wq l hl hun hdn hS hd K' HK=>?_) ?_
     ·obtain⟨e21,-⟩:=hd;have e21:f 21=_:=e21;have HSS:=Jh hS;clear hS;simp only[e21];go_simp;exact HK.o _ _ _ (by simp only[e21];rfl) rfl (hq 22 l _ (by decide) (by decide) HSS.o) trivial
     refine sD 23 4 aT23 [22] (fun f wq l hl hun hdn hS hd K' HK=>?_) ?_
     ·obtain⟨e22,-⟩:=hd;have e22:f 22=_:=e22;have hc:=(hS.1.cell (cell_lt HC.o.2.2.2)).trans HC.o.2.2.2;have HSS:=Jh hS;clear hS;simp only[e22];go_simp;exact HK.o _ _ _ (by simp only[e22];rfl) rfl (hq 23 l _ (by decide) (by decide) HSS.o) trivial
     refine sD 24 3 aT24 [23] (fun f wq l hl hun hdn hS hd K' HK=>?_) ?_
     ·obtain⟨e23,-⟩:=hd;have e23:f 23=_:=e23;have HSS:=Jh hS;clear hS;simp only[e23];have HCl:=Jh (pick48_any xd 3 wq (by omega) HXo.o.2.2.2.1 HXo.o.2.2.2.2);go_simp;go_wp2_with fail;refine HCl.o.mono ?_;rintro e w9 ⟨rfl,rfl⟩;exact HK.o _ _ _ (by simp only[e23];rfl) rfl (hq 24 l _ (by decide) (by decide) HSS.o) trivial
     refine sD 25 2 aT25 [5,12,18,24] (fun f wq l hl hun hdn hS hd K' HK=>?_) ?_
     ·obtain⟨e5,e12,e18,e24,-⟩:=hd;have e5:f 5=_:=e5;have e12:f 12=_:=e12;have e18:f 18=_:=e18;have e24:f 24=_:=e24;have HSS:=Jh hS;clear hS;simp only[e5,e12,e18,e24];go_simp;exact HK.o _ _ _ (by simp only[e5,e12,e18,e24];rfl) rfl (hq 25 l _ (by decide) (by decide) HSS.o) trivial
     refine sD 26 1 aT26 [] (fun f wq l hl hun hdn hS hd K' HK=>?_) ?_
     ·clear hd;have HSz:=Jh (hS.2.1 hl);have hb5:=heap_alloc_new wq (.cells #[.int .i64 0,.int .i64 0,.int .i64 0,.int .i64 0] 44);rw[HSz.o] at hb5;have HN5:=Jh hb5;have h27:=hun 27 (of_decide_eq_true (by kernel_rfl));clear hb5;have HSS:=Jh hS;clear hS;go_simp
      exact HK.o _ _ _ rfl (show Value.pointer (some ⟨wq.heap.size,0,none⟩)=.pointer (some ⟨b5,0,none⟩) by rw[HSz.o]) ⟨bA HSS.o.1,fun h=>absurd h (by simp),fun _ _=>HN5.o,fun h=>absurd h (by simp[h27])⟩ trivial
     refine sD 27 0 aT27 [25,26] (fun f wq l hl hun hdn hS hd K' HK=>?_) ?_
     ·obtain⟨e25,e26,-⟩:=hd;have e25:f 25=_:=e25;have e26:f 26=_:=e26;have hb5:=hS.2.2.1 (hdn 26 (of_decide_eq_true (by kernel_rfl))) hl;obtain⟨z0,z1,z2,z3,y0,y1,y2,y3⟩:=cells4 hb5;have hset:=set4 (x':=.int .i64 (pk xb 3)) (y':=.int .i64 (1+pk xa 2)) (z':=.int .i64 (pk xc 3)) (u':=.int .i64 (pk xd 3)) hb5;have h26:=hdn 26 (of_decide_eq_true (by kernel_rfl));have HSS:=Jh hS;clear hS;have H5q:=Jh hset
      clear hset hb5;simp only[e25,e26];go_simp;exact HK.o undef _ _ (by simp only[e25,e26];rfl) trivial ⟨bS (bS (bS (bS HSS.o.1 HB5.o) HB5.o) HB5.o) HB5.o,fun h=>absurd (h26.symm.trans (by simpa using h)) (by simp),fun _ h=>absurd h (by simp),fun _=>H5q.o⟩ trivial
     exact trivial
    case fin=>
     intro fo wz lo hl hall hS;have a26:fo 26=_:=hall 26 (by decide);clear hall;simp only[a26];clear a26 hq;obtain⟨wE,rfl⟩:=exE wz;have H5:=Jh (hS.2.2.2 (hl 27 (by decide)));have HBE:=Jh hS.1;clear hS hl;have hc0:=(HBE.o.cell (cell_lt HC.o.1)).trans HC.o.1;have hkn:(k:Int)<(n:Int):=by omega
     have HCl:=Jh (pick48_any xa 7 wE (by omega) HXo.o.1.1 HXo.o.1.2);have HSz:=Jh (blk_lt H5.o);go_wp2_with fail;refine HCl.o.mono ?_;rintro e w9 ⟨rfl,rfl⟩;obtain⟨z0,z1,z2,z3,y0,y1,y2,y3⟩:=cells4 H5.o;by_cases h7:pk xa 7=6
     ·have h7b:(pk xa 7==6)=true:=by simpa using h7
      go_upto_region 8 with fail
      obtain⟨wF,hwF⟩:=exE ((((wE.setCell ⟨b5,0,none⟩ (.int .i64 (pk xb 3))).setCell ⟨b5,1,none⟩ (.int .i64 3)).setCell ⟨b5,2,none⟩ (.int .i64 0)).setCell ⟨b5,3,none⟩ (.int .i64 0));rw[<-hwF];have H5F:=Jh (show wF.heap[b5]?=some (.cells #[.int .i64 (pk xb 3),.int .i64 3,.int .i64 0,.int .i64 0] 44) from by rw[hwF];exact set4 H5.o)
      have HBF:=Jh (show Below wr.heap.size wr wF from by rw[hwF];exact bS (bS (bS (bS HBE.o HB5.o) HB5.o) HB5.o) HB5.o);clear hwF z0 z1 z2 z3 y0 y1 y2 y3;obtain⟨z0,z1,z2,z3,y0,y1,y2,y3⟩:=cells4 H5F.o;have HOF:=Jh (own_tk (T:=[]) HO.o (Tk.below (bA (o:=.cells #[.int .i64 (pk xb 3),.int .i64 3,.int .i64 0,.int .i64 0] 44) HBF.o)) (by simp))
      have HBG:=Jh (bT HBW.o (bA (o:=.cells #[.int .i64 (pk xb 3),.int .i64 3,.int .i64 0,.int .i64 0] 44) HBF.o));have hlen:((L.take k).map evR).length=k:=by rw[List.length_map,List.length_take,HR.o.len];omega
      have HLen:=Jh hlen;rw[HLen.o] at HOF;obtain⟨Ao,co,hAo,hco,_⟩:=own_slice HOF.o;subst hAo;have HEv:=Jh (show evR ⟨xa,xb,xc,xd⟩=⟨pk xb 3,3,0,0⟩ from by unfold evR;rw[if_pos h7]);have HNw:=Jh (heap_alloc_new wF (.cells #[.int .i64 (pk xb 3),.int .i64 3,.int .i64 0,.int .i64 0] 44))
      have HTk:=Jh (show(L.take (k+1)).map evR=(L.take k).map evR++[⟨pk xb 3,3,0,0⟩] from by rw[List.take_add_one,HX.o,List.map_append];simp[HEv.o]);clear hlen hco
      go_wp2_with (at_builtin;refine wpList_append_rd _ rfl (.tmp 52) (.tmp 54) 22 rfl w.heap.size 44 i0 _ 4 32 Tryz.underlying22 hi hz0 hz1 hz2 rfl (by decide) (.slice Ao k co) k _ rfl HOF.o (some ⟨wF.heap.size,0,none⟩) 1 1 [.int .i64 (pk xb 3),.int .i64 3,.int .i64 0,.int .i64 0] rfl ⟨rfl,fun _=>⟨wF.heap.size,0,rfl,blk_lt HNw.o,fun j u hu=>by rw[cell_of_row _ _ _ _ _ _ HNw.o,Nat.zero_add,<-hu];simp⟩⟩ (by simp[Value.oneCell']) (by unfold maxLen;omega) (by omega) (by have:=HBG.o.size;omega) ?_;intro v' w3 hown' hgrow)
      go_roundw
      case rel=>
       refine⟨k+1,by omega,by omega,by go_num,?_,HBG.o.grown hgrow HBG.o.size (fun r e=>(HOF.o.lt r e).1)⟩;rw[HTk.o,List.length_append,HLen.o];have he:evCells ((L.take k).map evR++[⟨pk xb 3,3,0,0⟩])=evCells ((L.take k).map evR)++[.int .i64 (pk xb 3),.int .i64 3,.int .i64 0,.int .i64 0]:=by simp[evCells]
       rw[he];exact hown'
      case measure=>simp[intOf];omega
     have h7b:(pk xa 7==6)=false:=by simpa using h7
     go_upto_region 8 with fail
     obtain⟨wF,hwF⟩:=exE (wE);rw[<-hwF];have H5F:=Jh (show wF.heap[b5]?=some (.cells #[.int .i64 (pk xb 3),.int .i64 (1+pk xa 2),.int .i64 (pk xc 3),.int .i64 (pk xd 3)] 44) from by rw[hwF];exact H5.o);have HBF:=Jh (show Below wr.heap.size wr wF from by rw[hwF];exact HBE.o);clear hwF z0 z1 z2 z3 y0 y1 y2 y3;obtain⟨z0,z1,z2,z3,y0,y1,y2,y3⟩:=cells4 H5F.o
     have HOF:=Jh (own_tk (T:=[]) HO.o (Tk.below (bA (o:=.cells #[.int .i64 (pk xb 3),.int .i64 (1+pk xa 2),.int .i64 (pk xc 3),.int .i64 (pk xd 3)] 44) HBF.o)) (by simp));have HBG:=Jh (bT HBW.o (bA (o:=.cells #[.int .i64 (pk xb 3),.int .i64 (1+pk xa 2),.int .i64 (pk xc 3),.int .i64 (pk xd 3)] 44) HBF.o));have hlen:((L.take k).map evR).length=k:=by rw[List.length_map,List.length_take,HR.o.len];omega
     have HLen:=Jh hlen;rw[HLen.o] at HOF;obtain⟨Ao,co,hAo,hco,_⟩:=own_slice HOF.o;subst hAo;have HEv:=Jh (show evR ⟨xa,xb,xc,xd⟩=⟨pk xb 3,1+pk xa 2,pk xc 3,pk xd 3⟩ from by unfold evR;rw[if_neg h7]);have HNw:=Jh (heap_alloc_new wF (.cells #[.int .i64 (pk xb 3),.int .i64 (1+pk xa 2),.int .i64 (pk xc 3),.int .i64 (pk xd 3)] 44))
     have HTk:=Jh (show(L.take (k+1)).map evR=(L.take k).map evR++[⟨pk xb 3,1+pk xa 2,pk xc 3,pk xd 3⟩] from by rw[List.take_add_one,HX.o,List.map_append];simp[HEv.o]);clear hlen hco
     go_wp2_with (at_builtin;refine wpList_append_rd _ rfl (.tmp 52) (.tmp 54) 22 rfl w.heap.size 44 i0 _ 4 32 Tryz.underlying22 hi hz0 hz1 hz2 rfl (by decide) (.slice Ao k co) k _ rfl HOF.o (some ⟨wF.heap.size,0,none⟩) 1 1 [.int .i64 (pk xb 3),.int .i64 (1+pk xa 2),.int .i64 (pk xc 3),.int .i64 (pk xd 3)] rfl ⟨rfl,fun _=>⟨wF.heap.size,0,rfl,blk_lt HNw.o,fun j u hu=>by rw[cell_of_row _ _ _ _ _ _ HNw.o,Nat.zero_add,<-hu];simp⟩⟩ (by simp[Value.oneCell']) (by unfold maxLen;omega) (by omega) (by have:=HBG.o.size;omega) ?_;intro v' w3 hown' hgrow)
     go_roundw
     case rel=>
      refine⟨k+1,by omega,by omega,by go_num,?_,HBG.o.grown hgrow HBG.o.size (fun r e=>(HOF.o.lt r e).1)⟩;rw[HTk.o,List.length_append,HLen.o];have he:evCells ((L.take k).map evR++[⟨pk xb 3,1+pk xa 2,pk xc 3,pk xd 3⟩])=evCells ((L.take k).map evR)++[.int .i64 (pk xb 3),.int .i64 (1+pk xa 2),.int .i64 (pk xc 3),.int .i64 (pk xd 3)]:=by simp[evCells]
      rw[he];exact hown'
     case measure=>simp[intOf];omega
   have hl6b:decide ((k:Int)<6)=false:=by simp;omega
   have HF:=Jh (show(L.take k).map evR=fitR L from by rw[show k=6 by omega];rfl);go_wp2_with fail;go_ret;exact⟨⟨_,rfl,by rw[<-HF.o];exact HO.o⟩,HBW.o⟩
  have hlb:decide ((k:Int)<(n:Int))=false:=by simp;omega
  have HF:=Jh (show(L.take k).map evR=fitR L from by have:=HR.o.len;unfold fitR;rw[List.take_of_length_le (by omega),List.take_of_length_le (by omega)]);go_wp2_with fail;go_ret;exact⟨⟨_,rfl,by rw[<-HF.o];exact HO.o⟩,HBW.o⟩
end Go.Proofs.YtnigadeohmlpiaaGreatDoor
namespace Go.Proofs.YtnigadeohmlpiaaGreatDoor
open Go.RowKit
attribute [local go_sem] Oper.semAt_some
theorem own_take{w:World}{base:Nat}{e:TypeId}{size n m c g:Nat}{xs:List Value}(h:w.ownsRow base e size (.slice (some ⟨g,0,none⟩) n c) n xs)(hm:m<=n):w.ownsRow base e size (.slice (some ⟨g,0,none⟩) m c) m (xs.take (m*size)):=by
 have hms:=Nat.mul_le_mul_right size hm;refine⟨by rw[List.length_take,h.1];omega,?_⟩;rcases h.2 with⟨h1,_⟩|⟨g',cap,cur,h1,h2,h3,h4,h5,h6,h7⟩
 ·cases h1
 injection h1 with h1 _ h8
 refine .inr ⟨g',cap,cur,by rw[h1,h8],h2,h3,by omega,h5,h6,?_⟩;rw[<-h7,List.take_take,Nat.min_eq_left hms]
theorem evCells_take(l:List Ev)(m:Nat):evCells (l.take m)=(evCells l).take (m*4):=by
 induction l generalizing m with
 |nil=>simp[evCells]
 |cons x l ih=>
  cases m with
  |zero=>simp[evCells]
  |succ m=>have h:∀l:List Ev,evCells (x::l)=.int .i64 x.h::.int .i64 x.k::.int .i64 x.a::.int .i64 x.n::evCells l:=fun _=>rfl;rw[List.take_succ_cons,h,h,ih,show(m+1)*4=m*4+4 by omega];rfl
def zl(l:List Ev):Nat->List Ev
 |0=>l
 |k+1=>match l[k]?with
  |some e=>if e.k=1 then setN (zl l k) k 0 else zl l k
  |none=>zl l k
theorem zl_len(l:List Ev):∀k,(zl l k).length=l.length
 |0=>rfl
 |k+1=>by
  rw[zl];split
  ·split
   ·rw[setN_len,zl_len l k]
   exact zl_len l k
  exact zl_len l k
theorem zl_at(l:List Ev):∀(k i:Nat) (e:Ev),l[i]?=some e->(zl l k)[i]?=some (if i<k/\e.k=1 then e.tell 0 else e)
 |0,i,e,h=>by simpa[zl] using h
 |k+1,i,e,h=>by
  have ih:=zl_at l k i e h;have hil:=(List.getElem?_eq_some_iff.1 h).1;rw[zl];cases hk:l[k]?with
  |none=>
   have:l.length<=k:=by rw[List.getElem?_eq_none_iff] at hk;exact hk
   dsimp only;rw[ih];congr 1;have h1:i<k:=by omega
   have h2:i<k+1:=by omega
   simp[h1,h2]
  |some x=>
   dsimp only;by_cases hki:k=i
   ·subst hki;rw[h] at hk;obtain rfl:=Option.some.inj hk;by_cases h1:e.k=1
    ·rw[if_pos h1,setN_at,if_pos rfl,ih];simp[h1]
    rw[if_neg h1,ih];simp[h1]
   have h2:(i<k+1)=(i<k):=by simp;omega
   split
   ·rw[setN_at,if_neg hki,ih];simp only[h2]
   rw[ih];simp only[h2]
theorem zl_prog{l:List Ev}(hl:l.length<=6)(hok:∀e∈l,e.Ok):Prog (zl l l.length):=by
 have key:∀e∈zl l l.length,∃x∈l,e=if x.k=1 then x.tell 0 else x:=by
  intro e he;obtain⟨i,hi⟩:=List.getElem?_of_mem he;have hil:i<l.length:=by have:=(List.getElem?_eq_some_iff.1 hi).1;rwa[zl_len] at this
  have:=zl_at l l.length i l[i] (List.getElem?_eq_getElem hil);rw[hi] at this;refine⟨l[i],List.getElem_mem hil,?_⟩;have:=Option.some.inj this;simpa[hil] using this
 refine⟨by rw[zl_len];exact hl,fun e he=>?_,fun e he hk=>?_⟩
 ·obtain⟨x,hx,rfl⟩:=key e he;have h:=hok x hx;split
  ·rename_i h1;exact⟨h.h,h.k,h.a,i32_zero,fun h3=>by have h3:x.k=3:=h3;omega⟩
  exact h
 obtain⟨x,hx,rfl⟩:=key e he;split at hk
 ·rw[if_pos (by assumption)];rfl
 rename_i h1;exact absurd hk h1
def fitL(L:List R4):List Ev:=zl ((fitR L).take 5) ((fitR L).take 5).length
theorem fitL_prog(L:List R4):Prog (fitL L):=by refine zl_prog (by rw[List.length_take];omega) fun e he=>?_;obtain⟨x,_,rfl⟩:=List.mem_map.1 (List.mem_of_mem_take he);exact evR_ok x
theorem fitL_len(L:List R4):(fitL L).length<=5:=by unfold fitL;rw[zl_len,List.length_take];omega
theorem fit11_any(A:Option Addr)(n c:Nat)(L:List R4)(w:World)(h:IsRaw w A n L)(hn:n<=9223372036854775807):
  Calls Tryz.prog 11 #[.slice A n c] w fun o w'=>(∃A' c',o=.returned (.slice A' (fitL L).length c')/\w'.ownsRow w.heap.size 44 4 (.slice A' (fitL L).length c') (fitL L).length (evCells (fitL L))/\(fitL L).length<=c')/\Below w.heap.size w w':=by
 have HF:=Jh (fit27_any A n c L w h hn);clear h;go_enter Tryz.func11,Tryz.ntmps11;go_wp2_with fail;refine HF.o.mono ?_;rintro o w1 ⟨⟨v,rfl,hown⟩,hb1⟩;have HB1:=Jh hb1;obtain⟨A1,c1,rfl,hc1,_⟩:=own_slice hown;obtain⟨m,hm⟩:=exE ((fitR L).length);rw[<-hm] at hown hc1⊢;have HO:=Jh hown;have HM:=Jh hm;have hm6:m<=6:=by rw[hm];unfold fitR;rw[List.length_map,List.length_take];omega
 clear hown hb1 hm;by_cases h5:5<m
 ·have h5b:decide (5<(m:Int))=true:=by simp;omega
  obtain⟨g,e1,hg0,hg,_⟩:=own_form HO.o (by omega);injection hg0 with hA1 _ he1
  subst hA1;subst he1;have HGl:=Jh hg;have e1:(Value.slice (some ⟨g,0,none⟩) m c1)=.slice (some ⟨g,0,none⟩) m c1:=rfl;have h5m:(5:Int)<=(m:Int):=by omega
  have h5c:(5:Int)<=(c1:Int):=by omega
  go_wp2_with fail;obtain⟨l0,hl0⟩:=exE ((fitR L).take 5);have HL0:=Jh hl0;have HO0:=Jh (show w1.ownsRow w.heap.size 44 4 (.slice (some ⟨g,0,none⟩) 5 c1) 5 (evCells l0) from by rw[hl0];exact(by rw[evCells_take];exact own_take HO.o (by omega)));have HLen:=Jh (show l0.length=5 from by have:=HM.o;rw[hl0,List.length_take];omega);have HC1:=Jh (show 5<=c1 from by omega);clear hl0 HO hc1
  go_loopw [4] (fun x wr=>∃k:Nat,k<=5/\x=.int .i64 k/\wr.ownsRow w.heap.size 44 4 (.slice (some ⟨g,0,none⟩) 5 c1) 5 (evCells (zl l0 k))/\Below w.heap.size w wr) (fun x _=>5-(intOf x).toNat);case atStart=>exact⟨0,by omega,rfl,HO0.o,HB1.o⟩
  case round=>
   obtain⟨k,hk,rfl,hown,hbw⟩:=hrel;have HO:=Jh hown;have HBW:=Jh hbw;clear hown hbw;by_cases hlt:k<5
   ·have hlb:decide ((k:Int)<5)=true:=by simp;omega
    skip
    have hkl:k<l0.length:=by rw[HLen.o];exact hlt
    have hkz:(zl l0 k)[k]?=some l0[k]:=by rw[zl_at l0 k k l0[k] (List.getElem?_eq_getElem hkl)];simp
    obtain⟨hc0,hc1,hc2,hc3⟩:=ev_at (zl l0 k) k _ hkz;have g0:=HO.o.cellAt (k*4+1) (by omega);rw[hc1] at g0;have hfz:=HO.o.frozenAt (k*4+3);have g3:=HO.o.cellAt (k*4+3) (by omega);rw[hc3] at g3;obtain⟨ek,hek⟩:=exE (l0[k].k);rw[<-hek] at g0;have HEk:=Jh hek;have HX:=Jh (show l0[k]?=some l0[k] from List.getElem?_eq_getElem hkl);have HLt:=Jh hkl;have hkn:(k:Int)<5:=by omega
    have HG:=Jh hg;have HSt:=Jh (HO.o.stored (k*4+3) (.int .i64 0));clear hkz hc0 hc1 hc2 hc3 hek;by_cases h1:ek=1
    ·have h1b:(ek==1)=true:=by simpa using h1
     have HZ:=Jh (show zl l0 (k+1)=setN (zl l0 k) k 0 from by have hkl:=HLt.o;rw[zl,HX.o];dsimp only;rw[if_pos (HEk.o.symm.trans h1)]);clear h1;go_wp2_with fail;go_roundw;case rel=>refine⟨k+1,by omega,by go_num,?_,bS HBW.o HG.o⟩;rw[HZ.o,setN_cells _ _ _ (by rw[zl_len];exact HLt.o)];exact HSt.o.1
     case measure=>simp[intOf];omega
    have h1b:(ek==1)=false:=by simpa using h1
    have HZ:=Jh (show zl l0 (k+1)=zl l0 k from by have hkl:=HLt.o;rw[zl,HX.o];dsimp only;rw[if_neg (fun h=>h1 (HEk.o.trans h))]);clear h1;go_wp2_with fail;go_roundw;case rel=>exact⟨k+1,by omega,by go_num,by rw[HZ.o];exact HO.o,HBW.o⟩
    case measure=>simp[intOf];omega
   have hlb:decide ((k:Int)<5)=false:=by simp;omega
   have HE:=Jh (show zl l0 k=fitL L/\(fitL L).length=5 from by
    have h1:=HLen.o;have h2:k=5:=by omega
    unfold fitL;rw[<-HL0.o,zl_len,h1,h2];exact⟨rfl,rfl⟩)
   go_wp2_with fail;go_ret;rw[HE.o.2,<-HE.o.1];exact⟨⟨_,_,rfl,HO.o,HC1.o⟩,HBW.o⟩
 have h5b:decide (5<(m:Int))=false:=by simp;omega
 go_wp2_with fail;obtain⟨l0,hl0⟩:=exE ((fitR L).take 5);have HL0:=Jh hl0;have HO0:=Jh (show w1.ownsRow w.heap.size 44 4 (.slice A1 m c1) m (evCells l0) from by rw[hl0];exact(by rw[List.take_of_length_le (by have:=HM.o;omega)];exact HO.o));have HLen:=Jh (show l0.length=m from by have:=HM.o;rw[hl0,List.length_take];omega);have HC1:=Jh (show m<=c1 from hc1);clear hl0 HO hc1
 go_loopw [4] (fun x wr=>∃k:Nat,k<=m/\x=.int .i64 k/\wr.ownsRow w.heap.size 44 4 (.slice A1 m c1) m (evCells (zl l0 k))/\Below w.heap.size w wr) (fun x _=>m-(intOf x).toNat);case atStart=>exact⟨0,by omega,rfl,HO0.o,HB1.o⟩
 case round=>
  obtain⟨k,hk,rfl,hown,hbw⟩:=hrel;have HO:=Jh hown;have HBW:=Jh hbw;clear hown hbw;by_cases hlt:k<m
  ·have hlb:decide ((k:Int)<(m:Int))=true:=by simp;omega
   obtain⟨g,e1,hg0,hg,_⟩:=own_form HO.o (by omega);injection hg0 with hA1 _ _
   subst hA1;have hkl:k<l0.length:=by rw[HLen.o];exact hlt
   have hkz:(zl l0 k)[k]?=some l0[k]:=by rw[zl_at l0 k k l0[k] (List.getElem?_eq_getElem hkl)];simp
   obtain⟨hc0,hc1,hc2,hc3⟩:=ev_at (zl l0 k) k _ hkz;have g0:=HO.o.cellAt (k*4+1) (by omega);rw[hc1] at g0;have hfz:=HO.o.frozenAt (k*4+3);have g3:=HO.o.cellAt (k*4+3) (by omega);rw[hc3] at g3;obtain⟨ek,hek⟩:=exE (l0[k].k);rw[<-hek] at g0;have HEk:=Jh hek;have HX:=Jh (show l0[k]?=some l0[k] from List.getElem?_eq_getElem hkl);have HLt:=Jh hkl;have hkn:(k:Int)<(m:Int):=by omega
   have HG:=Jh hg;have HSt:=Jh (HO.o.stored (k*4+3) (.int .i64 0));clear hkz hc0 hc1 hc2 hc3 hek;by_cases h1:ek=1
   ·have h1b:(ek==1)=true:=by simpa using h1
    have HZ:=Jh (show zl l0 (k+1)=setN (zl l0 k) k 0 from by have hkl:=HLt.o;rw[zl,HX.o];dsimp only;rw[if_pos (HEk.o.symm.trans h1)]);clear h1;go_wp2_with fail;go_roundw;case rel=>refine⟨k+1,by omega,by go_num,?_,bS HBW.o HG.o⟩;rw[HZ.o,setN_cells _ _ _ (by rw[zl_len];exact HLt.o)];exact HSt.o.1
    case measure=>simp[intOf];omega
   have h1b:(ek==1)=false:=by simpa using h1
   have HZ:=Jh (show zl l0 (k+1)=zl l0 k from by have hkl:=HLt.o;rw[zl,HX.o];dsimp only;rw[if_neg (fun h=>h1 (HEk.o.trans h))]);clear h1;go_wp2_with fail;go_roundw;case rel=>exact⟨k+1,by omega,by go_num,by rw[HZ.o];exact HO.o,HBW.o⟩
   case measure=>simp[intOf];omega
  have hlb:decide ((k:Int)<(m:Int))=false:=by simp;omega
  have HE:=Jh (show zl l0 k=fitL L/\(fitL L).length=m from by
   have h1:=HLen.o;have h2:k=m:=by omega
   unfold fitL;rw[<-HL0.o,zl_len,h1,h2];exact⟨rfl,rfl⟩)
  go_wp2_with fail;go_ret;rw[HE.o.2,<-HE.o.1];exact⟨⟨_,_,rfl,HO.o,HC1.o⟩,HBW.o⟩
end Go.Proofs.YtnigadeohmlpiaaGreatDoor
