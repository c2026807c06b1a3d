/- Contracts and words: neighbours that are the same are struck; rows of numbers in their order. No condition of ours. -/
import Derived.Test.YtnigadeohmlpiaaGreatDoorC15
set_option maxHeartbeats 32000000
set_option maxRecDepth 100000
namespace Go.Proofs.YtnigadeohmlpiaaGreatDoor
open Go.RowKit
attribute [local go_sem] Oper.semAt_some
def Cts(w:World)(cs:List Value)(L:List (List Int)):Prop:=
 cs.length=L.length/\∀(k:Nat) z,L[k]?=some z->∃B c,cs[k]?=some (.slice B z.length c)/\z.length<=c/\Row w 3 1 B z.length (ints z)
theorem Cts.tk{T:List TypeId}{w w':World}{cs:List Value}{L:List (List Int)}(h:Cts w cs L)(hk:Tk T w w')(h3:3∉T):Cts w' cs L:=
 ⟨h.1,fun k z hz=>by obtain⟨B,c,h1,h2,h4⟩:=h.2 k z hz;exact⟨B,c,h1,h2,h4.tk hk h3⟩⟩
def dedupK(L:List (List Int)):Nat->List (List Int)
 |0=>[]
 |k+1=>match L[k]?with
  |none=>dedupK L k
  |some z=>if k≠0/\L[k-1]?=some z then dedupK L k else dedupK L k++[z]
theorem dedupK_same{L:List (List Int)}{k:Nat}{z:List Int}(hk:k≠0)(h:L[k]?=some z)(h':L[k-1]?=some z):dedupK L (k+1)=dedupK L k:=by rw[dedupK,h];exact if_pos ⟨hk,h'⟩
theorem dedupK_new{L:List (List Int)}{k:Nat}{z:List Int}(h:L[k]?=some z)(h':k=0\/L[k-1]?≠some z):dedupK L (k+1)=dedupK L k++[z]:=by rw[dedupK,h];exact if_neg (fun e=>h'.elim e.1 (fun h2=>h2 e.2))
theorem dedupK_le(L:List (List Int))(k:Nat):(dedupK L k).length<=k:=by
 induction k with
 |zero=>exact Nat.le_refl _
 |succ k ih=>
  rw[dedupK];split
  ·omega
  split
  ·omega
  rw[List.length_append];simp;omega
theorem own_cur{w:World}{base g n c:Nat}{cs:List Value}(h:w.ownsRow base 32 1 (.slice (some ⟨g,0,none⟩) n c) n cs):∃cur,w.heap[g]?=some (.cells cur 32)/\cur.size=c/\c<=maxLen/\cur.toList.take n=cs:=by
 rcases h.2 with⟨h1,_⟩|⟨k,cap,cur,h1,_,h5,_,h6,h7,h8⟩
 ·cases h1
 injection h1 with h1 _ h2
 simp only[Option.some.injEq,Addr.mk.injEq,and_true] at h1;subst h1 h2;exact⟨cur,h5,by omega,h6,by simpa using h8⟩
theorem zeros_slice(m:Nat):(Builtin.zeroCells (Value.slice none 0 0).cells m).toList=List.replicate m (Value.slice none 0 0):=by
 apply List.ext_getElem
 ·simp[Builtin.zeroCells,Value.cells]
 intro i h1 h2;simp[Builtin.zeroCells,Value.cells,Nat.mod_one]
theorem clear32(w:World)(g o m c:Nat)(cur:Array Value)(hg:w.heap[g]?=some (.cells cur 32))(hf:o+m<=cur.size)(ty:TypeId):
  Sem.run Tryz.prog (Builtin.clear_ #[36] ty #[.slice (some ⟨g,o,none⟩) m c]) w=.ok (.tuple #[]) (w.setRow g (cur.toList.take o++List.replicate m (Value.slice none 0 0)++cur.toList.drop (o+m)).toArray):=by
 have hst:=run_storeCells_at Tryz.prog g o 32 (List.replicate m (Value.slice none 0 0)) 0 cur w hg (by simpa using hf) (by simp[Value.oneCell']);simp only[Nat.add_zero,List.length_replicate] at hst;cases m with
 |zero=>
  have e:(cur.toList.take o++List.replicate 0 (Value.slice none 0 0)++cur.toList.drop (o+0)).toArray=cur:=by simp
  rw[e,setRow_self w g cur 32 (0,0) hg];simp[Builtin.clear_,run_underlying Tryz.underlying36]
 |succ m=>have hz:=zeros_slice (m+1);simp[Builtin.clear_,run_underlying Tryz.underlying36,hz,hst]
theorem compact_any(g n c base:Nat)(cs:List Value)(L:List (List Int))(w:World)(hn:n<=5000000000000)(hL:L.length=n)(hown:w.ownsRow base 32 1 (.slice (some ⟨g,0,none⟩) n c) n cs)(hc:Cts w cs L)(hz:∀z∈L,z.length<=1000000)(hnc:n<=c):
  Calls Tryz.prog 68 #[.slice (some ⟨g,0,none⟩) n c,.func (.func 69) #[] #[]] w fun o w'=>
   (∃cs':List Value,o=.returned (.slice (some ⟨g,0,none⟩) (dedupK L n).length c)/\w'.ownsRow base 32 1 (.slice (some ⟨g,0,none⟩) (dedupK L n).length c) (dedupK L n).length cs'/\Cts w' cs' (dedupK L n))/\w.grownBy w' (some g):=by
 have HL:=Jh hL;have HO:=Jh hown;have HC:=Jh hc;have HZ:=Jh hz;clear hL hown hc hz;by_cases h2:n<2
 ·have hb:decide ((n:Int)<2)=true:=by simp;omega
  have HD:=Jh (show dedupK L n=L by
   have hL:=HL.o
   match n,h2 with
   |0,_=>exact(List.length_eq_zero_iff.1 hL).symm
   |1,_=>
    match L,hL with
    |[z],_=>rfl)
  have HLn:=Jh (show(dedupK L n).length=n by rw[HD.o,HL.o]);go_enter Tryz.func68,Tryz.ntmps68;go_wp2_with fail;go_ret;refine⟨⟨cs,by rw[HLn.o];rfl,?_,?_⟩,grown_below (bR w) _⟩
  ·rw[HLn.o];exact HO.o
  rw[HD.o];exact HC.o
 have hb:decide ((n:Int)<2)=false:=by simp;omega
 go_enter Tryz.func68,Tryz.ntmps68;go_wp2_with fail;go_loopw [5] (fun vi wr=>∃k:Nat,1<=k/\k<=n/\vi=.int .i64 k/\dedupK L k=L.take k/\Below w.heap.size w wr) (fun vi _=>n-(intOf vi).toNat);case atStart=>refine⟨1,Nat.le_refl _,by omega,rfl,?_,bR w⟩;obtain⟨z,hz⟩:∃z,L[0]?=some z:=⟨_,List.getElem?_eq_getElem (by have:=HL.o;omega)⟩;rw[dedupK_new hz (.inl rfl),List.take_add_one,hz];rfl
 case round=>
  obtain⟨k,hk1,hk,rfl,hdd,hbw⟩:=hrel;have HDD:=Jh hdd;have HBW:=Jh hbw;clear hdd hbw;by_cases hlt:k<n
  ·have hlb:decide ((k:Int)<(n:Int))=true:=by simp;omega
   have hkn:(k:Int)<(n:Int):=by omega
   have hk0:decide ((k:Int)<0)=false:=by simp
   obtain⟨j,hjk⟩:∃j,j+1=k:=⟨k-1,by omega⟩;have hjw:IntKind.i64.wrap ((k:Int)-1)=(j:Int):=by rw[show(k:Int)-1=(j:Int) by omega];exact IntWalk.i64_in _ (by omega)
   have hjn:(j:Int)<(n:Int):=by omega
   have hj0:decide ((j:Int)<0)=false:=by simp
   have HJ:=Jh hjk;clear hjk;obtain⟨xa,hxa⟩:∃z,L[k]?=some z:=⟨_,List.getElem?_eq_getElem (by have:=HL.o;omega)⟩;obtain⟨xb,hxb⟩:∃z,L[j]?=some z:=⟨_,List.getElem?_eq_getElem (by have:=HL.o;have:=HJ.o;omega)⟩;obtain⟨Ba,ca,hca,_,hra⟩:=HC.o.2 _ _ hxa;obtain⟨Bb,cb,hcb,_,hrb⟩:=HC.o.2 _ _ hxb
   have HRA:=Jh (fun(wx:World) (hb:Below wr.heap.size wr wx)=>((own_tk (T:=[]) HO.o (Tk.below (bT HBW.o hb)) (by simp)).cellAt k (by omega)).trans hca);have HRB:=Jh (fun(wx:World) (hb:Below wr.heap.size wr wx)=>((own_tk (T:=[]) HO.o (Tk.below (bT HBW.o hb)) (by simp)).cellAt j (by have:=HJ.o;omega)).trans hcb);obtain⟨q,hq0⟩:=exE (decide (xa=xb))
   have HCA:=Jh (fun(wx:World) (hb:Below wr.heap.size wr wx)=>same1_any Ba Bb xa.length xb.length ca cb xa xb wx ((hra.below (bT HBW.o hb)).rd) ((hrb.below (bT HBW.o hb)).rd) (HZ.o xa (List.mem_of_getElem? hxa)));rw[<-hq0] at HCA;have HQ:=Jh hq0;have HXA:=Jh hxa;have HXB:=Jh hxb;clear hxa hxb hca hcb hra hrb hq0;go_upto_region 6 with fail
   have hq:∀(k:Nat) (l:Nat->Bool) (wx:World),(Below wr.heap.size wr wx)->(Below wr.heap.size wr wx):=fun _ _ _ h=>h;have rr:∀(wx:World),wx=wx:=fun _=>rfl
   refine wp_region_det (by kernel_rfl) (fun f=>(⟨#[Value.slice (some ⟨g,0,none⟩) n c,Value.func (Fn.func 69) #[] #[],undef,undef,u4,.int .i64 (k:Int),u6,u7,Value.slice (some ⟨g,0,none⟩) n c,.int .i64 (n:Int),Value.bool false,undef,.int .i64 (k:Int),Value.slice (some ⟨g,0,none⟩) n c,.int .i64 (n:Int),Value.bool true,u16,u17,f 0,f 1,f 2,f 3,f 4,f 5,f 6,f 7,f 8,f 9,f 10,u29,u30,u31,u32,u33,u34,u35,u36,u37,u38,u39,u40,u41,u42,u43,u44,u45,u46,u47,u48,u49,u50,u51,u52,u53,u54,u55,u56,u57,u58,u59,u60,u61,u62,u63,u64,undef],[]⟩:Act)) (fun(iv:Nat) (lv:Nat->Bool) (fv:Nat->Value) (wx:World)=>match iv with|0=>fv 0=.func (.func 69) #[] #[]|1=>fv 1=.slice (some ⟨g,0,none⟩) n c|2=>fv 2=.int .i64 (k:Int)|3=>fv 3=.pointer (some ⟨g,k,none⟩)|4=>fv 4=.slice Ba xa.length ca|5=>fv 5=.slice (some ⟨g,0,none⟩) n c|6=>fv 6=.int .i64 (k:Int)|7=>fv 7=.int .i64 (j:Int)|8=>fv 8=.pointer (some ⟨g,j,none⟩)|9=>fv 9=.slice Bb xb.length cb|10=>fv 10=.bool q|_=>True) (fun _ wx=>Below wr.heap.size wr wx) (fun _ w1 _=>w1=w1) (by kernel_rfl) (fun k=>match k with|0=>u18|1=>u19|2=>u20|3=>u21|4=>u22|5=>u23|6=>u24|7=>u25|8=>u26|9=>u27|10=>u28|_=>undef) rfl ?keep (bD (bR wr)) ?steps ?fin
   case keep=>
    intro iv j hij hd l f f' w1 w2 hf hR
    match j with
    |0|1|2|3|4|5|6|7|8|9|10=>exact fun h=>(hf _ (Ne.symm hij)).trans h
    |_+11=>exact id
   case steps=>
    refine fun iv hiv=>stepsOf_at (k:=0) (n:=11) ?_ iv (Nat.zero_le _) (by rw[Nat.zero_add];exact hiv);refine sD 0 10 aT0 [] (fun f wq l hl hun hdn hS hd K' HK=>?_) ?_
    ·clear hd;go_simp;exact HK.o _ _ _ rfl rfl (hq 0 l _ hS) (rr _)
    refine sD 1 9 aT1 [] (fun f wq l hl hun hdn hS hd K' HK=>?_) ?_
    ·clear hd;go_simp;exact HK.o _ _ _ rfl rfl (hq 1 l _ hS) (rr _)
    refine sD 2 8 aT2 [] (fun f wq l hl hun hdn hS hd K' HK=>?_) ?_
    ·clear hd;go_simp;exact HK.o _ _ _ rfl rfl (hq 2 l _ hS) (rr _)
    refine sD 3 7 aT3 [1,2] (fun f wq l hl hun hdn hS hd K' HK=>?_) ?_
    ·obtain⟨e1,e2,-⟩:=hd;have e1:f 1=_:=e1;have e2:f 2=_:=e2;simp only[e1,e2];go_simp;exact HK.o _ _ _ (by simp only[e1,e2];rfl) rfl (hq 3 l _ hS) (rr _)
    refine sD 4 6 aT4 [3] (fun f wq l hl hun hdn hS hd K' HK=>?_) ?_
    ·obtain⟨e3,-⟩:=hd;have e3:f 3=_:=e3;have rA:=HRA.o wq hS;simp only[e3];go_simp;exact HK.o _ _ _ (by simp only[e3];rfl) rfl (hq 4 l _ hS) (rr _)
    refine sD 5 5 aT5 [] (fun f wq l hl hun hdn hS hd K' HK=>?_) ?_
    ·clear hd;go_simp;exact HK.o _ _ _ rfl rfl (hq 5 l _ hS) (rr _)
    refine sD 6 4 aT6 [] (fun f wq l hl hun hdn hS hd K' HK=>?_) ?_
    ·clear hd;go_simp;exact HK.o _ _ _ rfl rfl (hq 6 l _ hS) (rr _)
    refine sD 7 3 aT7 [6] (fun f wq l hl hun hdn hS hd K' HK=>?_) ?_
    ·obtain⟨e6,-⟩:=hd;have e6:f 6=_:=e6;simp only[e6];go_simp;exact HK.o _ _ _ (by simp only[e6];rfl) rfl (hq 7 l _ hS) (rr _)
    refine sD 8 2 aT8 [5,7] (fun f wq l hl hun hdn hS hd K' HK=>?_) ?_
    ·obtain⟨e5,e7,-⟩:=hd;have e5:f 5=_:=e5;have e7:f 7=_:=e7;simp only[e5,e7];go_simp;exact HK.o _ _ _ (by simp only[e5,e7];rfl) rfl (hq 8 l _ hS) (rr _)
    refine sD 9 1 aT9 [8] (fun f wq l hl hun hdn hS hd K' HK=>?_) ?_
    ·obtain⟨e8,-⟩:=hd;have e8:f 8=_:=e8;have rB:=HRB.o wq hS;simp only[e8];go_simp;exact HK.o _ _ _ (by simp only[e8];rfl) rfl (hq 9 l _ hS) (rr _)
    refine sD 10 0 aT10 [0,4,9] (fun f wq l hl hun hdn hS hd K' HK=>?_) ?_
    ·obtain⟨e0,e4,e9,-⟩:=hd;have e0:f 0=_:=e0;have e4:f 4=_:=e4;have e9:f 9=_:=e9;have HCl:=Jh (HCA.o wq hS);have HS:=Jh hS;clear hS;simp only[e0,e4,e9];go_simp;go_wp2_with fail;refine HCl.o.mono ?_;rintro o w9 ⟨rfl,hb9⟩;exact HK.o _ _ _ (by simp only[e0,e4,e9];rfl) rfl (bT HS.o hb9) (rr wq)
    exact trivial
   case fin=>
    intro fo wz lo hl hall hS;have a0:fo 0=_:=hall 0 (by decide);have a1:fo 1=_:=hall 1 (by decide);have a2:fo 2=_:=hall 2 (by decide);have a3:fo 3=_:=hall 3 (by decide);have a4:fo 4=_:=hall 4 (by decide);have a5:fo 5=_:=hall 5 (by decide);have a6:fo 6=_:=hall 6 (by decide);have a7:fo 7=_:=hall 7 (by decide);have a8:fo 8=_:=hall 8 (by decide);have a9:fo 9=_:=hall 9 (by decide)
    have a10:fo 10=_:=hall 10 (by decide);clear hall;rw[a10];clear a0 a1 a2 a3 a4 a5 a6 a7 a8 a9 a10 hl;have HBz:=Jh (bT HBW.o hS);clear hS hq rr;cases q
    ·have HNx:=Jh (show dedupK L (k+1)=L.take (k+1) by rw[dedupK_new HXA.o (.inr (fun e=>by have h1:xb=xa:=Option.some.inj (HXB.o.symm.trans (by rw[show j=k-1 by have:=HJ.o;omega];exact e));exact absurd HQ.o (by simp[h1]))),HDD.o,List.take_add_one,HXA.o];rfl);go_wp2_with fail;go_roundw;case rel=>exact⟨k+1,by omega,by omega,by go_num,HNx.o,HBz.o⟩
     case measure=>simp[intOf];omega
    have HEq:=Jh (show xa=xb from of_decide_eq_true HQ.o.symm);have HDk:=Jh (show dedupK L (k+1)=dedupK L k from dedupK_same (by omega) HXA.o (by rw[show k-1=j by have:=HJ.o;omega,HXB.o,HEq.o]));obtain⟨k0,hk00⟩:=exE (k);have hkc:(k:Int)<=(c:Int):=by omega
    have hknn:(k:Int)<=(n:Int):=by omega
    go_wp2_with fail;obtain⟨w1,rfl⟩:=exE wr
    go_loopw [5,7] (fun vk vi wr2=>∃(kk i2:Nat) (cs2:List Value),1<=i2/\i2<=n-k/\1<=kk/\kk+1<=k+i2/\vk=.int .i64 kk/\vi=.int .i64 i2/\(dedupK L (k+i2)).length=kk/\w.grownBy wr2 (some g)/\wr2.ownsRow base 32 1 (.slice (some ⟨g,0,none⟩) n c) n cs2/\(∀p,k+i2<=p+1->cs2[p]?=cs[p]?)/\(∀(i:Nat) z,(dedupK L (k+i2))[i]?=some z->∃(i9:Nat),L[i9]?=some z/\cs2[i]?=cs[i9]?)) (fun _ vi _=>n-(intOf vi).toNat)
    case atStart=>exact⟨k,1,cs,Nat.le_refl _,by omega,hk1,Nat.le_refl _,rfl,rfl,by rw[HDk.o,HDD.o,List.length_take];have:=HL.o;omega,grown_below HBz.o _,own_tk (T:=[]) HO.o (Tk.below HBz.o) (by simp),fun _ _=>rfl,fun i z hz=>⟨i,by rw[HDk.o,HDD.o,List.getElem?_take] at hz;split at hz;exact⟨hz,rfl⟩;cases hz⟩⟩
    case round=>
     obtain⟨wr2,rfl⟩:=exE wr;obtain⟨kk,i2,cs2,hi1,hi2,hkk1,hkk2,rfl,rfl,hlen,hg,hown2,hsame,hcon⟩:=hrel;have HLn:=Jh hlen;have HG:=Jh hg;have HO2:=Jh hown2;have HSm:=Jh hsame;have HCo:=Jh hcon;clear hlen hg hown2 hsame hcon;have HTk:=Jh (tk_grown HO.o HG.o);by_cases hlt2:i2<n-k
     ·have hlb2:decide ((i2:Int)<(n:Int)-(k:Int))=true:=by simp;omega
      obtain⟨j2,hj2⟩:∃j2,j2+1=i2:=⟨i2-1,by omega⟩;have hjw2:IntKind.i64.wrap ((i2:Int)-1)=(j2:Int):=by rw[show(i2:Int)-1=(j2:Int) by omega];exact IntWalk.i64_in _ (by omega)
      have hjn2:(j2:Int)<((n-k:Nat):Int):=by omega
      have hin2:(i2:Int)<((n-k:Nat):Int):=by omega
      have hin3:(i2:Int)<(n:Int)-(k:Int):=by omega
      have hjn3:(j2:Int)<(n:Int)-(k:Int):=by omega
      have hin4:i2<n-k:=by omega
      have hjn4:j2<n-k:=by omega
      have hj02:decide ((j2:Int)<0)=false:=by simp
      have hi02:decide ((i2:Int)<0)=false:=by simp
      have HJ2:=Jh hj2;have hk02:decide ((kk:Int)<0)=false:=by simp
      have hkkn:(kk:Int)<(n:Int):=by omega
      obtain⟨ya,hya⟩:∃z,L[k+i2]?=some z:=⟨_,List.getElem?_eq_getElem (by have:=HL.o;omega)⟩;obtain⟨yb,hyb⟩:∃z,L[k+j2]?=some z:=⟨_,List.getElem?_eq_getElem (by have:=HL.o;omega)⟩;obtain⟨Ca,da,hda,_,hsa⟩:=HC.o.2 _ _ hya;obtain⟨Cb,db,hdb,_,hsb⟩:=HC.o.2 _ _ hyb
      have HRA2:=Jh (fun(wx:World) (hb:Below wr2.heap.size wr2 wx)=>((own_tk (T:=[]) HO2.o (Tk.below hb) (by simp)).cellAt (k+i2) (by omega)).trans ((HSm.o (k+i2) (by omega)).trans hda));have HRB2:=Jh (fun(wx:World) (hb:Below wr2.heap.size wr2 wx)=>((own_tk (T:=[]) HO2.o (Tk.below hb) (by simp)).cellAt (k+j2) (by omega)).trans ((HSm.o (k+j2) (by omega)).trans hdb));obtain⟨q,hq0⟩:=exE (decide (ya=yb))
      have HCA2:=Jh (fun(wx:World) (hb:Below wr2.heap.size wr2 wx)=>same1_any Ca Cb ya.length yb.length da db ya yb wx (((hsa.tk HTk.o (by decide)).below hb).rd) (((hsb.tk HTk.o (by decide)).below hb).rd) (HZ.o ya (List.mem_of_getElem? hya)));rw[<-hq0] at HCA2;have HQ2:=Jh hq0;have HYA:=Jh hya;have HYB:=Jh hyb;have HDA:=Jh hda;clear hya hyb hda hdb hsa hsb hq0 hj2;go_upto_region 11 with fail
      have hq:∀(k:Nat) (l:Nat->Bool) (wx:World),(Below wr2.heap.size wr2 wx)->(Below wr2.heap.size wr2 wx):=fun _ _ _ h=>h;have rr:∀(wx:World),wx=wx:=fun _=>rfl
      refine wp_region_det (by kernel_rfl) (fun f=>(⟨#[Value.slice (some ⟨g,0,none⟩) n c,Value.func (Fn.func 69) #[] #[],undef,undef,u4,.int .i64 (kk:Int),Value.slice (some ⟨g,k,none⟩) (n-k) (c-k),.int .i64 (i2:Int),Value.slice (some ⟨g,0,none⟩) n c,.int .i64 (n:Int),Value.bool false,undef,.int .i64 (k:Int),Value.slice (some ⟨g,0,none⟩) n c,.int .i64 (n:Int),Value.bool true,u16,u17,fo 0,fo 1,fo 2,fo 3,fo 4,fo 5,fo 6,fo 7,fo 8,fo 9,Value.bool true,Value.slice (some ⟨g,0,none⟩) n c,.int .i64 (k:Int),Value.slice (some ⟨g,k,none⟩) (n-k) (c-k),.int .i64 (i2:Int),Value.slice (some ⟨g,k,none⟩) (n-k) (c-k),.int .i64 ↑(n-k),Value.bool true,u36,u37,f 0,f 1,f 2,f 3,f 4,f 5,f 6,f 7,f 8,f 9,f 10,f 11,u50,u51,u52,u53,u54,u55,u56,u57,u58,u59,u60,u61,u62,u63,u64,undef],[]⟩:Act)) (fun(iv:Nat) (lv:Nat->Bool) (fv:Nat->Value) (wx:World)=>match iv with|0=>fv 0=.func (.func 69) #[] #[]|1=>fv 1=.slice (some ⟨g,k,none⟩) (n-k) (c-k)|2=>fv 2=.int .i64 (i2:Int)|3=>fv 3=.pointer (some ⟨g,k+i2,none⟩)|4=>fv 4=.slice Ca ya.length da|5=>fv 5=.slice (some ⟨g,k,none⟩) (n-k) (c-k)|6=>fv 6=.int .i64 (i2:Int)|7=>fv 7=.int .i64 (j2:Int)|8=>fv 8=.pointer (some ⟨g,k+j2,none⟩)|9=>fv 9=.slice Cb yb.length db|10=>fv 10=.bool q|11=>fv 11=.bool (!q)|_=>True) (fun _ wx=>Below wr2.heap.size wr2 wx) (fun _ w1 _=>w1=w1) (by kernel_rfl) (fun k=>match k with|0=>u38|1=>u39|2=>u40|3=>u41|4=>u42|5=>u43|6=>u44|7=>u45|8=>u46|9=>u47|10=>u48|11=>u49|_=>undef) rfl ?keep (bD (bR wr2)) ?steps ?fin
      case keep=>
       intro iv j hij hd l f f' w1 w2 hf hR
       match j with
       |0|1|2|3|4|5|6|7|8|9|10|11=>exact fun h=>(hf _ (Ne.symm hij)).trans h
       |_+12=>exact id
      case steps=>
       refine fun iv hiv=>stepsOf_at (k:=0) (n:=12) ?_ iv (Nat.zero_le _) (by rw[Nat.zero_add];exact hiv);refine sD 0 11 aT0 [] (fun f wq l hl hun hdn hS hd K' HK=>?_) ?_
       ·clear hd;go_simp;exact HK.o _ _ _ rfl rfl (hq 0 l _ hS) (rr _)
       refine sD 1 10 aT1 [] (fun f wq l hl hun hdn hS hd K' HK=>?_) ?_
       ·clear hd;go_simp;exact HK.o _ _ _ rfl rfl (hq 1 l _ hS) (rr _)
       refine sD 2 9 aT2 [] (fun f wq l hl hun hdn hS hd K' HK=>?_) ?_
       ·clear hd;go_simp;exact HK.o _ _ _ rfl rfl (hq 2 l _ hS) (rr _)
       refine sD 3 8 aT3 [1,2] (fun f wq l hl hun hdn hS hd K' HK=>?_) ?_
       ·obtain⟨e1,e2,-⟩:=hd;have e1:f 1=_:=e1;have e2:f 2=_:=e2;simp only[e1,e2];go_simp;exact HK.o _ _ _ (by simp only[e1,e2];rfl) rfl (hq 3 l _ hS) (rr _)
       refine sD 4 7 aT4 [3] (fun f wq l hl hun hdn hS hd K' HK=>?_) ?_
       ·obtain⟨e3,-⟩:=hd;have e3:f 3=_:=e3;have rA:=HRA2.o wq hS;simp only[e3];go_simp;exact HK.o _ _ _ (by simp only[e3];rfl) rfl (hq 4 l _ hS) (rr _)
       refine sD 5 6 aT5 [] (fun f wq l hl hun hdn hS hd K' HK=>?_) ?_
       ·clear hd;go_simp;exact HK.o _ _ _ rfl rfl (hq 5 l _ hS) (rr _)
       refine sD 6 5 aT6 [] (fun f wq l hl hun hdn hS hd K' HK=>?_) ?_
       ·clear hd;go_simp;exact HK.o _ _ _ rfl rfl (hq 6 l _ hS) (rr _)
       refine sD 7 4 aT7 [6] (fun f wq l hl hun hdn hS hd K' HK=>?_) ?_
       ·obtain⟨e6,-⟩:=hd;have e6:f 6=_:=e6;simp only[e6];go_simp;exact HK.o _ _ _ (by simp only[e6];rfl) rfl (hq 7 l _ hS) (rr _)
       refine sD 8 3 aT8 [5,7] (fun f wq l hl hun hdn hS hd K' HK=>?_) ?_
       ·obtain⟨e5,e7,-⟩:=hd;have e5:f 5=_:=e5;have e7:f 7=_:=e7;simp only[e5,e7];go_simp;exact HK.o _ _ _ (by simp only[e5,e7];rfl) rfl (hq 8 l _ hS) (rr _)
       refine sD 9 2 aT9 [8] (fun f wq l hl hun hdn hS hd K' HK=>?_) ?_
       ·obtain⟨e8,-⟩:=hd;have e8:f 8=_:=e8;have rB:=HRB2.o wq hS;simp only[e8];go_simp;exact HK.o _ _ _ (by simp only[e8];rfl) rfl (hq 9 l _ hS) (rr _)
       refine sD 10 1 aT10 [0,4,9] (fun f wq l hl hun hdn hS hd K' HK=>?_) ?_
       ·obtain⟨e0,e4,e9,-⟩:=hd;have e0:f 0=_:=e0;have e4:f 4=_:=e4;have e9:f 9=_:=e9;have HCl:=Jh (HCA2.o wq hS);have HS:=Jh hS;clear hS;simp only[e0,e4,e9];go_simp;go_wp2_with fail;refine HCl.o.mono ?_;rintro o w9 ⟨rfl,hb9⟩;exact HK.o _ _ _ (by simp only[e0,e4,e9];rfl) rfl (bT HS.o hb9) (rr wq)
       refine sD 11 0 aT11 [10] (fun f wq l hl hun hdn hS hd K' HK=>?_) ?_
       ·obtain⟨e10,-⟩:=hd;have e10:f 10=_:=e10;simp only[e10];go_simp;exact HK.o _ _ _ (by simp only[e10];rfl) rfl (hq 11 l _ hS) (rr _)
       exact trivial
      case fin=>
       intro fp wz2 lo2 hl hall hS;have a11:fp 11=_:=hall 11 (by decide);clear hall;rw[a11];clear a11 hl;have HBz2:=Jh hS;have HGz:=Jh (HG.o.trans (grown_below hS _));have HOz:=Jh (own_tk (T:=[]) HO2.o (Tk.below hS) (by simp));have HRz:=Jh (HRA2.o wz2 hS);clear hS hq rr;cases q
       ·have HNx:=Jh (show dedupK L (k+(i2+1))=dedupK L (k+i2)++[ya] from dedupK_new (k:=k+i2) HYA.o (.inr (fun e=>by have h1:yb=ya:=Option.some.inj (HYB.o.symm.trans (by rw[show k+j2=k+i2-1 by have:=HJ2.o;omega];exact e));exact absurd HQ2.o (by simp[h1]))));have r9:=HRz.o;have r8:=HOz.o.frozenAt kk;have r7:=HOz.o.cellAt kk (by omega)
        obtain⟨ud,hud⟩:∃u,cs2[kk]?=some u:=⟨_,List.getElem?_eq_getElem (by rw[HO2.o.1];omega)⟩;rw[hud] at r7;obtain⟨hst,hgs⟩:=HOz.o.stored kk (.slice Ca ya.length da);have HSt:=Jh hst;have HGs:=Jh hgs;clear hst hgs hud;go_wp2_with fail;go_roundw
        case rel=>
         refine⟨kk+1,i2+1,cs2.set kk (.slice Ca ya.length da),by omega,by omega,by omega,by omega,by go_num,by go_num,by rw[HNx.o,List.length_append,HLn.o];rfl,HGz.o.trans HGs.o,HSt.o,fun p hp=>?_,fun i z hz=>?_⟩
         ·rw[List.getElem?_set_ne (by omega)];exact HSm.o p (by omega)
         rw[HNx.o] at hz;rcases Nat.lt_or_ge i kk with h1|h1
         ·rw[List.getElem?_append_left (by have:=HLn.o;omega)] at hz;obtain⟨i9,h2,h3⟩:=HCo.o i z hz;exact⟨i9,h2,by rw[List.getElem?_set_ne (by omega)];exact h3⟩
         have hik:i=kk:=by have:=(List.getElem?_eq_some_iff.1 hz).1;rw[List.length_append,HLn.o] at this;simp at this;omega
         subst hik;rw[List.getElem?_append_right (by have:=HLn.o;omega),HLn.o,Nat.sub_self] at hz;obtain rfl:ya=z:=by simpa using hz
         exact⟨k+i2,HYA.o,by rw[List.getElem?_set_self (by rw[HO2.o.1];omega)];exact HDA.o.symm⟩
        case measure=>simp[intOf];omega
       have HEq2:=Jh (show ya=yb from of_decide_eq_true HQ2.o.symm);have HNx:=Jh (show dedupK L (k+(i2+1))=dedupK L (k+i2) from dedupK_same (k:=k+i2) (by omega) HYA.o (by rw[show k+i2-1=k+j2 by have:=HJ2.o;omega,HYB.o,HEq2.o]));go_wp2_with fail;go_roundw
       case rel=>exact⟨kk,i2+1,cs2,by omega,by omega,hkk1,by omega,rfl,by go_num,by rw[HNx.o];exact HLn.o,HGz.o,HOz.o,fun p hp=>HSm.o p (by omega),fun i z hz=>HCo.o i z (by rw[<-HNx.o];exact hz)⟩
       case measure=>simp[intOf];omega
     have hlb2:decide ((i2:Int)<(n:Int)-(k:Int))=false:=by simp;omega
     have HAll:=Jh (show k+i2=n by omega);obtain⟨cur,hcur,hcs1,hcs2,hcs3⟩:=own_cur HO2.o;have HCl:=clear32 wr2 g kk (n-kk) (c-kk) cur hcur (by omega);have hkkc:(kk:Int)<=(c:Int):=by omega
     have hkkn2:(kk:Int)<=(n:Int):=by omega
     have HCur:=Jh hcur;have HCs:=Jh (And.intro hcs1 (And.intro hcs2 hcs3));clear hcur hcs1 hcs2 hcs3;go_wp2_with fail;go_ret;have hdl:(dedupK L n).length=kk:=by rw[<-HAll.o];exact HLn.o
     have hset:∀C,(wr2.setRow g C).heap[g]?=some (.cells C 32):=fun C=>by exact setRow_at HCur.o
     have hts:∀C,Tk [32] wr2 (wr2.setRow g C):=fun C=>⟨by simp[World.setRow],fun p9 c9 e9 f9 he9 hp9=>(setRow_other _ _ _ _ (fun e=>by subst e;rw[HCur.o] at hp9;cases hp9;exact he9 (by simp))).trans hp9⟩;refine⟨⟨cs2.take kk,by rw[hdl];rfl,?_,?_⟩,grown_row HG.o⟩
     ·rw[hdl];have hgb:=own_block_ge HO2.o rfl;have h3:=HCs.o;refine⟨by rw[List.length_take,HO2.o.1];omega,.inr ⟨g,c,_,rfl,hgb,hset _,by omega,h3.2.1,by simp;omega,?_⟩⟩;rw[List.toList_toArray,List.take_append_of_le_length (by simp;omega),List.take_of_length_le (by simp;omega),<-h3.2.2,List.take_take,Nat.min_eq_left (by omega)]
     refine⟨by rw[List.length_take,HO2.o.1,hdl];omega,fun i z hz=>?_⟩;have hik:i<kk:=by have:=(List.getElem?_eq_some_iff.1 hz).1;omega
     obtain⟨i9,h5,h6⟩:=HCo.o i z (by rw[HAll.o];exact hz);obtain⟨B5,c5,h7,h8,h9⟩:=HC.o.2 i9 z h5;exact⟨B5,c5,by rw[List.getElem?_take,if_pos hik,h6,h7],h8,(h9.tk HTk.o (by decide)).tk (hts _) (by decide)⟩
  have hlb:decide ((k:Int)<(n:Int))=false:=by simp;omega
  obtain rfl:k=n:=by omega
  have HD:=Jh (show dedupK L k=L by rw[HDD.o,List.take_of_length_le (by have:=HL.o;omega)]);have HLn:=Jh (show(dedupK L k).length=k by rw[HD.o,HL.o]);go_wp2_with fail;go_ret;refine⟨⟨cs,by rw[HLn.o];rfl,?_,?_⟩,grown_below HBW.o _⟩
  ·rw[HLn.o];exact own_tk (T:=[]) HO.o (Tk.below HBW.o) (by simp)
  rw[HD.o];exact HC.o.tk (T:=[]) (Tk.below HBW.o) (by simp)
end Go.Proofs.YtnigadeohmlpiaaGreatDoor
namespace Go.Proofs.YtnigadeohmlpiaaGreatDoor
theorem cmpZ_swap(x y:Int):cmpZ y x=-cmpZ x y:=by unfold cmpZ;split<;>split<;>(try split)<;>omega
theorem cmpL_swap:∀xs ys:List Int,cmpL ys xs=-cmpL xs ys
 |[],[]=>rfl
 |[],_::_=>rfl
 |_::_,[]=>rfl
 |x::xs,y::ys=>by
  unfold cmpL;by_cases h:x=y
  ·subst h;simp[cmpL_swap xs ys]
  rw[if_neg h,if_neg (fun e=>h e.symm),cmpZ_swap]
theorem cmpL_refl:∀xs:List Int,cmpL xs xs=0
 |[]=>rfl
 |x::xs=>by unfold cmpL;rw[if_pos rfl];exact cmpL_refl xs
theorem cmpL_zero:∀{xs ys:List Int},cmpL xs ys=0->xs=ys
 |[],[],_=>rfl
 |[],_::_,h=>by cases h
 |_::_,[],h=>by cases h
 |x::xs,y::ys,h=>by
  unfold cmpL at h;split at h
  ·rename_i e;rw[e,cmpL_zero h]
  rename_i e;exact absurd (cmpZ_zero.1 h) e
theorem cmpZ_lt{x y:Int}:cmpZ x y<0↔x<y:=by
 unfold cmpZ;split
 ·simp[*]
 split<;>simp<;>omega
theorem cmpL_trans:∀{xs ys zs:List Int},cmpL xs ys<0->cmpL ys zs<0->cmpL xs zs<0
 |[],[],_,h,_=>by cases h
 |[],_::_,[],_,h=>by cases h
 |[],_::_,_::_,_,_=>by show(-1:Int)<0;decide
 |_::_,[],_,h,_=>by cases h
 |_::_,_::_,[],_,h=>by cases h
 |x::xs,y::ys,z::zs,h1,h2=>by
  unfold cmpL at h1 h2⊢;by_cases e1:x=y
  ·subst e1;rw[if_pos rfl] at h1;by_cases e2:x=z
   ·rw[if_pos e2] at h2⊢;exact cmpL_trans h1 h2
   rw[if_neg e2] at h2⊢;exact h2
  rw[if_neg e1] at h1;have h3:=cmpZ_lt.1 h1;by_cases e2:y=z
  ·subst e2;rw[if_neg e1];exact h1
  rw[if_neg e2] at h2;have h4:=cmpZ_lt.1 h2;rw[if_neg (by omega)];exact cmpZ_lt.2 (by omega)
theorem cmpL_ntrans{xs ys zs:List Int}(h1:¬cmpL xs ys<0)(h2:¬cmpL ys zs<0):¬cmpL xs zs<0:=by
 intro h;by_cases e:ys=xs
 ·subst e;exact h2 h
 have h3:cmpL ys xs<0:=by have:=cmpL_swap xs ys;have h4:cmpL xs ys≠0:=fun h5=>e (cmpL_zero h5).symm;omega
 exact h2 (cmpL_trans h3 h)
def Rising(L:List (List Int)):Prop:=L.Pairwise fun x y=>cmpL x y<0
def Mounting(L:List (List Int)):Prop:=L.Pairwise fun x y=>¬cmpL y x<0
theorem dedupK_mem(L:List (List Int)):∀(k:Nat) (z:List Int),z∈dedupK L k↔z∈L.take k
 |0,z=>by simp[dedupK]
 |k+1,z=>by
  have ih:=dedupK_mem L k z;rw[dedupK,List.take_add_one];cases h:L[k]?with
  |none=>simpa using ih
  |some y=>
   dsimp only;split
   ·rename_i h2;rw[ih];constructor
    ·intro h3;simp[h3]
    intro h3;rcases List.mem_append.1 h3 with h4|h4
    ·exact h4
    simp at h4;subst h4;exact List.mem_of_getElem? (show(L.take k)[k-1]?=some z by rw[List.getElem?_take,if_pos (by omega)];exact h2.2)
   rw[List.mem_append,List.mem_append,ih];simp
theorem mounting_at{L:List (List Int)}(h:Mounting L){i j:Nat}{x y:List Int}(hi:L[i]?=some x)(hj:L[j]?=some y)(hij:i<j):¬cmpL y x<0:=by have h1:=(List.getElem?_eq_some_iff.1 hi).1;have h2:=(List.getElem?_eq_some_iff.1 hj).1;have:=(List.pairwise_iff_getElem.1 h) i j h1 h2 hij;rw[List.getElem?_eq_getElem h1] at hi;rw[List.getElem?_eq_getElem h2] at hj;simp at hi hj;rwa[hi,hj] at this
theorem dedupK_rising{L:List (List Int)}(h:Mounting L):∀k:Nat,Rising (dedupK L k)
 |0=>List.Pairwise.nil
 |k+1=>by
  have ih:=dedupK_rising h k;rw[dedupK];cases hk:L[k]?with
  |none=>exact ih
  |some y=>
   dsimp only;split
   ·exact ih
   rename_i hn;refine List.pairwise_append.2 ⟨ih,List.pairwise_singleton _ _,fun x hx z hz=>?_⟩;obtain rfl:z=y:=by simpa using hz
   rw[dedupK_mem] at hx;obtain⟨i,hi⟩:=List.getElem?_of_mem hx;rw[List.getElem?_take] at hi;split at hi
   ·rename_i hik;have h1:=mounting_at h hi hk hik;have h2:x≠z:=fun e=>by
     subst e;have hk0:k≠0:=by omega
     obtain⟨w,hw⟩:∃w,L[k-1]?=some w:=⟨_,List.getElem?_eq_getElem (by have:=(List.getElem?_eq_some_iff.1 hk).1;omega)⟩;have h3:¬cmpL x w<0:=mounting_at h hw hk (by omega);have h4:¬cmpL w x<0:=by
      rcases Nat.lt_or_ge i (k-1) with h5|h5
      ·exact mounting_at h hi hw h5
      have:i=k-1:=by omega
      subst this;rw[hi] at hw;obtain rfl:=Option.some.inj hw;exact h3
     have h5:cmpL x w=0:=by have:=cmpL_swap x w;omega
     exact hn ⟨hk0,by rw[hw,cmpL_zero h5]⟩
    have h3:=cmpL_swap x z;have h4:cmpL x z≠0:=fun e=>h2 (cmpL_zero e);omega
   cases hi
theorem rising_ext:∀{L L':List (List Int)},Rising L->Rising L'->(∀z,z∈L↔z∈L')->L=L'
 |[],[],_,_,_=>rfl
 |[],y::_,_,_,h=>absurd ((h y).2 List.mem_cons_self) List.not_mem_nil
 |x::_,[],_,_,h=>absurd ((h x).1 List.mem_cons_self) List.not_mem_nil
 |x::L,y::L',h1,h2,h=>by
  have a1:=(List.pairwise_cons.1 h1);have a2:=(List.pairwise_cons.1 h2);have hxy:x=y:=by
   rcases List.mem_cons.1 ((h x).1 List.mem_cons_self) with e|e
   ·exact e
   rcases List.mem_cons.1 ((h y).2 List.mem_cons_self) with e2|e2
   ·exact e2.symm
   have h3:=a2.1 x e;have h4:=a1.1 y e2;have:=cmpL_swap x y;omega
  subst hxy;have hL:L=L':=rising_ext a1.2 a2.2 fun z=>by
   constructor
   ·intro hz;rcases List.mem_cons.1 ((h z).1 (List.mem_cons_of_mem _ hz)) with e|e
    ·subst e;have:=a1.1 z hz;rw[cmpL_refl] at this;omega
    exact e
   intro hz;rcases List.mem_cons.1 ((h z).2 (List.mem_cons_of_mem _ hz)) with e|e
   ·subst e;have:=a2.1 z hz;rw[cmpL_refl] at this;omega
   exact e
  rw[hL]
end Go.Proofs.YtnigadeohmlpiaaGreatDoor
