/- Contracts and words: as long as an event is left, one of sixteen picks may be; a script that ends a program. No condition of ours. -/
import Derived.Test.YtnigadeohmlpiaaGreatDoorC26
import Derived.Test.YtnigadeohmlpiaaGreatDoorC22
import Derived.Test.YtnigadeohmlpiaaGreatDoorC40
import Derived.Test.YtnigadeohmlpiaaGreatDoorC27
import Derived.Test.YtnigadeohmlpiaaGreatDoorC23
import Derived.Deep.CutRange
set_option maxHeartbeats 32000000
set_option maxRecDepth 100000
namespace Go.Proofs.YtnigadeohmlpiaaGreatDoor
def candC(c:Nat):Pk:=⟨((c%4:Nat):Int),decide (4<=c),((c/4-1:Nat):Int)⟩
def freeL(l:List Ev)(s:St)(k:Nat):List Pk:=((List.range k).map candC).filter fun x=>(s.next l x).isSome
theorem freeL_succ(l:List Ev)(s:St)(k:Nat):freeL l s (k+1)=freeL l s k++if(s.next l (candC k)).isSome then[candC k] else[]:=by unfold freeL;rw[List.range_succ,List.map_append,List.filter_append];congr 1;simp only[List.map_cons,List.map_nil,List.filter_cons,List.filter_nil]
theorem freeL_len(l:List Ev)(s:St)(k:Nat):(freeL l s k).length<=k:=by unfold freeL;exact Nat.le_trans (List.length_filter_le _ _) (by simp)
theorem freeL_mem{l:List Ev}{s:St}{k:Nat}{x:Pk}(h:x∈freeL l s k):(s.next l x).isSome=true/\∃c,c<k/\x=candC c:=by unfold freeL at h;rw[List.mem_filter,List.mem_map] at h;obtain⟨⟨c,hc,rfl⟩,h2⟩:=h;exact⟨h2,c,List.mem_range.1 hc,rfl⟩
theorem candC_rng(c:Nat)(hc:c<16):0<=(candC c).h/\(candC c).h<4/\0<=(candC c).w/\(candC c).w<4:=by unfold candC;dsimp only;omega
theorem can_go{l:List Ev}{s:St}(hl:Prog l)(hs:s.Ok l.length)(hd:s.done.all id=false):∃c,c<16/\(s.next l (candC c)).isSome=true:=by
 obtain⟨b,hb,hb2⟩:=List.all_eq_false.1 hd;obtain rfl:b=false:=by simpa using hb2
 obtain⟨i,hi,hib⟩:=List.mem_iff_getElem.1 hb;have hil:i<l.length:=by rw[<-hs.d];exact hi
 have he:l[i]?=some l[i]:=List.getElem?_eq_getElem hil;obtain⟨h0,h4⟩:=(hl.ok _ (List.getElem_mem hil)).h;obtain⟨hN,hhN⟩:∃hN:Nat,l[i].h=(hN:Int):=⟨l[i].h.toNat,by omega⟩;have hN4:hN<4:=by omega
 have hdue:∃j,s.due l (hN:Int)=some j:=by
  cases hx:s.due l (hN:Int) with
  |some j=>exact⟨j,rfl⟩
  |none=>unfold St.due at hx;rw[List.find?_eq_none] at hx;have:=hx i (List.mem_range.2 hil);refine absurd ?_ this;unfold St.at_;rw[he,Bool.and_eq_true];refine⟨by simpa using hhN,?_⟩;rw[List.getD_eq_getElem?_getD,List.getElem?_eq_getElem hi,hib];rfl
 obtain⟨j,hj⟩:=hdue;obtain⟨e,hej,heh,_⟩:=St.due_parts hj;have hn:=next_of_due hj hej;have hc:candC hN=⟨(hN:Int),false,0⟩:=by unfold candC;rw[Nat.mod_eq_of_lt hN4,decide_eq_false (by omega),show hN/4-1=0 by omega];rfl
 by_cases h1:e.k=1
 ·refine⟨hN,by omega,?_⟩;rw[hc,hn];unfold St.step;rw[if_pos h1];rfl
 by_cases h2:e.k=2
 ·refine⟨hN,by omega,?_⟩;rw[hc,hn];unfold St.step;rw[if_neg h1,if_pos h2];rfl
 by_cases h3:s.m.pend.getD e.h.toNat []=[]
 ·refine⟨hN,by omega,?_⟩;rw[hc,hn];unfold St.step;rw[if_neg h1,if_neg h2,if_pos h3];rfl
 refine⟨4+hN,by omega,?_⟩;have hc2:candC (4+hN)=⟨(hN:Int),true,((0:Nat):Int)⟩:=by unfold candC;rw[show(4+hN)%4=hN by omega,decide_eq_true (by omega),show(4+hN)/4-1=0 by omega]
 rw[heh,show((hN:Int)).toNat=hN from rfl] at h3;have hdr:∃M',s.m.drain hN 0=some M':=by
  unfold Mm.drain;cases hp:s.m.pend.getD hN [] with
  |nil=>exact absurd hp h3
  |cons x p=>exact⟨⟨s.m.words.set x.1.toNat x.2,s.m.pend.set hN p⟩,by simp⟩
 obtain⟨M',hM⟩:=hdr;rw[hc2,next_of_drain hN4 hM];rfl
end Go.Proofs.YtnigadeohmlpiaaGreatDoor
namespace Go.Proofs.YtnigadeohmlpiaaGreatDoor
open Go.RowKit
attribute [local go_sem] Oper.semAt_some
structure IsTri(w:World)(A:Option Addr)(n:Nat)(zs:List Int):Prop where
 rd:Rd w 3 A n (ints zs)
 ok:∀z∈zs,I64ok z
theorem IsTri.below{w w':World}{A:Option Addr}{n:Nat}{zs:List Int}(h:IsTri w A n zs)(hb:Below w.heap.size w w'):IsTri w' A n zs:=⟨h.rd.below hb,h.ok⟩
theorem IsTri.at_{w:World}{A:Option Addr}{n k:Nat}{zs:List Int}(h:IsTri w A n zs)(hk:k<n):∃g o x y z,A=some ⟨g,o,none⟩/\w.cell? ⟨g,o+k*3,none⟩=some (.int .i64 x)/\w.cell? ⟨g,o+k*3+1,none⟩=some (.int .i64 y)/\w.cell? ⟨g,o+k*3+2,none⟩=some (.int .i64 z)/\I64ok x/\I64ok y/\I64ok z:=by
 have hl:zs.length=n*3:=by have:=h.rd.1;simpa[ints] using this
 obtain⟨g,o,hA,_,hc⟩:=h.rd.2 (by omega);have hg:∀j,j<n*3->∃x,I64ok x/\w.cell? ⟨g,o+j,none⟩=some (.int .i64 x):=fun j hj=>by
  have hj':j<zs.length:=by omega
  have hx:zs[j]?=some zs[j]:=List.getElem?_eq_getElem hj';exact⟨zs[j],h.ok _ (List.getElem_mem _),hc j _ (by show(zs.map (Value.int .i64))[j]?=_;rw[List.getElem?_map,hx];rfl)⟩
 obtain⟨x,hx,cx⟩:=hg (k*3) (by omega);obtain⟨y,hy,cy⟩:=hg (k*3+1) (by omega);obtain⟨z,hz,cz⟩:=hg (k*3+2) (by omega);exact⟨g,o,x,y,z,hA,cx,cy,cz,hx,hy,hz⟩
theorem NextIs.form{n:Nat}{o:Option St}{e:Ending}{w:World}(h:NextIs n o e w):∃a1 m1 d1 a2 m2 d2 a3 m3 d3 a4 m4 d4 a5 m5 d5,e=.returned (.tuple #[.agg #[.slice a1 m1 d1,.slice a2 m2 d2,.slice a3 m3 d3,.slice a4 m4 d4,.slice a5 m5 d5],.bool o.isSome])/\∀s',o=some s'->IsSt w (.agg #[.slice a1 m1 d1,.slice a2 m2 d2,.slice a3 m3 d3,.slice a4 m4 d4,.slice a5 m5 d5]) n s':=by
 cases o with
 |none=>obtain⟨u1,u2,u3,u4,u5,⟨a1,n1,c1,rfl⟩,⟨a2,n2,c2,rfl⟩,⟨a3,n3,c3,rfl⟩,⟨a4,n4,c4,rfl⟩,⟨a5,n5,c5,rfl⟩,rfl⟩:=h;exact⟨_,_,_,_,_,_,_,_,_,_,_,_,_,_,_,rfl,fun s' h=>by cases h⟩
 |some s'=>obtain⟨v,rfl,hs⟩:=h;obtain⟨A1,c1,A2,c2,A3,c3,AD,cD,AT,cT,rfl⟩:=hs.form;exact⟨_,_,_,_,_,_,_,_,_,_,_,_,_,_,_,rfl,fun s h=>by cases h;exact hs⟩
theorem pkCells_append(p q:List Pk):pkCells (p++q)=pkCells p++pkCells q:=by simp[pkCells]
theorem three_cell{w:World}{g j:Nat}{x y z u:Value}{t:TypeId}(h:w.heap[g]?=some (.cells #[x,y,z] t))(hu:[x,y,z][j]?=some u):w.cell? ⟨g,0+j,none⟩=some u:=by rw[cell_of_row w g _ _ _ _ h];simpa using hu
theorem play13_any(A:Option Addr)(n c:Nat)(pl:List Ev)(B:Option Addr)(m d:Nat)(zs:List Int)(w:World)(hl:Prog pl)(he:IsEvs w A n c pl)(hz:IsTri w B m zs):
  Calls Tryz.prog 13 #[.slice A n c,.slice B m d] w fun e w'=>(∃A' k c' xs z,e=.returned (.slice A' k c')/\IsPks w' A' k c' xs/\k<=12/\k<=c'/\playP pl xs=some z)/\Below w.heap.size w w':=by
 have hn:n<=6:=he.len▸hl.few;obtain⟨i0,hi0,hz0,hz1,hz2⟩:=info_parts pick_info;have HPg:=Jh hl;have HE:=Jh he;have HZ:=Jh hz;have HSt:=Jh (start28_any A n c w hn);clear he hz hl;go_enter Tryz.func13,Tryz.ntmps13;go_wp2_with fail;refine HSt.o.mono ?_;rintro e w1 ⟨⟨v0,rfl,hs0⟩,hb1⟩;obtain⟨A1,c1,A2,c2,A3,c3,AD,cD,AT,cT,rfl⟩:=hs0.form;obtain⟨b6,hb6⟩:=exE (w1.heap.size)
 obtain⟨W2,hW2⟩:=exE (w1.alloc (.cells #[.slice A1 4 c1,.slice A2 4 c2,.slice A3 4 c3,.slice AD n cD,.slice AT n cT] 62));have k2:Below w1.heap.size w1 W2:=hW2▸bA (bR w1);have HB2:=Jh (bT hb1 k2);have H62:=Jh (show W2.heap[b6]?=some (.cells #[.slice A1 4 c1,.slice A2 4 c2,.slice A3 4 c3,.slice AD n cD,.slice AT n cT] 62) by rw[hW2,hb6];exact heap_alloc_new w1 _)
 have HS2:=Jh (hs0.sees (Below.sees k2));have HLb:=Jh (show w.heap.size<=b6 from by rw[hb6];exact hb1.size);have HRun:=Jh (show(St.first n).run pl []=some (St.first n) from rfl)
 have HMs:=Jh (first_meas n);clear k2 hb1 hs0;go_upto_region 4 with fail
 rw[<-hW2,<-hb6];clear hW2 hb6
 go_loopw [5,7] (fun vd vi wr=>∃(xs:List Pk) (q:Nat) (s:St) (x1 x2 x3 x4 x5:Value),q=xs.length/\q+s.meas<=2*n/\vi=.int .i64 q/\Below w.heap.size w wr/\wr.heap[b6]?=some (.cells #[x1,x2,x3,x4,x5] 62)/\IsSt wr (.agg #[x1,x2,x3,x4,x5]) n s/\(St.first n).run pl xs=some s/\wr.ownsRow w.heap.size 56 3 vd q (pkCells xs)/\∀x∈xs,I64ok x.h/\I64ok x.w) (fun _ vi _=>20-(intOf vi).toNat)
 case atStart=>exact⟨[],0,St.first n,_,_,_,_,_,rfl,by rw[HMs.o];omega,rfl,HB2.o,H62.o,HS2.o,HRun.o,World.ownsRow_nil _ _ _ _,fun x h=>by cases h⟩
 case round=>
  obtain⟨xs,q,s,x1,x2,x3,x4,x5,hq,hms,rfl,hbw,h6,hst,hrun,hown,hrng⟩:=hrel;obtain⟨wo,rfl⟩:=exE wr;have HQ:=Jh hq;have HMS:=Jh hms;have HBW:=Jh hbw;have H6:=Jh h6;have HST:=Jh hst;have HRU:=Jh hrun;have HOW:=Jh hown;have HRN:=Jh hrng;obtain⟨AP,cP,rfl,hcP,_⟩:=own_slice hown;have hq20:decide ((q:Int)<20)=true:=by simp;omega
  have hq12:q<=12:=by omega
  have HEn:=Jh (ended29_any n _ s wo hst hn);clear hq hms hbw h6 hst hrun hown hrng;obtain⟨r0,r1,r2,r3,r4,_⟩:=cells5 H6.o;go_wp2_with fail;refine HEn.o.mono ?_;rintro e w3 ⟨rfl,hb3⟩;have HB3:=Jh hb3;clear r0 r1 r2 r3 r4 hb3;cases hdn:s.done.all id with
  |true=>have HO:=Jh (show∃z,playP pl xs=some z from by unfold playP;rw[HE.o.len,HRU.o];show∃z,s.outcome pl=some z;unfold St.outcome;rw[if_pos hdn];exact⟨_,rfl⟩);clear hdn;go_wp2_with fail;go_ret;obtain⟨z,hz⟩:=HO.o;exact⟨⟨AP,q,cP,xs,z,rfl,⟨HQ.o.symm,(Row.of_own HOW.o).below HB3.o,HRN.o⟩,hq12,hcP,hz⟩,bT HBW.o HB3.o⟩
  |false=>
   have HGo:=Jh (can_go HPg.o (by rw[HE.o.len];exact HST.o.ok) hdn);clear hdn;have H63:=Jh (blk_below HB3.o H6.o);have HE3:=Jh (HE.o.sees (Below.sees (bT HBW.o HB3.o)));have HST3:=Jh (HST.o.sees (Below.sees HB3.o));go_upto_region 11 with fail
   go_loopw [9,10] (fun vf vc wr=>∃(cc fl:Nat) (F:List Pk),cc<=16/\vc=.int .i64 cc/\F=freeL pl s cc/\fl=F.length/\Below w3.heap.size w3 wr/\wr.ownsRow w3.heap.size 56 3 vf fl (pkCells F)) (fun _ vc _=>16-(intOf vc).toNat);case atStart=>exact⟨0,0,[],by omega,rfl,rfl,rfl,bR w3,World.ownsRow_nil _ _ _ _⟩
   case round=>
    obtain⟨cc,fl,F,hcc,rfl,hF,hfl,hbi,hof⟩:=hrel;obtain⟨wi,rfl⟩:=exE wr;have hfl16:fl<=16:=by rw[hfl,hF];exact Nat.le_trans (freeL_len pl s cc) hcc
    have HF:=Jh hF;have HFl:=Jh hfl;have HBI:=Jh hbi;have HOF:=Jh hof;obtain⟨AF,cF,rfl,_,_⟩:=own_slice hof;clear hF hfl hbi hof;by_cases hlt:cc<16
    ·have hlb:decide ((cc:Int)<16)=true:=by simp;omega
     have ht4:Int.tmod (cc:Int) 4=((cc%4:Nat):Int):=(Int.ofNat_tmod cc 4).symm;have hd4:Int.tdiv (cc:Int) 4=((cc/4:Nat):Int):=(Int.ofNat_tdiv cc 4).symm;have hsw:IntKind.i64.wrap (((cc/4:Nat):Int)-1)=((cc/4:Nat):Int)-1:=IntWalk.i64_in _ (by omega);go_upto_region 14 with fail
     obtain⟨xh,hxh⟩:=exE ((cc:Int)%4);obtain⟨xd,hxd⟩:=exE (decide (4<=(cc:Int)));obtain⟨xw,hxw⟩:=exE (max ((cc:Int)/4-1) 0);rw[<-hxh,<-hxd,<-hxw];have HX:=Jh (show candC cc=⟨xh,xd,xw⟩ from by
      unfold candC;rw[hxh,hxd,hxw];congr 1
      ·simp;omega
      omega)
     obtain⟨b11,hb11⟩:=exE (wi.heap.size);obtain⟨W4,hW4⟩:=exE (wi.alloc (.cells #[.int .i64 xh,.bool xd,.int .i64 xw] 56));rw[<-hW4,<-hb11];have k4:Below wi.heap.size wi W4:=hW4▸bA (bR wi);have HB4:=Jh (bT HBI.o k4);have H114:=Jh (show W4.heap[b11]?=some (.cells #[.int .i64 xh,.bool xd,.int .i64 xw] 56) by rw[hW4,hb11];exact heap_alloc_new wi _)
     have HOF4:=Jh (own_tk (T:=[]) HOF.o (Tk.below k4) (by decide));have HNx:=Jh (next30_any A n c pl (.agg #[x1,x2,x3,x4,x5]) s (candC cc) W4 HPg.o (HE3.o.sees (Below.sees HB4.o)) (HST3.o.sees (Below.sees HB4.o)));have hpv:pickV (candC cc)=.agg #[.int .i64 xh,.bool xd,.int .i64 xw]:=by rw[HX.o];rfl
     rw[hpv] at HNx;clear hxh hxd hxw hb11 hW4 k4 hpv ht4 hd4 hsw;obtain⟨r0,r1,r2,r3,r4,_⟩:=cells5 (blk_below HB4.o H63.o);obtain⟨p0,p1,p2,_⟩:=cells3 H114.o;go_wp2_with fail;refine HNx.o.mono ?_;rintro e w5 ⟨hnx,hb5⟩;obtain⟨a1,m1,d1,a2,m2,d2,a3,m3,d3,a4,m4,d4,a5,m5,d5,rfl,_⟩:=hnx.form;obtain⟨qb,hqb⟩:=exE ((s.next pl (candC cc)).isSome)
     rw[<-hqb];have HFS:=Jh (show freeL pl s (cc+1)=F++if qb then[candC cc] else[] from by rw[freeL_succ,HF.o,hqb])
     obtain⟨W6,hW6⟩:=exE (w5.alloc (.cells #[.slice a1 m1 d1,.slice a2 m2 d2,.slice a3 m3 d3,.slice a4 m4 d4,.slice a5 m5 d5] 62));have k6:Below W4.heap.size W4 W6:=hW6▸bT hb5 (bA (bR w5));have HB6:=Jh (bT HB4.o k6);have H116:=Jh (blk_below k6 H114.o);have HOF6:=Jh (own_tk (T:=[]) HOF4.o (Tk.below k6) (by decide));clear hnx hqb hb5 k6 r0 r1 r2 r3 r4 p0 p1 p2;go_upto_region 15 with fail
     rw[<-hW6];clear hW6;cases qb with
     |false=>
      have HF1:=Jh (show freeL pl s (cc+1)=F from by rw[HFS.o];simp);go_wp2_with fail;go_roundw;case rel=>exact⟨cc+1,fl,F,by omega,by go_num,HF1.o.symm,HFl.o,HB6.o,HOF6.o⟩
      case measure=>simp[intOf];omega
     |true=>
      have HF1:=Jh (show freeL pl s (cc+1)=F++[candC cc] from HFS.o);obtain⟨p0,p1,p2,_⟩:=cells3 H116.o;have HNw:=Jh (heap_alloc_new W6 (.cells #[.int .i64 xh,.bool xd,.int .i64 xw] 56));have kA:Below W6.heap.size W6 (W6.alloc (.cells #[.int .i64 xh,.bool xd,.int .i64 xw] 56)):=bA (bR W6);have HOl:=Jh (own_tk (T:=[]) HOF6.o (Tk.below kA) (by decide));have HBl:=Jh (bT HB6.o kA)
      have HPe:=Jh (show pkCells (F++[candC cc])=pkCells F++[.int .i64 xh,.bool xd,.int .i64 xw] from by rw[pkCells_append,HX.o];rfl);clear kA;go_upto_region 16 with fail
      go_wp2_with (
       at_builtin
       refine wpList_append_rd _ rfl (.tmp 46) (.tmp 48) 27 rfl w3.heap.size 56 i0 _ 3 24 Tryz.underlying27 hi0 hz0 hz1 hz2 rfl (by decide) (.slice AF fl cF) fl (pkCells F) rfl HOl.o (some ⟨W6.heap.size,0,none⟩) 1 1 [.int .i64 xh,.bool xd,.int .i64 xw] rfl ⟨rfl,fun _=>⟨W6.heap.size,0,rfl,blk_lt HNw.o,fun j u hu=>three_cell HNw.o hu⟩⟩ (by simp[Value.oneCell']) (by unfold maxLen;omega) (by omega) HBl.o.size ?_
       intro v7 w7 hown7 hg7;obtain⟨A7,c7,rfl,_,_⟩:=own_slice hown7;have HO7:=Jh (show w7.ownsRow w3.heap.size 56 3 (.slice A7 (fl+1) c7) (fl+1) (pkCells (F++[candC cc])) from by rw[HPe.o];exact hown7);have HB7:=Jh (HBl.o.grown hg7 HBl.o.size (fun r e=>(HOl.o.lt r e).1));clear hown7 hg7 p0 p1 p2)
      go_roundw;case rel=>exact⟨cc+1,fl+1,F++[candC cc],by omega,by go_num,HF1.o.symm,by rw[List.length_append,<-HFl.o];rfl,HB7.o,HO7.o⟩
      case measure=>simp[intOf];omega
    have hlb:decide ((cc:Int)<16)=false:=by simp;omega
    have hc16:cc=16:=by omega
    have HF16:=Jh (show F=freeL pl s 16 from by rw[HF.o,hc16]);have hfl0:0<fl:=by
     obtain⟨c0,hc0,hs0⟩:=HGo.o;have:candC c0∈F:=by rw[HF16.o];unfold freeL;rw[List.mem_filter,List.mem_map];exact⟨⟨c0,List.mem_range.2 hc0,rfl⟩,hs0⟩
     rw[HFl.o];exact List.length_pos_of_mem this
    have hflb:((fl:Int)==0)=false:=by simp;omega
    clear hc16;go_upto_if 57 with fail
    go_cut [14] from 17 to 82 (fun vj wx=>∃j:Nat,vj=.int .i64 j/\j<fl/\wx=wi)
    case first=>
     by_cases hqm:q<m
     ·have hqb:decide ((q:Int)<(m:Int))=true:=by simp;omega
      have hqb2:decide (q<m)=true:=by simpa using hqm
      obtain⟨g,o,zx,zy,zz,rfl,hc0,_,_,hzx,_,_⟩:=(HZ.o.below (bT HBW.o (bT HB3.o HBI.o))).at_ hqm;have HPk:=Jh (pick24_any zx fl wi (by omega) hzx.1 hzx.2);have h0:0<=pk zx fl:=pk_lo zx fl (by omega);have h1:pk zx fl<fl:=pk_hi zx fl (by omega);obtain⟨j,hj⟩:∃j:Nat,pk zx fl=(j:Int):=⟨(pk zx fl).toNat,by omega⟩;rw[hj] at HPk h1;have hqi:(q:Int)<(m:Int):=by omega
      have hq0:decide ((q:Int)<0)=false:=by simp
      clear h0 hj hzx;go_wp2_with fail;refine HPk.o.mono ?_;rintro e w9 ⟨rfl,rfl⟩;go_wp2_with fail;go_meet;exact⟨j,rfl,by omega,rfl⟩
     have hqb:decide ((q:Int)<(m:Int))=false:=by simp;omega
     have hqb2:decide (q<m)=false:=by simpa using hqm
     go_wp2_with fail;go_meet;exact⟨0,rfl,hfl0,rfl⟩
    case rest=>
     obtain⟨j,rfl,hj,rfl⟩:=hcut;have hFj:∃x,F[j]?=some x:=⟨_,List.getElem?_eq_getElem (by rw[<-HFl.o];exact hj)⟩;obtain⟨x,hx⟩:=hFj;obtain⟨hsm,c0,hc0,hxc⟩:=freeL_mem (show x∈freeL pl s 16 from by rw[<-HF16.o];exact List.mem_of_getElem? hx);obtain⟨s1,hs1⟩:=Option.isSome_iff_exists.1 hsm;have HS1:=Jh hs1
     have HXR:=Jh (show I64ok x.h/\I64ok x.w from by have:=candC_rng c0 hc0;rw[<-hxc] at this;exact⟨⟨by omega,by omega⟩,⟨by omega,by omega⟩⟩);obtain⟨xh,hxh⟩:=exE (x.h);obtain⟨xd,hxd⟩:=exE (x.d);obtain⟨xw,hxw⟩:=exE (x.w);have HPv:=Jh (show pickV x=.agg #[.int .i64 xh,.bool xd,.int .i64 xw] from by rw[hxh,hxd,hxw];rfl);obtain⟨gF,capF,eF,hgF,_⟩:=own_form HOF.o hfl0;injection eF with eF1 _ eF3
     subst eF1 eF3;have hpl:(pkCells F).length=fl*3:=HOF.o.1;have hcl:∀wx:World,wx.ownsRow w3.heap.size 56 3 (.slice (some ⟨gF,0,none⟩) fl cF) fl (pkCells F)->wx.cell? ⟨gF,j*3,none⟩=some (.int .i64 xh)/\wx.cell? ⟨gF,j*3+1,none⟩=some (.bool xd)/\wx.cell? ⟨gF,j*3+2,none⟩=some (.int .i64 xw):=fun wx ho=>by
      obtain⟨q0,q1,q2⟩:=pk_at F j x hx;rw[<-hxh] at q0;rw[<-hxd] at q1;rw[<-hxw] at q2;exact⟨(ho.cellAt (j*3) (by omega)).trans q0,(ho.cellAt (j*3+1) (by omega)).trans q1,(ho.cellAt (j*3+2) (by omega)).trans q2⟩
     have HCl:=Jh hcl;have HPx:=Jh (show pkCells (xs++[x])=pkCells xs++[.int .i64 xh,.bool xd,.int .i64 xw] from by rw[pkCells_append,hxh,hxd,hxw];rfl);have hj0:decide ((j:Int)<0)=false:=by simp
     have hjf:(j:Int)<(fl:Int):=by omega
     have HBi:=Jh (bT HBW.o (bT HB3.o HBI.o));have hw3:w.heap.size<=w3.heap.size:=Nat.le_trans HBW.o.size HB3.o.size;clear hx hsm hc0 hxc hs1 hxh hxd hxw hcl hpl hgF;go_upto_region 22 with fail
     have hq:∀(k9:Nat),k9≠10->∀(l:Nat->Bool) (wx:World),(Below w.heap.size w wx/\(l 10=false->wx.heap[b6]?=some (.cells #[x1,x2,x3,x4,x5] 62))/\wx.ownsRow w.heap.size 56 3 (.slice AP q cP) q (pkCells xs)/\wx.ownsRow w3.heap.size 56 3 (.slice (some ⟨gF,0,none⟩) fl cF) fl (pkCells F)/\IsEvs wx A n c pl/\IsSt wx (.agg #[x1,x2,x3,x4,x5]) n s)->(Below w.heap.size w wx/\((decide (10=k9)||l 10)=false->wx.heap[b6]?=some (.cells #[x1,x2,x3,x4,x5] 62))/\wx.ownsRow w.heap.size 56 3 (.slice AP q cP) q (pkCells xs)/\wx.ownsRow w3.heap.size 56 3 (.slice (some ⟨gF,0,none⟩) fl cF) fl (pkCells F)/\IsEvs wx A n c pl/\IsSt wx (.agg #[x1,x2,x3,x4,x5]) n s):=fun k9 h7 l wx h=>⟨h.1,fun hl=>h.2.1 (Bool.or_eq_false_iff.1 hl).2,h.2.2⟩
     have rr:∀{T:List TypeId} (wx:World),Tk T wx wx:=fun wx=>Tk.refl _ wx;have nt:∀(i e:Nat),e≠62->e∉(if i=10 then[62] else[]:List TypeId):=fun i e h=>by
      split
      ·simpa using h
      simp
     refine wp_region_det (by kernel_rfl) (fun f=>(⟨#[Value.slice A n c,Value.slice B m d,undef,undef,u4,Value.slice AP q cP,Value.pointer (some ⟨b6,0,none⟩),.int .i64 (q:Int),Value.bool false,Value.slice (some ⟨gF,0,none⟩) fl cF,.int .i64 (cc:Int),u11,u12,u13,.int .i64 (j:Int),Value.slice A n c,Value.agg #[Value.slice A1 4 c1,Value.slice A2 4 c2,Value.slice A3 4 c3,Value.slice AD n cD,Value.slice AT n cT],u17,u18,u19,u20,u21,u22,u23,u24,u25,u26,u27,u28,u29,u30,u31,u32,u33,u34,u35,u36,u37,u38,u39,u40,u41,u42,u43,u44,u45,u46,u47,u48,u49,u50,u51,u52,u53,u54,u55,u56,u57,u58,u59,u60,u61,u62,u63,u64,u65,f 7,f 0,f 1,f 2,f 3,f 4,f 5,f 6,f 8,f 9,u76,u77,u78,u79,u80,u81,u82,undef],[]⟩:Act)) (fun(iv:Nat) (lv:Nat->Bool) (fv:Nat->Value) (wx:World)=>match iv with|0=>fv 0=.slice A n c|1=>fv 1=.agg #[x1,x2,x3,x4,x5]|2=>fv 2=.slice (some ⟨gF,0,none⟩) fl cF|3=>fv 3=.int .i64 (j:Int)|4=>fv 4=.pointer (some ⟨gF,j*3,none⟩)|5=>fv 5=.agg #[.int .i64 xh,.bool xd,.int .i64 xw]|6=>∃ga1 gm1 gd1 ga2 gm2 gd2 ga3 gm3 gd3 ga4 gm4 gd4 ga5 gm5 gd5,(fv 6)=.tuple #[.agg #[.slice ga1 gm1 gd1,.slice ga2 gm2 gd2,.slice ga3 gm3 gd3,.slice ga4 gm4 gd4,.slice ga5 gm5 gd5],.bool true]/\IsSt wx (.agg #[.slice ga1 gm1 gd1,.slice ga2 gm2 gd2,.slice ga3 gm3 gd3,.slice ga4 gm4 gd4,.slice ga5 gm5 gd5]) n s1|7=>∃x,(fv 7)=.tuple #[x,.bool true]/\(fv 6)=.tuple #[x,.bool true]|8=>∃x,(fv 7)=.tuple #[x,.bool true]/\(fv 8)=x|9=>fv 9=.bool true|10=>∃ga1 gm1 gd1 ga2 gm2 gd2 ga3 gm3 gd3 ga4 gm4 gd4 ga5 gm5 gd5,(fv 8)=.agg #[.slice ga1 gm1 gd1,.slice ga2 gm2 gd2,.slice ga3 gm3 gd3,.slice ga4 gm4 gd4,.slice ga5 gm5 gd5]/\wx.heap[b6]?=some (.cells #[.slice ga1 gm1 gd1,.slice ga2 gm2 gd2,.slice ga3 gm3 gd3,.slice ga4 gm4 gd4,.slice ga5 gm5 gd5] 62)/\IsSt wx (.agg #[.slice ga1 gm1 gd1,.slice ga2 gm2 gd2,.slice ga3 gm3 gd3,.slice ga4 gm4 gd4,.slice ga5 gm5 gd5]) n s1|_=>True) (fun lv wx=>Below w.heap.size w wx/\(lv 10=false->wx.heap[b6]?=some (.cells #[x1,x2,x3,x4,x5] 62))/\wx.ownsRow w.heap.size 56 3 (.slice AP q cP) q (pkCells xs)/\wx.ownsRow w3.heap.size 56 3 (.slice (some ⟨gF,0,none⟩) fl cF) fl (pkCells F)/\IsEvs wx A n c pl/\IsSt wx (.agg #[x1,x2,x3,x4,x5]) n s) (fun i w1 w2=>Tk (if i=10 then[62] else[]) w1 w2) (by kernel_rfl) (fun k=>match k with|0=>u67|1=>u68|2=>u69|3=>u70|4=>u71|5=>u72|6=>u73|7=>u66|8=>u74|9=>u75|_=>undef) rfl ?keep ⟨bD HBi.o,fun _=>blk_below (bD HBI.o) H63.o,own_tk (T:=[]) HOW.o (Tk.below (bT HB3.o (bD HBI.o))) (by decide),own_tk (T:=[]) HOF.o (Tk.below (bD (bR wc))) (by decide),HE3.o.sees (Below.sees (bD HBI.o)),HST3.o.sees (Below.sees (bD HBI.o))⟩ ?steps ?fin
     case keep=>
      intro iv j hij hd l f f' w1 w2 hf hR
      match j with
      |0|1|2|3|4|5|9=>exact fun h=>(hf _ (Ne.symm hij)).trans h
      |6=>
       intro h;have h:∃ga1 gm1 gd1 ga2 gm2 gd2 ga3 gm3 gd3 ga4 gm4 gd4 ga5 gm5 gd5,(f 6)=.tuple #[.agg #[.slice ga1 gm1 gd1,.slice ga2 gm2 gd2,.slice ga3 gm3 gd3,.slice ga4 gm4 gd4,.slice ga5 gm5 gd5],.bool true]/\IsSt w1 (.agg #[.slice ga1 gm1 gd1,.slice ga2 gm2 gd2,.slice ga3 gm3 gd3,.slice ga4 gm4 gd4,.slice ga5 gm5 gd5]) n s1:=h
       show∃ga1 gm1 gd1 ga2 gm2 gd2 ga3 gm3 gd3 ga4 gm4 gd4 ga5 gm5 gd5,(f' 6)=.tuple #[.agg #[.slice ga1 gm1 gd1,.slice ga2 gm2 gd2,.slice ga3 gm3 gd3,.slice ga4 gm4 gd4,.slice ga5 gm5 gd5],.bool true]/\IsSt w2 (.agg #[.slice ga1 gm1 gd1,.slice ga2 gm2 gd2,.slice ga3 gm3 gd3,.slice ga4 gm4 gd4,.slice ga5 gm5 gd5]) n s1;rw[hf 6 (Ne.symm hij)]
       exact h.elim fun ga1 h=>h.elim fun gm1 h=>h.elim fun gd1 h=>h.elim fun ga2 h=>h.elim fun gm2 h=>h.elim fun gd2 h=>h.elim fun ga3 h=>h.elim fun gm3 h=>h.elim fun gd3 h=>h.elim fun ga4 h=>h.elim fun gm4 h=>h.elim fun gd4 h=>h.elim fun ga5 h=>h.elim fun gm5 h=>h.elim fun gd5 h=>⟨ga1,gm1,gd1,ga2,gm2,gd2,ga3,gm3,gd3,ga4,gm4,gd4,ga5,gm5,gd5,h.1,h.2.tk hR (nt _ 3 (by decide)) (nt _ 87 (by decide)) (nt _ 128 (by decide)) (nt _ 4 (by decide))⟩
      |7=>intro h;have h:∃x,(f 7)=.tuple #[x,.bool true]/\(f 6)=.tuple #[x,.bool true]:=h;show∃x,(f' 7)=.tuple #[x,.bool true]/\(f' 6)=.tuple #[x,.bool true];rw[hf 7 (Ne.symm hij),hf 6 (fun e=>hd (e▸of_decide_eq_true (by kernel_rfl)))];exact h
      |8=>intro h;have h:∃x,(f 7)=.tuple #[x,.bool true]/\(f 8)=x:=h;show∃x,(f' 7)=.tuple #[x,.bool true]/\(f' 8)=x;rw[hf 8 (Ne.symm hij),hf 7 (fun e=>hd (e▸of_decide_eq_true (by kernel_rfl)))];exact h
      |10=>
       intro h
       have h:∃ga1 gm1 gd1 ga2 gm2 gd2 ga3 gm3 gd3 ga4 gm4 gd4 ga5 gm5 gd5,(f 8)=.agg #[.slice ga1 gm1 gd1,.slice ga2 gm2 gd2,.slice ga3 gm3 gd3,.slice ga4 gm4 gd4,.slice ga5 gm5 gd5]/\w1.heap[b6]?=some (.cells #[.slice ga1 gm1 gd1,.slice ga2 gm2 gd2,.slice ga3 gm3 gd3,.slice ga4 gm4 gd4,.slice ga5 gm5 gd5] 62)/\IsSt w1 (.agg #[.slice ga1 gm1 gd1,.slice ga2 gm2 gd2,.slice ga3 gm3 gd3,.slice ga4 gm4 gd4,.slice ga5 gm5 gd5]) n s1:=h
       show∃ga1 gm1 gd1 ga2 gm2 gd2 ga3 gm3 gd3 ga4 gm4 gd4 ga5 gm5 gd5,(f' 8)=.agg #[.slice ga1 gm1 gd1,.slice ga2 gm2 gd2,.slice ga3 gm3 gd3,.slice ga4 gm4 gd4,.slice ga5 gm5 gd5]/\w2.heap[b6]?=some (.cells #[.slice ga1 gm1 gd1,.slice ga2 gm2 gd2,.slice ga3 gm3 gd3,.slice ga4 gm4 gd4,.slice ga5 gm5 gd5] 62)/\IsSt w2 (.agg #[.slice ga1 gm1 gd1,.slice ga2 gm2 gd2,.slice ga3 gm3 gd3,.slice ga4 gm4 gd4,.slice ga5 gm5 gd5]) n s1
       rw[hf 8 (fun e=>hd (e▸of_decide_eq_true (by kernel_rfl)))]
       exact h.elim fun ga1 h=>h.elim fun gm1 h=>h.elim fun gd1 h=>h.elim fun ga2 h=>h.elim fun gm2 h=>h.elim fun gd2 h=>h.elim fun ga3 h=>h.elim fun gm3 h=>h.elim fun gd3 h=>h.elim fun ga4 h=>h.elim fun gm4 h=>h.elim fun gd4 h=>h.elim fun ga5 h=>h.elim fun gm5 h=>h.elim fun gd5 h=>⟨ga1,gm1,gd1,ga2,gm2,gd2,ga3,gm3,gd3,ga4,gm4,gd4,ga5,gm5,gd5,h.1,Tk.at_ hR (by rw[if_neg (fun e=>hij e)];exact List.not_mem_nil) h.2.1,h.2.2.tk hR (nt _ 3 (by decide)) (nt _ 87 (by decide)) (nt _ 128 (by decide)) (nt _ 4 (by decide))⟩
      |_+11=>exact id
     case steps=>
      refine fun iv hiv=>stepsOf_at (k:=0) (n:=11) ?_ iv (Nat.zero_le _) (by rw[Nat.zero_add];exact hiv);refine sD 0 10 aT0 [] (fun f wq l hl hun hdn hS hd K' HK=>?_) ?_
      ·clear hd;go_simp;exact HK.o _ _ _ rfl rfl (hq 0 (by decide) l _ hS) (rr _)
      refine sD 1 9 aT1 [] (fun f wq l hl hun hdn hS hd K' HK=>?_) ?_
      ·clear hd;obtain⟨r0,r1,r2,r3,r4,_⟩:=cells5 (hS.2.1 (hun 10 (of_decide_eq_true (by kernel_rfl))));go_simp;exact HK.o _ _ _ rfl rfl (hq 1 (by decide) l _ hS) (rr _)
      refine sD 2 8 aT2 [] (fun f wq l hl hun hdn hS hd K' HK=>?_) ?_
      ·clear hd;go_simp;exact HK.o _ _ _ rfl rfl (hq 2 (by decide) l _ hS) (rr _)
      refine sD 3 7 aT3 [] (fun f wq l hl hun hdn hS hd K' HK=>?_) ?_
      ·clear hd;go_simp;exact HK.o _ _ _ rfl rfl (hq 3 (by decide) l _ hS) (rr _)
      refine sD 4 6 aT4 [2,3] (fun f wq l hl hun hdn hS hd K' HK=>?_) ?_
      ·obtain⟨e2,e3,-⟩:=hd;have e2:f 2=_:=e2;have e3:f 3=_:=e3;simp only[e2,e3];go_simp;exact HK.o _ _ _ (by simp only[e2,e3];rfl) rfl (hq 4 (by decide) l _ hS) (rr _)
      refine sD 5 5 aT5 [4] (fun f wq l hl hun hdn hS hd K' HK=>?_) ?_
      ·obtain⟨e4,-⟩:=hd;have e4:f 4=_:=e4;obtain⟨r0,r1,r2⟩:=HCl.o wq hS.2.2.2.1;simp only[e4];go_simp;exact HK.o _ _ _ (by simp only[e4];rfl) rfl (hq 5 (by decide) l _ hS) (rr _)
      refine sD 6 4 aT6 [0,1,5] (fun f wq l hl hun hdn hS hd K' HK=>?_) ?_
      ·obtain⟨e0,e1,e5,-⟩:=hd;have e0:f 0=_:=e0;have e1:f 1=_:=e1;have e5:f 5=_:=e5;have HCz:=Jh (next30_any A n c pl (.agg #[x1,x2,x3,x4,x5]) s x wq HPg.o hS.2.2.2.2.1 hS.2.2.2.2.2);rw[HPv.o,HS1.o] at HCz;have HS:=Jh hS;clear hS;simp only[e0,e1,e5];go_simp;go_wp2_with fail;refine HCz.o.mono ?_;rintro e w9 ⟨hnx,hb9⟩;obtain⟨ga1,gm1,gd1,ga2,gm2,gd2,ga3,gm3,gd3,ga4,gm4,gd4,ga5,gm5,gd5,rfl,hy⟩:=hnx.form
       have hS:=HS.o
       exact HK.o _ _ _ (by simp only[e0,e1,e5];rfl) ⟨_,_,_,_,_,_,_,_,_,_,_,_,_,_,_,rfl,hy s1 rfl⟩ ⟨bT hS.1 hb9,fun hl=>Tk.at_ (Tk.below (T:=[]) hb9) (by decide) (hS.2.1 (Bool.or_eq_false_iff.1 hl).2),own_tk hS.2.2.1 (Tk.below (T:=[]) hb9) (by decide),own_tk hS.2.2.2.1 (Tk.below (T:=[]) hb9) (by decide),hS.2.2.2.2.1.tk (Tk.below (T:=[]) hb9) (by decide),hS.2.2.2.2.2.tk (Tk.below (T:=[]) hb9) (by decide) (by decide) (by decide) (by decide)⟩ (Tk.below hb9)
      refine sD 7 3 aT7 [6] (fun f wq l hl hun hdn hS hd K' HK=>?_) ?_
      ·obtain⟨e6,-⟩:=hd;have e6:∃ga1 gm1 gd1 ga2 gm2 gd2 ga3 gm3 gd3 ga4 gm4 gd4 ga5 gm5 gd5,(f 6)=.tuple #[.agg #[.slice ga1 gm1 gd1,.slice ga2 gm2 gd2,.slice ga3 gm3 gd3,.slice ga4 gm4 gd4,.slice ga5 gm5 gd5],.bool true]/\IsSt wq (.agg #[.slice ga1 gm1 gd1,.slice ga2 gm2 gd2,.slice ga3 gm3 gd3,.slice ga4 gm4 gd4,.slice ga5 gm5 gd5]) n s1:=e6
       obtain⟨ga1,gm1,gd1,ga2,gm2,gd2,ga3,gm3,gd3,ga4,gm4,gd4,ga5,gm5,gd5,h6,_⟩:=e6;simp only[h6];go_simp;exact HK.o _ _ _ (by simp only[h6];rfl) ⟨_,rfl,h6⟩ (hq 7 (by decide) l _ hS) (rr _)
      refine sD 8 2 aT8 [7] (fun f wq l hl hun hdn hS hd K' HK=>?_) ?_
      ·obtain⟨e7,-⟩:=hd;have e7:∃x,(f 7)=.tuple #[x,.bool true]/\(f 6)=.tuple #[x,.bool true]:=e7;obtain⟨x7,h7,hz9⟩:=e7;clear hz9;simp only[h7];go_simp;exact HK.o _ _ _ (by simp only[h7];rfl) ⟨_,h7,rfl⟩ (hq 8 (by decide) l _ hS) (rr _)
      refine sD 9 1 aT9 [7] (fun f wq l hl hun hdn hS hd K' HK=>?_) ?_
      ·obtain⟨e7,-⟩:=hd;have e7:∃x,(f 7)=.tuple #[x,.bool true]/\(f 6)=.tuple #[x,.bool true]:=e7;obtain⟨x7,h7,hz9⟩:=e7;clear hz9;simp only[h7];go_simp;exact HK.o _ _ _ (by simp only[h7];rfl) rfl (hq 9 (by decide) l _ hS) (rr _)
      refine sD 10 0 aT10 [6,7,8] (fun f wq l hl hun hdn hS hd K' HK=>?_) ?_
      ·obtain⟨e6,e7,e8,-⟩:=hd;have e6:∃ga1 gm1 gd1 ga2 gm2 gd2 ga3 gm3 gd3 ga4 gm4 gd4 ga5 gm5 gd5,(f 6)=.tuple #[.agg #[.slice ga1 gm1 gd1,.slice ga2 gm2 gd2,.slice ga3 gm3 gd3,.slice ga4 gm4 gd4,.slice ga5 gm5 gd5],.bool true]/\IsSt wq (.agg #[.slice ga1 gm1 gd1,.slice ga2 gm2 gd2,.slice ga3 gm3 gd3,.slice ga4 gm4 gd4,.slice ga5 gm5 gd5]) n s1:=e6
       have e7:∃x,(f 7)=.tuple #[x,.bool true]/\(f 6)=.tuple #[x,.bool true]:=e7;have e8:∃x,(f 7)=.tuple #[x,.bool true]/\(f 8)=x:=e8;obtain⟨ga1,gm1,gd1,ga2,gm2,gd2,ga3,gm3,gd3,ga4,gm4,gd4,ga5,gm5,gd5,h6,hy⟩:=e6;obtain⟨x7,h7,hz7⟩:=e7;obtain⟨x8,hz8,h8⟩:=e8;rw[h6] at hz7;rw[h7] at hz8
       obtain rfl:x7=.agg #[.slice ga1 gm1 gd1,.slice ga2 gm2 gd2,.slice ga3 gm3 gd3,.slice ga4 gm4 gd4,.slice ga5 gm5 gd5]:=by injection hz7 with hz7;simpa using hz7.symm
       obtain rfl:x8=.agg #[.slice ga1 gm1 gd1,.slice ga2 gm2 gd2,.slice ga3 gm3 gd3,.slice ga4 gm4 gd4,.slice ga5 gm5 gd5]:=by injection hz8 with hz8;simpa using hz8.symm
       clear hz7 hz8;have hx:=hS.2.1 hl;obtain⟨r0,r1,r2,r3,r4,r5,r6,r7,r8,r9⟩:=cells5 hx;have HXb:=Jh hx;have HY:=Jh hy;have HS:=Jh hS;clear hS hx hy;simp only[h6,h7,h8];go_simp;have hS:=HS.o;have hk:=Tk.set5 (x':=.slice ga1 gm1 gd1) (y':=.slice ga2 gm2 gd2) (z':=.slice ga3 gm3 gd3) (u':=.slice ga4 gm4 gd4) (v':=.slice ga5 gm5 gd5) HXb.o
       exact HK.o undef _ _ (by simp only[h6,h7,h8];rfl) ⟨_,_,_,_,_,_,_,_,_,_,_,_,_,_,_,h8,set5 HXb.o,HY.o.tk hk (by decide) (by decide) (by decide) (by decide)⟩ ⟨bS5 hS.1 HLb.o,fun hl=>absurd hl (by simp),own_tk hS.2.2.1 hk (by decide),own_tk hS.2.2.2.1 hk (by decide),hS.2.2.2.2.1.tk hk (by decide),hS.2.2.2.2.2.tk hk (by decide) (by decide) (by decide) (by decide)⟩ hk
      exact trivial
     case fin=>
      intro fo wz lo hl hall hS;have a6:∃ga1 gm1 gd1 ga2 gm2 gd2 ga3 gm3 gd3 ga4 gm4 gd4 ga5 gm5 gd5,(fo 6)=.tuple #[.agg #[.slice ga1 gm1 gd1,.slice ga2 gm2 gd2,.slice ga3 gm3 gd3,.slice ga4 gm4 gd4,.slice ga5 gm5 gd5],.bool true]/\IsSt wz (.agg #[.slice ga1 gm1 gd1,.slice ga2 gm2 gd2,.slice ga3 gm3 gd3,.slice ga4 gm4 gd4,.slice ga5 gm5 gd5]) n s1:=hall 6 (by decide)
      have a7:∃x,(fo 7)=.tuple #[x,.bool true]/\(fo 6)=.tuple #[x,.bool true]:=hall 7 (by decide)
      have a10:∃ga1 gm1 gd1 ga2 gm2 gd2 ga3 gm3 gd3 ga4 gm4 gd4 ga5 gm5 gd5,(fo 8)=.agg #[.slice ga1 gm1 gd1,.slice ga2 gm2 gd2,.slice ga3 gm3 gd3,.slice ga4 gm4 gd4,.slice ga5 gm5 gd5]/\wz.heap[b6]?=some (.cells #[.slice ga1 gm1 gd1,.slice ga2 gm2 gd2,.slice ga3 gm3 gd3,.slice ga4 gm4 gd4,.slice ga5 gm5 gd5] 62)/\IsSt wz (.agg #[.slice ga1 gm1 gd1,.slice ga2 gm2 gd2,.slice ga3 gm3 gd3,.slice ga4 gm4 gd4,.slice ga5 gm5 gd5]) n s1:=hall 10 (by decide)
      clear hall;obtain⟨ga1,gm1,gd1,ga2,gm2,gd2,ga3,gm3,gd3,ga4,gm4,gd4,ga5,gm5,gd5,h8,hblk,hy⟩:=a10;obtain⟨_,_,_,_,_,_,_,_,_,_,_,_,_,_,_,h6,_⟩:=a6;obtain⟨x7,h7,_⟩:=a7;simp only[h6,h7,h8];have H6y:=Jh hblk;have HY:=Jh hy;have HSz:=Jh hS;clear h6 h7 h8 hblk hy hS hq rr nt hl;obtain⟨WE,rfl⟩:=exE wz;obtain⟨r0,r1,r2⟩:=HCl.o WE HSz.o.2.2.2.1
      have HNw:=Jh (heap_alloc_new WE (.cells #[.int .i64 xh,.bool xd,.int .i64 xw] 56));have kA:Below WE.heap.size WE (WE.alloc (.cells #[.int .i64 xh,.bool xd,.int .i64 xw] 56)):=bA (bR WE);have HOl:=Jh (own_tk (T:=[]) HSz.o.2.2.1 (Tk.below kA) (by decide));have HBl:=Jh (bT HSz.o.1 kA);have H6l:=Jh (blk_below kA H6y.o);have HYl:=Jh (HY.o.sees (Below.sees kA));clear kA;go_upto_region 23 with fail
      go_wp2_with (
       at_builtin
       refine wpList_append_rd _ rfl (.tmp 76) (.tmp 81) 27 rfl w.heap.size 56 i0 _ 3 24 Tryz.underlying27 hi0 hz0 hz1 hz2 rfl (by decide) (.slice AP q cP) q (pkCells xs) rfl HOl.o (some ⟨WE.heap.size,0,none⟩) 1 1 [.int .i64 xh,.bool xd,.int .i64 xw] rfl ⟨rfl,fun _=>⟨WE.heap.size,0,rfl,blk_lt HNw.o,fun j u hu=>three_cell HNw.o hu⟩⟩ (by simp[Value.oneCell']) (by unfold maxLen;omega) (by omega) HBl.o.size ?_
       intro v7 w7 hown7 hg7;obtain⟨A7,c7,rfl,_,_⟩:=own_slice hown7;have HO7:=Jh (show w7.ownsRow w.heap.size 56 3 (.slice A7 (q+1) c7) (q+1) (pkCells (xs++[x])) from by rw[HPx.o];exact hown7);have htk:=tk_grown HOl.o hg7;have HB7:=Jh (HBl.o.grown hg7 HBl.o.size (fun r e=>(HOl.o.lt r e).1));have H67:=Jh (htk.at_ (by decide) H6l.o)
       have HY7:=Jh (HYl.o.tk htk (by decide) (by decide) (by decide) (by decide));clear hown7 hg7 r0 r1 r2 htk)
      go_roundw
      case rel=>
       have hmn:=next_meas HS1.o;have hms:=HMS.o;exact⟨xs++[x],q+1,s1,_,_,_,_,_,by rw[List.length_append,<-HQ.o];rfl,by omega,by go_num,HB7.o,H67.o,HY7.o,by rw[run_snoc,HRU.o];exact HS1.o,HO7.o,fun y hy=>by
        rcases List.mem_append.1 hy with h|h
        ·exact HRN.o y h
        rw[List.mem_singleton.1 h];exact HXR.o⟩
      case measure=>simp[intOf];omega
end Go.Proofs.YtnigadeohmlpiaaGreatDoor
