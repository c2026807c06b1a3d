/- The statement LitmusTells, for every input: no condition of ours. -/
import Derived.Test.YtnigadeohmlpiaaGreatDoorC49
import Derived.Test.YtnigadeohmlpiaaGreatDoorC50
import Derived.Test.YtnigadeohmlpiaaGreatDoorC48
import Derived.Test.YtnigadeohmlpiaaGreatDoorC47
import Derived.Test.YtnigadeohmlpiaaGreatDoorC29
import Derived.Test.YtnigadeohmlpiaaGreatDoorC43
import Derived.Test.YtnigadeohmlpiaaGreatDoorC30
import Derived.Test.YtnigadeohmlpiaaGreatDoorC42
import Derived.Test.YtnigadeohmlpiaaGreatDoorC51
import Derived.OpenShut
import Derived.SizedLaws
set_option maxHeartbeats 32000000
set_option maxRecDepth 100000
namespace Go.Proofs.YtnigadeohmlpiaaGreatDoor
open Go.RowKit
attribute [local go_sem] Oper.semAt_some
theorem rr_pair{w:World}{A B:Option Addr}{c d j k:Nat}{xs ys:List Int}(hj:j=xs.length)(hk:k=ys.length)(hA:Row w 3 1 A xs.length (ints xs))(hB:Row w 3 1 B ys.length (ints ys))(hc:xs.length<=c)(hd:ys.length<=d)(hx:xs.length<=1000000)(hy:ys.length<=1000000):
  RR ((w.alloc (.cells #[.slice A j c] 32)).alloc (.cells #[.slice B k d] 32)) (some ⟨w.heap.size,0,none⟩) 1 [xs]/\RR ((w.alloc (.cells #[.slice A j c] 32)).alloc (.cells #[.slice B k d] 32)) (some ⟨w.heap.size+1,0,none⟩) 1 [ys]:=by
 subst hj hk;have k1:Below (w.alloc (.cells #[.slice A xs.length c] 32)).heap.size (w.alloc (.cells #[.slice A xs.length c] 32)) ((w.alloc (.cells #[.slice A xs.length c] 32)).alloc (.cells #[.slice B ys.length d] 32)):=bA (bR _);have k2:Below w.heap.size w ((w.alloc (.cells #[.slice A xs.length c] 32)).alloc (.cells #[.slice B ys.length d] 32)):=bA (bA (bR w))
 have h2:=heap_alloc_new (w.alloc (.cells #[.slice A xs.length c] 32)) (.cells #[.slice B ys.length d] 32);rw[World.size_alloc] at h2;exact⟨rr_one (blk_below k1 (heap_alloc_new w _)) hc (hA.below k2) hx,rr_one h2 hd (hB.below k2) hy⟩
theorem OutIs.form'{base:Nat}{o:Option (List Int)}{e:Ending}{w:World}(h:OutIs base o e w):∃A k c,e=.returned (.tuple #[.slice A k c,.bool o.isSome])/\k=(o.getD []).length/\Row w 3 1 A (o.getD []).length (ints (o.getD []))/\(o.getD []).length<=c:=by
 cases o with
 |none=>obtain rfl:=h;exact⟨none,0,0,rfl,rfl,Row.nil_ _ _ _ _,Nat.le_refl _⟩
 |some z=>obtain⟨A,c,rfl,ho,hc⟩:=h;exact⟨A,z.length,c,rfl,rfl,Row.of_own ho,hc⟩
theorem playQ_len(l:List Ev)(xs:List Pk):((playQ l xs).getD []).length<=l.length:=by
 unfold playQ;split
 ·cases h:playP l xs with
  |none=>exact Nat.zero_le _
  |some z=>exact playP_len h
 exact Nat.zero_le _
theorem played_len{l:List Ev}(hl:Prog l){R:List (List Int)}(hr:Rising R)(hm:∀z,z∈R↔∃xs,playP l xs=some z):R.length<=1000000/\∀z∈R,z.length<=1000000:=by
 have h1:R=axR l.length l 0 []:=rising_ext hr (axR_rising _ _ _ _ List.Pairwise.nil) fun z=>(hm z).trans (axR_plays hl z).symm;have h2:=axR_len hl.few l.length l 0 [] rfl;have h3:7^l.length<=7^6:=Nat.pow_le_pow_right (by omega) hl.few;have h4:(7:Nat)^6=117649:=by decide
 refine⟨?_,fun z hz=>?_⟩
 ·rw[h1];simp only[List.length_nil] at h2;omega
 obtain⟨xs,hp⟩:=(hm z).1 hz;have h5:=playP_len hp;have:=hl.few;omega
theorem IsEvs.take{w:World}{A:Option Addr}{n c k:Nat}{l:List Ev}(h:IsEvs w A n c l)(hk:k<=n):IsEvs w A k c (l.take k):=by
 have hl:=h.len;have hc:=h.cap;refine⟨by rw[List.length_take];omega,by omega,h.row.elim fun e r=>⟨e,r.1,by rw[evCells_len,List.length_take];congr 1;omega,fun hn=>?_⟩⟩;obtain⟨b,off,cur,fz,hA,hb,hcl⟩:=r.2.2 (by omega);refine⟨b,off,cur,fz,hA,hb,fun j u hu=>hcl j u ?_⟩;have h1:evCells l=evCells (l.take k)++evCells (l.drop k):=by unfold evCells;rw[<-List.flatMap_append,List.take_append_drop]
 rw[h1,List.getElem?_append_left (List.getElem?_eq_some_iff.1 hu).1];exact hu
def Prs(w:World)(g:Nat):Prop:=∀j,j<2->∃B m d l,w.cell? ⟨g,j,none⟩=some (.slice B m d)/\IsEvs w B m d l/\m<=7
theorem Prs.below{w w':World}{g:Nat}(h:Prs w g)(hb:Below w.heap.size w w'):Prs w' g:=fun j hj=>by obtain⟨B,m,d,l,h1,h2,h3⟩:=h j hj;exact⟨B,m,d,l,(hb.cell (cell_lt h1)).trans h1,h2.sees (Below.sees hb),h3⟩
theorem two_at{w:World}{g j:Nat}{x y u:Value}{t:TypeId}(h:w.heap[g]?=some (.cells #[x,y] t))(hu:[x,y][j]?=some u):w.cell? ⟨g,j,none⟩=some u:=by rw[cell_of_row w g _ _ _ _ h];simpa using hu
theorem pk_one(xs:List Pk):∀u∈pkCells xs,u.oneCell'=true:=fun u hu=>by unfold pkCells at hu;obtain⟨x,_,hx⟩:=List.mem_flatMap.1 hu;simp only[List.mem_cons,List.not_mem_nil,or_false] at hx;rcases hx with rfl|rfl|rfl<;>rfl
theorem IsPks.take{w:World}{A:Option Addr}{m d k:Nat}{xs:List Pk}(h:IsPks w A m d xs)(hk:k<=m):IsPks w A k d (xs.take k):=by
 have hl:=h.len;have hpl:∀ys:List Pk,(pkCells ys).length=ys.length*3:=fun ys=>by
  induction ys with
  |nil=>rfl
  |cons y ys ih=>have e:pkCells (y::ys)=[.int .i64 y.h,.bool y.d,.int .i64 y.w]++pkCells ys:=rfl;rw[e,List.length_append,ih,List.length_cons];simp;omega
 refine⟨by rw[List.length_take];omega,⟨by rw[hpl,List.length_take];congr 1;omega,fun hn=>?_⟩,fun x hx=>h.rng x (List.mem_of_mem_take hx)⟩;obtain⟨b,off,cur,fz,hA,hb,hcl⟩:=h.row.2 (by omega);refine⟨b,off,cur,fz,hA,hb,fun j u hu=>hcl j u ?_⟩;have h1:pkCells xs=pkCells (xs.take k)++pkCells (xs.drop k):=by rw[<-pkCells_append,List.take_append_drop]
 rw[h1,List.getElem?_append_left (List.getElem?_eq_some_iff.1 hu).1];exact hu
theorem four_at{w:World}{g j:Nat}{x y z v u:Value}{t:TypeId}(h:w.heap[g]?=some (.cells #[x,y,z,v] t))(hu:[x,y,z,v][j]?=some u):w.cell? ⟨g,j,none⟩=some u:=by rw[cell_of_row w g _ _ _ _ h];simpa using hu
def Scr(w:World)(g:Nat):Prop:=∀j,j<4->∃B m d xs,w.cell? ⟨g,j,none⟩=some (.slice B m d)/\IsPks w B m d xs/\m<=1000000
theorem Scr.below{w w':World}{g:Nat}(h:Scr w g)(hb:Below w.heap.size w w'):Scr w' g:=fun j hj=>by obtain⟨B,m,d,xs,h1,h2,h3⟩:=h j hj;exact⟨B,m,d,xs,(hb.cell (cell_lt h1)).trans h1,h2.below hb,h3⟩
theorem tells3_any(A:Option Addr)(n c:Nat)(l:List Ev)(B:Option Addr)(m d:Nat)(L:List R4)(C:Option Addr)(k e:Nat)(zs:List Int)(w:World)(he:IsEvs w A n c l)(hn:n<=9223372036854775807)(hr:IsRaw w B m L)(hm:m<=9223372036854775807)(hz:IsTri w C k zs)(hG:Glob w):
  Calls Tryz.prog 3 #[.slice A n c,.slice B m d,.slice C k e] w fun o w'=>o=.returned (.bool true)/\Below w.heap.size w w':=by
 obtain⟨i0,hi0,hz0,hz1,hz2⟩:=info_parts pick_info;have HE:=Jh he;have HR:=Jh hr;have HZ:=Jh hz;have HG:=Jh hG;have HM:=Jh hm;have HAw:=Jh (awake_any w hG);obtain⟨n7,l7,hn7,hE7,hcs⟩:∃n7 l7,n7<=7/\IsEvs w A n7 c l7/\(7<n/\n7=7\/n<=7/\n7=n):=by
  by_cases h:7<n
  ·exact⟨7,l.take 7,Nat.le_refl _,he.take (by omega),.inl ⟨h,rfl⟩⟩
  exact⟨n,l,by omega,he,.inr ⟨by omega,rfl⟩⟩
 have HE7:=Jh hE7;have hcap:=he.cap;clear he hr hm hG hE7 hz;go_enter Tryz.func3,Tryz.ntmps3;go_wp2_with fail;refine HAw.o.mono ?_;rintro o w1 ⟨rfl,hb1⟩;have HB1:=Jh hb1;clear hb1;rcases hcs with⟨h7,h7e⟩|⟨h7,h7e⟩
 case' inl=>
  have h7b:decide ((n:Int)>7)=true:=by simp;omega
  have h7c:decide (7<(n:Int))=true:=by simp;omega
  go_upto_region 4 with fail
  rw[show(Value.slice A 7 c)=.slice A n7 c from by rw[h7e]];clear h7 h7e h7b h7c
 case' inr=>
  subst h7e;have h7b:decide ((n7:Int)>7)=false:=by simp;omega
  have h7c:decide (7<(n7:Int))=false:=by simp;omega
  go_upto_region 4 with fail
  clear h7 h7b h7c
 all_goals (
  have HFt:=Jh (fit11_any B m d L w1 (HR.o.below HB1.o) HM.o);go_wp2_with fail;refine HFt.o.mono ?_;rintro o w2 ⟨⟨A2,c2,rfl,hown2,hc2⟩,hb2⟩;obtain⟨q,hq⟩:=exE ((fitL L).length);have hq5:q<=5:=hq▸fitL_len L;obtain⟨pl,hl⟩:=exE (fitL L);have HP:=Jh (show Prog pl from hl▸fitL_prog L);have HQ:=Jh (show pl.length=q from by rw[hl,hq]);rw[<-hq,<-hl] at hown2;rw[<-hq] at hc2⊢
  have HE2:=Jh (show IsEvs w2 A2 q c2 pl from⟨HQ.o,hc2,44,by decide,Row.of_own hown2⟩);have HB2:=Jh (bT HB1.o hb2);have HSp:=Jh (script12_any C k e zs w2 (HZ.o.below HB2.o));clear hq hl hown2 hb2;go_wp2_with fail;refine HSp.o.mono ?_;rintro o w3 ⟨⟨A3,k3,c3,xs3,rfl,hown3,hx3,hk3,hc3,hr3⟩,hb3⟩;have HP3:=Jh (show IsPks w3 A3 k3 c3 xs3 from⟨hx3,Row.of_own hown3,hr3⟩);have HB3:=Jh (bT HB2.o hb3)
  have HE3:=Jh (HE2.o.sees (Below.sees hb3));have HPl:=Jh (play13_any A2 q c2 pl C k e zs w3 HP.o HE3.o (HZ.o.below HB3.o));clear hown3 hx3 hr3 hb3;go_wp2_with fail;refine HPl.o.mono ?_;rintro o w4 ⟨⟨A4,k4,c4,xs4,z4,rfl,hpk,hk4,hc4,_⟩,hb4⟩;have HP4:=Jh hpk;have HB4:=Jh (bT HB3.o hb4);have HE4:=Jh (HE3.o.sees (Below.sees hb4));have HP34:=Jh (HP3.o.below hb4)
  obtain⟨W5,hW5⟩:=exE (w4.alloc (.cells #[.slice A n7 c,.slice A2 q c2] 22));obtain⟨b5,hb5⟩:=exE (w4.heap.size);have k5:Below w4.heap.size w4 W5:=hW5▸bA (bR w4);have HB5:=Jh (bT HB4.o k5);have HE5:=Jh (HE4.o.sees (Below.sees k5));have HP35:=Jh (HP34.o.below k5);have HP45:=Jh (HP4.o.below k5);have HRs:=Jh (show Prs W5 b5 from fun j hj=>by
   have h:=heap_alloc_new w4 (.cells #[.slice A n7 c,.slice A2 q c2] 22);rw[<-hW5,<-hb5] at h;have hE:=HE7.o.sees (Below.sees HB5.o)
   match j,hj with
   |0,_=>exact⟨A,n7,c,l7,two_at h rfl,hE,hn7⟩
   |1,_=>exact⟨A2,q,c2,pl,two_at h rfl,HE5.o,by omega⟩)
  clear hpk hb4 k5;go_upto_region 8 with fail
  rw[<-hW5,<-hb5];clear hW5 hb5;go_loopw [36] (fun v36 wr=>∃i:Nat,i<=2/\v36=.int .i64 i/\Below W5.heap.size W5 wr) (fun v36 _=>2-(intOf v36).toNat);case atStart=>exact⟨0,by omega,rfl,bR W5⟩
  case round=>
   obtain⟨i,hi,rfl,hbw⟩:=hrel;obtain⟨wo,rfl⟩:=exE wr;have HBW:=Jh hbw;clear hbw;by_cases hlt:i<2
   ·have hlb:decide ((i:Int)<2)=true:=by simp;omega
    have hI0:decide ((i:Int)<0)=false:=by simp
    have hiI:(i:Int)<2:=by omega
    obtain⟨Ay,ny,cy,ly,hcy,hey,hny⟩:=HRs.o.below HBW.o i hlt;have HEy:=Jh hey;have HSc:=Jh (And.intro (HP35.o.below HBW.o) (HP45.o.below HBW.o));clear hey;obtain⟨mi,hmi⟩:=exE (min 1 (k4:Int));obtain⟨kc,hkc⟩:=exE (k4-min 1 k4);have HMi:=Jh (show min 1 (k4:Int)=mi from hmi.symm);have HKc:=Jh (show(k4:Int)-mi=(kc:Int) from by rw[hmi,hkc];omega);have hkk:kc<=k4:=by omega
    clear hmi hkc;go_upto_region 10 with fail
    have rr:∀{T:List TypeId} (wx:World),Tk T wx wx:=fun wx=>Tk.refl _ wx;have nt:∀(i e:Nat),e≠56->e∉(if i=13 then[56] else[]:List TypeId):=fun i e h=>by
     split
     ·simpa using h
     simp
    first
    |refine wp_region_det (by kernel_rfl) (fun f=>(⟨#[Value.slice A n7 c,Value.slice B m d,Value.slice C k e,undef,undef,undef,u6,Value.bool true,Value.slice A2 q c2,Value.slice A3 k3 c3,Value.slice A4 k4 c4,undef,Value.slice Ay ny cy,undef,u14,u15,u16,u17,u18,Value.bool true,Value.slice A n7 c,.int .i64 (n7:Int),Value.bool false,undef,undef,Value.slice B m d,Value.slice A2 q c2,Value.slice C k e,Value.slice A3 k3 c3,Value.slice A2 q c2,Value.slice C k e,Value.slice A4 k4 c4,Value.slice A n7 c,Value.slice A2 q c2,Value.slice (some ⟨b5,0,none⟩) 2 2,.int .i64 2,.int .i64 (i:Int),Value.bool true,Value.pointer (some ⟨b5,i,none⟩),Value.slice Ay ny cy,f 0,f 1,f 2,f 3,f 4,f 5,f 6,f 7,f 8,f 9,f 10,f 11,f 12,f 13,f 14,f 15,f 16,u57,u58,u59,u60,u61,u62,u63,u64,u65,u66,u67,u68,u69,u70,u71,u72,u73,u74,u75,u76,u77,u78,u79,u80,u81,u82,u83,u84,u85,u86,u87,u88,u89,undef,undef,undef,undef,undef,undef,undef,undef,undef,undef,undef,undef,undef,undef,undef],[]⟩:Act)) (fun(iv:Nat) (lv:Nat->Bool) (fv:Nat->Value) (wx:World)=>match iv with|0=>fv 0=.slice A3 k3 c3|1=>fv 1=.slice A4 k4 c4|2=>fv 2=.slice A4 k4 c4|3=>fv 3=.slice A4 k4 c4|4=>fv 4=.int .i64 (k4:Int)|5=>fv 5=.slice A4 k4 c4|6=>fv 6=.int .i64 (k4:Int)|7=>fv 7=.int .i64 mi|8=>fv 8=.int .i64 (kc:Int)|9=>fv 9=.slice A4 kc c4|10=>fv 10=.slice A4 k4 c4|11=>∃A c,(fv 11)=.slice A k4 c/\((lv 13)=false->wx.ownsRow wo.heap.size 56 3 (.slice A k4 c) k4 (pkCells xs4))|12=>fv 12=.slice A3 k3 c3|13=>∃A c,(fv 13)=.slice A (k4+k3) c/\wx.ownsRow wo.heap.size 56 3 (.slice A (k4+k3) c) (k4+k3) (pkCells xs4++pkCells xs3)|14=>∃g A c,(fv 14)=.slice (some ⟨g,0,none⟩) 4 4/\(fv 13)=.slice A (k4+k3) c/\wx.heap[g]?=some (.cells #[.slice A3 k3 c3,.slice A4 k4 c4,.slice A4 kc c4,.slice A (k4+k3) c] 27)|15=>fv 15=.int .i64 4|16=>fv 16=.int .i64 0|_=>True) (fun _ wx=>Below wo.heap.size wo wx) (fun i w1 w2=>Tk (if i=13 then[56] else[]) w1 w2) (by kernel_rfl) (fun kv=>match kv with|0=>u40|1=>u41|2=>u42|3=>u43|4=>u44|5=>u45|6=>u46|7=>u47|8=>u48|9=>u49|10=>u50|11=>u51|12=>u52|13=>u53|14=>u54|15=>u55|16=>u56|_=>undef) rfl ?keep (bD (bR wo)) ?steps ?fin
    |refine wp_region_det (by kernel_rfl) (fun f=>(⟨#[Value.slice A n7 c,Value.slice B m d,Value.slice C k e,undef,undef,undef,u6,Value.bool true,Value.slice A2 q c2,Value.slice A3 k3 c3,Value.slice A4 k4 c4,undef,Value.slice Ay ny cy,undef,u14,u15,u16,u17,u18,Value.bool true,Value.slice A n c,.int .i64 (n:Int),Value.bool true,Value.slice A n c,Value.slice A n7 c,Value.slice B m d,Value.slice A2 q c2,Value.slice C k e,Value.slice A3 k3 c3,Value.slice A2 q c2,Value.slice C k e,Value.slice A4 k4 c4,Value.slice A n7 c,Value.slice A2 q c2,Value.slice (some ⟨b5,0,none⟩) 2 2,.int .i64 2,.int .i64 (i:Int),Value.bool true,Value.pointer (some ⟨b5,i,none⟩),Value.slice Ay ny cy,f 0,f 1,f 2,f 3,f 4,f 5,f 6,f 7,f 8,f 9,f 10,f 11,f 12,f 13,f 14,f 15,f 16,u57,u58,u59,u60,u61,u62,u63,u64,u65,u66,u67,u68,u69,u70,u71,u72,u73,u74,u75,u76,u77,u78,u79,u80,u81,u82,u83,u84,u85,u86,u87,u88,u89,undef,undef,undef,undef,undef,undef,undef,undef,undef,undef,undef,undef,undef,undef,undef],[]⟩:Act)) (fun(iv:Nat) (lv:Nat->Bool) (fv:Nat->Value) (wx:World)=>match iv with|0=>fv 0=.slice A3 k3 c3|1=>fv 1=.slice A4 k4 c4|2=>fv 2=.slice A4 k4 c4|3=>fv 3=.slice A4 k4 c4|4=>fv 4=.int .i64 (k4:Int)|5=>fv 5=.slice A4 k4 c4|6=>fv 6=.int .i64 (k4:Int)|7=>fv 7=.int .i64 mi|8=>fv 8=.int .i64 (kc:Int)|9=>fv 9=.slice A4 kc c4|10=>fv 10=.slice A4 k4 c4|11=>∃A c,(fv 11)=.slice A k4 c/\((lv 13)=false->wx.ownsRow wo.heap.size 56 3 (.slice A k4 c) k4 (pkCells xs4))|12=>fv 12=.slice A3 k3 c3|13=>∃A c,(fv 13)=.slice A (k4+k3) c/\wx.ownsRow wo.heap.size 56 3 (.slice A (k4+k3) c) (k4+k3) (pkCells xs4++pkCells xs3)|14=>∃g A c,(fv 14)=.slice (some ⟨g,0,none⟩) 4 4/\(fv 13)=.slice A (k4+k3) c/\wx.heap[g]?=some (.cells #[.slice A3 k3 c3,.slice A4 k4 c4,.slice A4 kc c4,.slice A (k4+k3) c] 27)|15=>fv 15=.int .i64 4|16=>fv 16=.int .i64 0|_=>True) (fun _ wx=>Below wo.heap.size wo wx) (fun i w1 w2=>Tk (if i=13 then[56] else[]) w1 w2) (by kernel_rfl) (fun kv=>match kv with|0=>u40|1=>u41|2=>u42|3=>u43|4=>u44|5=>u45|6=>u46|7=>u47|8=>u48|9=>u49|10=>u50|11=>u51|12=>u52|13=>u53|14=>u54|15=>u55|16=>u56|_=>undef) rfl ?keep (bD (bR wo)) ?steps ?fin
    case keep=>
     intro iv j hij hd l f f' w1 w2 hf hR
     match j with
     |0|1|2|3|4|5|6|7|8|9|10|12|15|16=>exact fun h=>(hf _ (Ne.symm hij)).trans h
     |11=>
      intro h;have h:∃A c,(f 11)=.slice A k4 c/\((l 13)=false->w1.ownsRow wo.heap.size 56 3 (.slice A k4 c) k4 (pkCells xs4)):=h;show∃A c,(f' 11)=.slice A k4 c/\((decide (13=iv)||l 13)=false->w2.ownsRow wo.heap.size 56 3 (.slice A k4 c) k4 (pkCells xs4));rw[hf 11 (Ne.symm hij)]
      exact h.elim fun A h=>h.elim fun c h=>⟨A,c,h.1,fun hl=>own_tk (h.2 (Bool.or_eq_false_iff.1 hl).2) hR (by rw[if_neg (fun e=>absurd e.symm (of_decide_eq_false (Bool.or_eq_false_iff.1 hl).1))];exact List.not_mem_nil)⟩
     |13=>
      intro h;have h:∃A c,(f 13)=.slice A (k4+k3) c/\w1.ownsRow wo.heap.size 56 3 (.slice A (k4+k3) c) (k4+k3) (pkCells xs4++pkCells xs3):=h;show∃A c,(f' 13)=.slice A (k4+k3) c/\w2.ownsRow wo.heap.size 56 3 (.slice A (k4+k3) c) (k4+k3) (pkCells xs4++pkCells xs3);rw[hf 13 (Ne.symm hij)];exact h.elim fun A h=>h.elim fun c h=>⟨A,c,h.1,own_tk h.2 hR (by rw[if_neg (fun e=>hij e)];exact List.not_mem_nil)⟩
     |14=>
      intro h;have h:∃g A c,(f 14)=.slice (some ⟨g,0,none⟩) 4 4/\(f 13)=.slice A (k4+k3) c/\w1.heap[g]?=some (.cells #[.slice A3 k3 c3,.slice A4 k4 c4,.slice A4 kc c4,.slice A (k4+k3) c] 27):=h;show∃g A c,(f' 14)=.slice (some ⟨g,0,none⟩) 4 4/\(f' 13)=.slice A (k4+k3) c/\w2.heap[g]?=some (.cells #[.slice A3 k3 c3,.slice A4 k4 c4,.slice A4 kc c4,.slice A (k4+k3) c] 27)
      rw[hf 14 (Ne.symm hij),hf 13 (fun e=>hd (e▸of_decide_eq_true (by kernel_rfl)))];exact h.elim fun g h=>h.elim fun A h=>h.elim fun c h=>⟨g,A,c,h.1,h.2.1,Tk.at_ hR (nt _ 27 (by decide)) h.2.2⟩
     |_+17=>exact id
    case steps=>
     refine fun iv hiv=>stepsOf_at (k:=0) (n:=17) ?_ iv (Nat.zero_le _) (by rw[Nat.zero_add];exact hiv);refine sD 0 16 aT0 [] (fun f wq l hl hun hdn hS hd K' HK=>?_) ?_
     ·clear hd;have HSS:=Jh hS;clear hS;go_simp;exact HK.o _ _ _ rfl rfl HSS.o (rr _)
     refine sD 1 15 aT1 [] (fun f wq l hl hun hdn hS hd K' HK=>?_) ?_
     ·clear hd;have HSS:=Jh hS;clear hS;go_simp;exact HK.o _ _ _ rfl rfl HSS.o (rr _)
     refine sD 2 14 aT2 [] (fun f wq l hl hun hdn hS hd K' HK=>?_) ?_
     ·clear hd;have HSS:=Jh hS;clear hS;go_simp;exact HK.o _ _ _ rfl rfl HSS.o (rr _)
     refine sD 3 13 aT3 [] (fun f wq l hl hun hdn hS hd K' HK=>?_) ?_
     ·clear hd;have HSS:=Jh hS;clear hS;go_simp;exact HK.o _ _ _ rfl rfl HSS.o (rr _)
     refine sD 4 12 aT4 [3] (fun f wq l hl hun hdn hS hd K' HK=>?_) ?_
     ·obtain⟨e3,-⟩:=hd;have e3:f 3=_:=e3;have HSS:=Jh hS;clear hS;simp only[e3];go_simp;exact HK.o _ _ _ (by simp only[e3];rfl) rfl HSS.o (rr _)
     refine sD 5 11 aT5 [] (fun f wq l hl hun hdn hS hd K' HK=>?_) ?_
     ·clear hd;have HSS:=Jh hS;clear hS;go_simp;exact HK.o _ _ _ rfl rfl HSS.o (rr _)
     refine sD 6 10 aT6 [5] (fun f wq l hl hun hdn hS hd K' HK=>?_) ?_
     ·obtain⟨e5,-⟩:=hd;have e5:f 5=_:=e5;have HSS:=Jh hS;clear hS;simp only[e5];go_simp;exact HK.o _ _ _ (by simp only[e5];rfl) rfl HSS.o (rr _)
     refine sD 7 9 aT7 [6] (fun f wq l hl hun hdn hS hd K' HK=>?_) ?_
     ·obtain⟨e6,-⟩:=hd;have e6:f 6=_:=e6;have hw9:=HMi.o;have HSS:=Jh hS;clear hS;simp only[e6];go_simp;exact HK.o _ _ _ (by simp only[e6];rfl) rfl HSS.o (rr _)
     refine sD 8 8 aT8 [4,7] (fun f wq l hl hun hdn hS hd K' HK=>?_) ?_
     ·obtain⟨e4,e7,-⟩:=hd;have e4:f 4=_:=e4;have e7:f 7=_:=e7;have hw9:=HKc.o;have hw8:IntKind.i64.wrap (kc:Int)=(kc:Int):=IntWalk.i64_in _ (by omega);have HSS:=Jh hS;clear hS;simp only[e4,e7];go_simp;exact HK.o _ _ _ (by simp only[e4,e7];rfl) rfl HSS.o (rr _)
     refine sD 9 7 aT9 [2,8] (fun f wq l hl hun hdn hS hd K' HK=>?_) ?_
     ·obtain⟨e2,e8,-⟩:=hd;have e2:f 2=_:=e2;have e8:f 8=_:=e8;have hw1:(kc:Int)<=(c4:Int):=by omega
      have hw2:kc<=c4:=by omega
      have hw3:¬((c4:Int)<(kc:Int)):=by omega
      have HSS:=Jh hS;clear hS;simp only[e2,e8];go_simp;exact HK.o _ _ _ (by simp only[e2,e8];rfl) rfl HSS.o (rr _)
     refine sD 10 6 aT10 [] (fun f wq l hl hun hdn hS hd K' HK=>?_) ?_
     ·clear hd;have HSS:=Jh hS;clear hS;go_simp;exact HK.o _ _ _ rfl rfl HSS.o (rr _)
     refine sD 11 5 aT11 [10] (fun f wq l hl hun hdn hS hd K' HK=>?_) ?_
     ·obtain⟨e10,-⟩:=hd;have e10:f 10=_:=e10;rw[if_pos (by rfl)];refine wp_append_rd _ _ _ 27 rfl wo.heap.size 56 i0 _ 3 24 Tryz.underlying27 hi0 hz0 hz1 hz2 rfl (by decide) (.slice none 0 0) 0 [] rfl (World.ownsRow_nil _ _ _ _) A4 k4 c4 (pkCells xs4) (by simp only[e10];rfl) (HSc.o.2.below hS).row.rd (pk_one xs4) (by unfold maxLen;omega) (by omega) hS.size ?_;intro v9 w9 hown9 hg9
      rw[Nat.zero_add,List.nil_append] at hown9;obtain⟨A9,c9,rfl,_,_⟩:=own_slice hown9;have hb9:Below wq.heap.size wq w9:=(bR wq).grown hg9 (Nat.le_refl _) (fun r e=>by cases e);exact HK.o _ _ _ (by first|rfl|(simp only[e10];rfl)) ⟨_,_,rfl,fun _=>hown9⟩ (bT hS hb9) (Tk.below hb9)
     refine sD 12 4 aT12 [] (fun f wq l hl hun hdn hS hd K' HK=>?_) ?_
     ·clear hd;have HSS:=Jh hS;clear hS;go_simp;exact HK.o _ _ _ rfl rfl HSS.o (rr _)
     refine sD 13 3 aT13 [11,12] (fun f wq l hl hun hdn hS hd K' HK=>?_) ?_
     ·obtain⟨e11,e12,-⟩:=hd;have e11:∃A c,(f 11)=.slice A k4 c/\((l 13)=false->wq.ownsRow wo.heap.size 56 3 (.slice A k4 c) k4 (pkCells xs4)):=e11;have e12:f 12=_:=e12;obtain⟨A9,c9,h11,ho11⟩:=e11;have ho:=ho11 hl;rw[if_pos (by rfl)]
      refine wp_append_rd _ _ _ 27 rfl wo.heap.size 56 i0 _ 3 24 Tryz.underlying27 hi0 hz0 hz1 hz2 rfl (by decide) (.slice A9 k4 c9) k4 (pkCells xs4) (by simp only[h11];rfl) ho A3 k3 c3 (pkCells xs3) (by simp only[e12];rfl) (HSc.o.1.below hS).row.rd (pk_one xs3) (by unfold maxLen;omega) (by omega) hS.size ?_;intro v9 w9 hown9 hg9;obtain⟨A8,c8,rfl,_,_⟩:=own_slice hown9;have htk:=tk_grown ho hg9
      exact HK.o _ _ _ (by first|rfl|(simp only[h11,e12];rfl)) ⟨_,_,rfl,hown9⟩ (hS.grown hg9 hS.size (fun r e=>(ho.lt r e).1)) htk
     refine sD 14 2 aT14 [0,1,9,13] (fun f wq l hl hun hdn hS hd K' HK=>?_) ?_
     ·obtain⟨e0,e1,e9,e13,-⟩:=hd;have e0:f 0=_:=e0;have e1:f 1=_:=e1;have e9:f 9=_:=e9;have e13:∃A c,(f 13)=.slice A (k4+k3) c/\wq.ownsRow wo.heap.size 56 3 (.slice A (k4+k3) c) (k4+k3) (pkCells xs4++pkCells xs3):=e13;obtain⟨A9,c9,h13,hz9⟩:=e13;clear hz9;have HSS:=Jh hS;clear hS;simp only[h13,e0,e1,e9];go_simp
      exact HK.o _ _ _ (by simp only[h13,e0,e1,e9];rfl) ⟨_,_,_,rfl,h13,heap_alloc_new wq _⟩ (bA HSS.o) (Tk.below (bA (bR wq)))
     refine sD 15 1 aT15 [14] (fun f wq l hl hun hdn hS hd K' HK=>?_) ?_
     ·obtain⟨e14,-⟩:=hd;have e14:∃g A c,(f 14)=.slice (some ⟨g,0,none⟩) 4 4/\(f 13)=.slice A (k4+k3) c/\wq.heap[g]?=some (.cells #[.slice A3 k3 c3,.slice A4 k4 c4,.slice A4 kc c4,.slice A (k4+k3) c] 27):=e14;obtain⟨g9,A9,c9,h14,hz9⟩:=e14;clear hz9;have HSS:=Jh hS;clear hS;simp only[h14];go_simp;exact HK.o _ _ _ (by simp only[h14];rfl) rfl HSS.o (rr _)
     refine sD 16 0 aT16 [] (fun f wq l hl hun hdn hS hd K' HK=>?_) ?_
     ·clear hd;have HSS:=Jh hS;clear hS;go_simp;exact HK.o _ _ _ rfl rfl HSS.o (rr _)
     exact trivial
    case fin=>
     intro fo wz lo hl hall hS;have a11:∃A c,(fo 11)=.slice A k4 c/\((lo 13)=false->wz.ownsRow wo.heap.size 56 3 (.slice A k4 c) k4 (pkCells xs4)):=hall 11 (by decide);have a13:∃A c,(fo 13)=.slice A (k4+k3) c/\wz.ownsRow wo.heap.size 56 3 (.slice A (k4+k3) c) (k4+k3) (pkCells xs4++pkCells xs3):=hall 13 (by decide)
     have a14:∃g A c,(fo 14)=.slice (some ⟨g,0,none⟩) 4 4/\(fo 13)=.slice A (k4+k3) c/\wz.heap[g]?=some (.cells #[.slice A3 k3 c3,.slice A4 k4 c4,.slice A4 kc c4,.slice A (k4+k3) c] 27):=hall 14 (by decide);have a15:fo 15=_:=hall 15 (by decide);have a16:fo 16=_:=hall 16 (by decide);clear hall;obtain⟨A9,c9,h13,ho9⟩:=a13;obtain⟨g9,Az,cz,h14,hz13,hblk⟩:=a14;obtain⟨Ax,cx,h11,hz11⟩:=a11;rw[h13] at hz13
     injection hz13 with hq1 _ hq3
     subst hq1 hq3;clear hz11;simp only[h11,h13,h14,a15,a16];have HBz:=Jh hS;have HScr:=Jh (show Scr wz g9 from fun j hj=>by
      have hp3:=HSc.o.1.below hS;have hp4:=HSc.o.2.below hS
      match j,hj with
      |0,_=>exact⟨_,_,_,xs3,four_at hblk rfl,hp3,by omega⟩
      |1,_=>exact⟨_,_,_,xs4,four_at hblk rfl,hp4,by omega⟩
      |2,_=>exact⟨_,_,_,xs4.take kc,four_at hblk rfl,hp4.take hkk,by omega⟩
      |3,_=>exact⟨_,_,_,xs4++xs3,four_at hblk rfl,⟨by rw[List.length_append,hp3.len,hp4.len],by rw[pkCells_append];exact Row.of_own ho9,fun x hx=>(List.mem_append.1 hx).elim (hp4.rng x) (hp3.rng x)⟩,by omega⟩)
     clear h11 h13 h14 a15 a16 ho9 hblk hS hl rr nt;obtain⟨WE,rfl⟩:=exE wz;have HEE:=Jh (HEy.o.sees (Below.sees HBz.o));go_upto_region 11 with fail
     go_loopw [56] (fun v56 wr=>∃j:Nat,j<=4/\v56=.int .i64 j/\Below WE.heap.size WE wr) (fun v56 _=>4-(intOf v56).toNat);case atStart=>exact⟨0,by omega,rfl,bR WE⟩
     case round=>
      obtain⟨j,hj,rfl,hbi⟩:=hrel;obtain⟨wi,rfl⟩:=exE wr;have HBI:=Jh hbi;have HEi:=Jh (HEE.o.sees (Below.sees hbi));clear hbi;by_cases hlj:j<4
      ·have hjb:decide ((j:Int)<4)=true:=by simp;omega
       have hj0:decide ((j:Int)<0)=false:=by simp
       have hjI:(j:Int)<4:=by omega
       obtain⟨Bs,ms,ds,xs,hcs,hps,hms⟩:=HScr.o.below HBI.o j hlj;have HPs:=Jh hps;have H14:=Jh (play14_all Ay ny cy ly Bs ms ds xs wi HEi.o hps hms (by omega));have HLz:=Jh (playQ_len ly xs);obtain⟨zo,hzo⟩:=exE ((playQ ly xs).getD []);obtain⟨ob,hob⟩:=exE ((playQ ly xs).isSome);have HZo:=Jh hzo;have HOb:=Jh hob;rw[<-hzo] at HLz;have hzl:zo.length<=7:=by have:=HLz.o;have:=HEi.o.len;omega
       clear hps hzo hob;go_wp2_with fail;refine H14.o.mono ?_;rintro o w6 ⟨ho,hb6⟩;obtain⟨Aa,ka,ca,rfl,hka,hra,hca⟩:=OutIs.form' ho;rw[<-HOb.o];rw[<-HZo.o] at hka hra hca;have HA:=Jh (And.intro hka (And.intro hra hca));have HB6:=Jh (bT HBI.o hb6);have HB6':=Jh hb6;have H15:=Jh (play15_any Ay ny cy ly Bs ms ds xs w6 (HEi.o.sees (Below.sees hb6)) (HPs.o.below hb6) hms (by omega))
       clear ho hka hra hca hb6 hcs;go_wp2_with fail;refine H15.o.mono ?_;rintro o w7 ⟨ho,hb7⟩;obtain⟨Ab,kb,cb,rfl,hkb,hrb,hcb⟩:=OutIs.form' ho;rw[<-HOb.o];rw[<-HZo.o] at hkb hrb hcb;have HB7:=Jh (bT HB6.o hb7);have HRR:=Jh (rr_pair (c:=ca) (d:=cb) HA.o.1 hkb (HA.o.2.1.below hb7) hrb HA.o.2.2 hcb (by omega) (by omega))
       have HSm:=Jh (same16_yes (some ⟨w7.heap.size,0,none⟩) (some ⟨w7.heap.size+1,0,none⟩) 1 1 1 1 [zo] _ HRR.o.1 HRR.o.2 (by omega));have HB8:=Jh (show Below w7.heap.size w7 ((w7.alloc (.cells #[.slice Aa ka ca] 32)).alloc (.cells #[.slice Ab kb cb] 32)) from bA (bA (bR w7)));clear ho hkb hrb hcb hb7;go_wp2_with fail;refine HSm.o.mono ?_;rintro o w9 ⟨rfl,hb9⟩;have HB9:=Jh (bT HB7.o (bT HB8.o hb9))
       clear hb9;go_wp2_with fail;go_roundw;case rel=>exact⟨j+1,by omega,by go_num,HB9.o⟩
       case measure=>simp[intOf];omega
      have hjb:decide ((j:Int)<4)=false:=by simp;omega
      have H17:=Jh (right17_any Ay ny cy ly wi HEi.o (by omega));go_wp2_with fail;refine H17.o.mono ?_;rintro o w6 ⟨⟨b1,rfl,hb1⟩,hb6⟩;have HT1:=Jh hb1;have HB6:=Jh (bT HBI.o hb6);have H18:=Jh (right18_any Ay ny cy ly w6 (HEi.o.sees (Below.sees hb6)) (by omega));clear hb1 hb6;go_wp2_with fail;refine H18.o.mono ?_;rintro o w7 ⟨⟨b2,rfl,hb2⟩,hb7⟩;obtain rfl:b2=b1:=Bool.eq_iff_iff.2 (hb2.trans HT1.o.symm)
      have HB7:=Jh (bT HB6.o hb7);clear hb2 hb7;go_wp2_with fail;go_roundw;case rel=>exact⟨i+1,by omega,by go_num,bT HBW.o (bT HBz.o HB7.o)⟩
      case measure=>simp[intOf];omega
   have hlb:decide ((i:Int)<2)=false:=by simp;omega
   have HBF:=Jh (bT HB5.o HBW.o);have HEp:=Jh (HE5.o.sees (Below.sees HBW.o));have H19:=Jh (plays_any A2 q c2 pl wo HEp.o HP.o (HG.o.below HBF.o));go_wp2_with fail;refine H19.o.mono ?_;rintro o w6 ⟨⟨va,R,rfl,hsa,hra,hma⟩,hb6⟩;have HRl:=Jh (played_len HP.o hra hma);obtain⟨Aa,ca,rfl⟩:=SS.slice hsa;have HRR:=Jh (RR.of_ss hsa HRl.o.2);have HRm:=Jh (And.intro hra hma);obtain⟨NR,hNR⟩:=exE (R.length)
   have hNb:NR<=1000000:=by rw[hNR];exact HRl.o.1
   rw[<-hNR] at HRR⊢;have HNR:=Jh hNR;have HB6:=Jh (bT HBF.o hb6);have HE6:=Jh (HEp.o.sees (Below.sees hb6));have H20:=Jh (plays20_any A2 q c2 pl w6 HE6.o HP.o hq5);clear hsa hra hma hb6 hNR;go_wp2_with fail;refine H20.o.mono ?_;rintro o w7 ⟨⟨vb,R',rfl,hsb,hrb,hmb⟩,hb7⟩;obtain rfl:R'=R:=rising_ext hrb HRm.o.1 fun z=>(hmb z).trans (HRm.o.2 z).symm;obtain⟨Ab,cb,rfl⟩:=SS.slice hsb
   have HRb:=Jh (RR.of_ss hsb HRl.o.2);rw[<-HNR.o] at HRb⊢;have HB7:=Jh (bT HB6.o hb7);have HE7p:=Jh (HE6.o.sees (Below.sees hb7));have HSm:=Jh (same16_yes Aa Ab NR NR ca cb _ w7 (HRR.o.below hb7) HRb.o (by omega));clear hsb hrb hmb hb7;go_wp2_with fail;refine HSm.o.mono ?_;rintro o w8 ⟨rfl,hb8⟩;have HB8:=Jh (bT HB7.o hb8);have HE8:=Jh (HE7p.o.sees (Below.sees hb8))
   have H21:=Jh (axioms_any A2 q c2 pl w8 HE8.o HP.o);clear hb8;go_wp2_with fail;refine H21.o.mono ?_;rintro o w9 ⟨⟨vc,R3,rfl,hsc,hrc,hmc⟩,hb9⟩;have hmc':∀z,z∈R3↔∃xs,playP pl xs=some z:=fun z=>by rw[same_outs HP.o z,HQ.o];exact hmc z
   obtain rfl:R3=R':=rising_ext hrc HRm.o.1 fun z=>(hmc' z).trans (HRm.o.2 z).symm;obtain⟨Ac,cc,rfl⟩:=SS.slice hsc;have HRc:=Jh (RR.of_ss hsc HRl.o.2);rw[<-HNR.o] at HRc⊢;have HB9:=Jh (bT HB8.o hb9);have HE9:=Jh (HE8.o.sees (Below.sees hb9));have H22:=Jh (axioms22_any A2 q c2 pl w9 HE9.o HP.o);clear hsc hrc hmc hmc' hb9;go_wp2_with fail;refine H22.o.mono ?_;rintro o wa ⟨⟨vd,R4,rfl,hsd,hrd,hmd⟩,hba⟩
   obtain rfl:R4=R3:=rising_ext hrd HRm.o.1 fun z=>(hmd z).trans (HRm.o.2 z).symm;obtain⟨Ad,cd,rfl⟩:=SS.slice hsd;have HRd:=Jh (RR.of_ss hsd HRl.o.2);rw[<-HNR.o] at HRd⊢;have HBa:=Jh (bT HB9.o hba);have HSn:=Jh (same16_yes Ac Ad NR NR cc cd _ wa (HRc.o.below hba) HRd.o (by omega));clear hsd hrd hmd hba;go_wp2_with fail;refine HSn.o.mono ?_;rintro o wb ⟨rfl,hbb⟩;have HBb:=Jh (bT HBa.o hbb);clear hbb
   go_wp2_with fail;go_ret;exact⟨rfl,HBb.o⟩
 )
end Go.Proofs.YtnigadeohmlpiaaGreatDoor
namespace Go.Proofs.YtnigadeohmlpiaaGreatDoor.litmusTells
open Go.ChangeShapes Go.WideShapes Go.ChangeAt Go.RowKit
theorem contract(H:Type)(enc:TypeId×Value->H)(W:World)(base:Nat)(args:Array Value)(ds gs:List (DataW H))(before:List MemPlace)
  (hval:∀(j:Nat) t v,Tryz.f3.params[j]?=some t->args[j]?=some v->Value.okWide Tryz.prog W .any base t v)
  (hW:DataW.Whole enc Tryz.prog Tryz.f3.params.toList Rows.litmusTellsSpec.vars false W args.toList ds gs before) (hL:laidMetH Tryz.prog Rows.litmusTellsRow.laid W) (_hS:W.ShapedOpen Tryz.prog):
  Calls Tryz.prog 3 args W fun e W'=>∃v,e=.returned v/\Rows.litmusTellsSpec.post enc Tryz.prog Tryz.f3 false true false false W args v W':=by
 have hW':=hW;have hlt:∀p∈before,p.block<W.heap.size:=fun p hp=>hW.lt p hp;obtain⟨p,q,hA0,hV,rfl,hfz,hnd⟩:=hW;have hA:DataW.TrodAll enc Tryz.prog W 0 (fun _=>true) true Tryz.f3.params.toList args.toList ds p:=hA0;rw[Tryz.params3] at hA hval;obtain⟨v0,vs0,d0,ds0,p0,q0,hargs,rfl,rfl,h0,r0⟩:=trodAll_cons hA;obtain⟨v1,vs1,d1,ds1,p1,q1,rfl,rfl,rfl,h1,r1⟩:=trodAll_cons r0
 obtain⟨v2,vs2,d2,ds2,p2,q2,rfl,rfl,rfl,h2,r2⟩:=trodAll_cons r1;obtain⟨rfl,rfl,rfl⟩:=trodAll_nil r2;obtain rfl:args=#[v0,v1,v2]:=by cases args;simp_all
 obtain⟨rfl,rfl⟩:=trodVars_none hV;obtain⟨A0,n0,c0,L0,rfl,hi0,hn0⟩:=evs_in (hval 0 22 v0 rfl rfl) h0;obtain⟨A1,n1,c1,L1,rfl,hi1,hn1⟩:=raw_in (hval 1 23 v1 rfl rfl) h1;obtain⟨A2,n2,c2,z2,rfl,hi2⟩:=tri_in (hval 2 24 v2 rfl rfl) h2;clear hA0;refine(tells3_any A0 n0 c0 L0 A1 n1 c1 L1 A2 n2 c2 z2 W hi0 hn0 hi1 hn1 hi2 (glob_laid hL)).mono fun e W' ⟨he,hb⟩=>?_;subst he
 exact⟨_,rfl,post_of_below (pv:=[]) hW' (fun _ _ _=>trodAll_cons_mk (shut_bool Tryz.underlying4 _) trodAll_mk0) (fun sp hsp=>trodAll_cons_mk (keeps_in (by kernel_rfl) (of_decide_eq_true (by kernel_rfl)) h0 hb (fun x hx=>hlt x (by simp[hx])) sp (fun x hx=>hsp x (by simp[hx]))) (trodAll_cons_mk (keeps_in (by kernel_rfl) (of_decide_eq_true (by kernel_rfl)) h1 hb (fun x hx=>hlt x (by simp[hx])) sp (fun x hx=>hsp x (by simp[hx]))) (trodAll_cons_mk (keeps_in (by kernel_rfl) (of_decide_eq_true (by kernel_rfl)) h2 hb (fun x hx=>hlt x (by simp[hx])) sp (fun x hx=>hsp x (by simp[hx]))) trodAll_mk0))) (fun _ _=>rfl) rfl hb (ok_one (by kernel_rfl) rfl (okWide_bool_mk Tryz.underlying4 _))⟩
theorem reads(os:Os){H:Type}(enc:TypeId×Value->H):∃places,DataW.whole enc Tryz.prog ((laidWorld os).forCall (fun _ _=>0) ⟨#[],#[.slice none 0 0,.slice none 0 0,.slice none 0 0],[]⟩).memory Tryz.f3.params.toList Rows.litmusTellsSpec.vars false (#[.slice none 0 0,.slice none 0 0,.slice none 0 0]:Array Value).toList 8=some ([.nil,.nil,.nil],[],places):=
 ⟨[],by kernel_rfl⟩
theorem lifted(os:Os)(started:os.Started)(H:Type)(enc:TypeId×Value->H)(F:Stop.Interp):
  ReturnsInHanded {} Tryz.checked os 3 .any ((OpenSpec.ofChange Rows.litmusTellsSpec).preRow enc Tryz.prog Tryz.f3 Rows.litmusTellsRow.domain false Rows.litmusTellsRow.laid) (((OpenSpec.ofChange Rows.litmusTellsSpec).at F).post enc Tryz.prog Tryz.f3 false true false false):=by
 obtain⟨places,hx⟩:=reads os enc;refine returnsInHanded_of_row (C:=Tryz.checked) (s:=OpenSpec.ofChange Rows.litmusTellsSpec) own started (by kernel_rfl) Tryz.func3
  (witness_row_atRef (enc:=enc) (C:=Tryz.checked) false (laidWorld os) #[.slice none 0 0,.slice none 0 0,.slice none 0 0] rfl (by kernel_rfl) (by kernel_rfl) (by kernel_rfl)
   (OpenSpec.preRow_of_cond 8 hx (by kernel_rfl) (fun k hk=>by cases hk) (by kernel_rfl) (laid_met os _))) ?_
 intro W base args ds gs before hval hW _ _ _ hL hS _;exact contract H enc W base args ds gs before hval hW hL hS
theorem said:Rows.LitmusTellsSaid:=
 OpenClaim.holds_of_cond 3 Tryz.f3 rfl rfl rfl rfl rfl rfl rfl ⟨rfl,rfl,rfl,rfl,rfl⟩ rfl rfl rfl rfl rfl (by kernel_rfl) Tryz.func3 (by kernel_rfl)
  (of_decide_eq_true (by kernel_rfl)) (by unfold Func.isWrapper;first|(rw[if_pos (by decide+kernel)];kernel_rfl)|(rw[if_neg (by decide+kernel)];exact⟨rfl,rfl⟩))
  (fun os started H enc _ F=>by rw[OpenClaim.pre_eq_preRow];exact lifted os started H enc F)
theorem plain(f:FuncId)(fn:Func)(hf:Tryz.pinned.checked.prog.funcNamed "headstock/headstocklaw13.LitmusTells" =some f)(hfn:Tryz.pinned.checked.prog.funcs[f]?=some fn):
  false=Tryz.pinned.checked.prog.looks []/\∀(j:Nat) t,fn.params[j]?=some t->Tryz.pinned.checked.prog.wantsStandIn t=false:=by
 obtain rfl:f=3:=Option.some.inj ((show Tryz.prog.funcNamed "headstock/headstocklaw13.LitmusTells" =some 3 by kernel_rfl).symm.trans hf)|>.symm;obtain rfl:fn=Tryz.f3:=(Option.some.inj (Tryz.func3.symm.trans hfn)).symm;refine⟨by kernel_rfl,fun j t ht=>?_⟩;have:∀t∈Tryz.f3.params,Tryz.prog.wantsStandIn t=false:=by
  rw[Tryz.params3];intro t ht;simp only[List.mem_toArray,List.mem_cons,List.not_mem_nil,or_false] at ht;rcases ht with rfl|rfl|rfl
  all_goals kernel_rfl
 exact this t (Array.mem_of_getElem? ht)
theorem card:Rows.LitmusTellsCardSaid:=
 Claim7.holds_tied_plain_at .later [] _ _ _ _ said (fun _ h=>by cases h) (by kernel_rfl) (fun _ h=>by cases h) litmusTells_row_tie rfl ⟨rfl,rfl⟩ (by kernel_rfl) rfl plain (by kernel_rfl)
end Go.Proofs.YtnigadeohmlpiaaGreatDoor.litmusTells
