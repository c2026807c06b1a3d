/- A contract of the document's answer for layer 13: the outcomes that are played, state by state. Its condition: where the events stand. -/
import Derived.Test.YtnigadeohmlpiaaGreatDoorC45
import Derived.Test.YtnigadeohmlpiaaGreatDoorC48
import Derived.Test.YtnigadeohmlpiaaGreatDoorC44
set_option maxHeartbeats 32000000
set_option maxRecDepth 100000
namespace Go.Proofs.YtnigadeohmlpiaaGreatDoor
open Go.RowKit
attribute [local go_sem] Oper.semAt_some
def Sts(w:World)(n:Nat)(cs:List Value)(L:List St):Prop:=cs.length=L.length*5/\∀(k:Nat) s,L[k]?=some s->∃y1 y2 y3 y4 y5,(cs[k*5]?=some y1/\cs[k*5+1]?=some y2/\cs[k*5+2]?=some y3/\cs[k*5+3]?=some y4/\cs[k*5+4]?=some y5)/\IsSt w (.agg #[y1,y2,y3,y4,y5]) n s
theorem Sts.tk{T:List TypeId}{w w':World}{n:Nat}{cs:List Value}{L:List St}(h:Sts w n cs L)(hk:Tk T w w')(h1:3∉T)(h2:87∉T)(h3:128∉T)(h4:4∉T):Sts w' n cs L:=
 ⟨h.1,fun k s hs=>by obtain⟨y1,y2,y3,y4,y5,hc,hi⟩:=h.2 k s hs;exact⟨y1,y2,y3,y4,y5,hc,hi.tk hk h1 h2 h3 h4⟩⟩
theorem Sts.below{w w':World}{n:Nat}{cs:List Value}{L:List St}(h:Sts w n cs L)(hb:Below w.heap.size w w'):Sts w' n cs L:=h.tk (T:=[]) (Tk.below hb) (by simp) (by simp) (by simp) (by simp)
theorem Sts.snoc{w:World}{n:Nat}{cs:List Value}{L:List St}{y1 y2 y3 y4 y5:Value}{s:St}(h:Sts w n cs L)(hs:IsSt w (.agg #[y1,y2,y3,y4,y5]) n s):Sts w n (cs++[y1,y2,y3,y4,y5]) (L++[s]):=by
 refine⟨by rw[List.length_append,List.length_append,h.1];simp;omega,fun k x hx=>?_⟩;rcases Nat.lt_or_ge k L.length with hk|hk
 ·rw[List.getElem?_append_left hk] at hx;obtain⟨z1,z2,z3,z4,z5,⟨h1,h2,h3,h4,h5⟩,hi⟩:=h.2 k x hx;have hl:=h.1;exact⟨z1,z2,z3,z4,z5,⟨by rw[List.getElem?_append_left (by omega)];exact h1,by rw[List.getElem?_append_left (by omega)];exact h2,by rw[List.getElem?_append_left (by omega)];exact h3,by rw[List.getElem?_append_left (by omega)];exact h4,by rw[List.getElem?_append_left (by omega)];exact h5⟩,hi⟩
 obtain rfl:k=L.length:=by have:=(List.getElem?_eq_some_iff.1 hx).1;rw[List.length_append,List.length_singleton] at this;omega
 rw[List.getElem?_append_right (Nat.le_refl _),Nat.sub_self] at hx;obtain rfl:s=x:=Option.some.inj hx;have hl:=h.1;refine⟨y1,y2,y3,y4,y5,⟨?_,?_,?_,?_,?_⟩,hs⟩<;>rw[List.getElem?_append_right (by omega),hl]
 ·rw[Nat.sub_self];rfl
 ·rw[show L.length*5+1-L.length*5=1 by omega];rfl
 ·rw[show L.length*5+2-L.length*5=2 by omega];rfl
 ·rw[show L.length*5+3-L.length*5=3 by omega];rfl
 rw[show L.length*5+4-L.length*5=4 by omega];rfl
theorem st_info:(Tryz.prog.info? 62).map (fun i=>(i.zero,i.size,i.bytes))=some (some (.agg #[.slice none 0 0,.slice none 0 0,.slice none 0 0,.slice none 0 0,.slice none 0 0]),5,120):=by kernel_rfl
theorem five_cell{w:World}{g j:Nat}{x y z u v o:Value}{t:TypeId}(h:w.heap[g]?=some (.cells #[x,y,z,u,v] t))(hu:[x,y,z,u,v][j]?=some o):w.cell? ⟨g,0+j,none⟩=some o:=by rw[cell_of_row w g _ _ _ _ h];simpa using hu
theorem sts_at{w:World}{base m g c k n:Nat}{cs:List Value}{L:List St}{s:St}(ho:w.ownsRow base 62 5 (.slice (some ⟨g,0,none⟩) m c) m cs)(h:Sts w n cs L)(hs:L[k]?=some s):∃y1 y2 y3 y4 y5,w.cell? ⟨g,k*5,none⟩=some y1/\w.cell? ⟨g,k*5+1,none⟩=some y2/\w.cell? ⟨g,k*5+2,none⟩=some y3/\w.cell? ⟨g,k*5+3,none⟩=some y4/\w.cell? ⟨g,k*5+4,none⟩=some y5/\IsSt w (.agg #[y1,y2,y3,y4,y5]) n s:=by
 obtain⟨y1,y2,y3,y4,y5,⟨h1,h2,h3,h4,h5⟩,hi⟩:=h.2 k s hs;have hk:=(List.getElem?_eq_some_iff.1 hs).1;have hl:=h.1;have hm:=ho.1;exact⟨y1,y2,y3,y4,y5,(ho.cellAt _ (by omega)).trans h1,(ho.cellAt _ (by omega)).trans h2,(ho.cellAt _ (by omega)).trans h3,(ho.cellAt _ (by omega)).trans h4,(ho.cellAt _ (by omega)).trans h5,hi⟩
theorem st_cells{w:World}{n:Nat}{s:St}{y1 y2 y3 y4 y5:Value}(h:IsSt w (.agg #[y1,y2,y3,y4,y5]) n s):∃a1 c1 a2 c2 a3 c3 aD cD aT cT,y1=.slice a1 4 c1/\y2=.slice a2 4 c2/\y3=.slice a3 4 c3/\y4=.slice aD n cD/\y5=.slice aT n cT/\IsMem w y1 y2 y3 s.m:=by
 obtain⟨v1,v2,v3,aD,cD,aT,cT,e,him,_⟩:=h.is;simp only[Value.agg.injEq,Array.mk.injEq,List.cons.injEq,and_true] at e;obtain⟨rfl,rfl,rfl,rfl,rfl⟩:=e;obtain⟨a1,c1,rfl,_⟩:=him.ws;obtain⟨a2,c2,_,rfl,_⟩:=him.ps;obtain⟨a3,c3,rfl,_⟩:=him.rs;exact⟨a1,c1,a2,c2,a3,c3,aD,cD,aT,cT,rfl,rfl,rfl,rfl,rfl,him⟩
theorem candK_few{s:St}(hs:s.m.Ok):∀h:Nat,(candK s h).length<=h*9
 |0=>by simp[candK]
 |h+1=>by
  have ih:=candK_few hs h;have h1:candK s (h+1)=candK s h++candH s h:=by unfold candK;rw[List.range_succ,List.flatMap_append];simp
  rw[h1,List.length_append];have h2:(candH s h).length<=9:=by
   unfold candH;rw[List.length_cons,List.length_map,List.length_range];rcases getD_mem (L:=s.m.pend) (h:=h) with h3|h3
   ·have:=hs.few _ h3;omega
   rw[h3];simp
  omega
theorem candH_len(s:St)(h:Nat):(candH s h).length=(s.m.pend.getD h []).length+1:=by unfold candH;rw[List.length_cons,List.length_map,List.length_range]
theorem candH_at{s:St}{h c:Nat}(hc:c<(s.m.pend.getD h []).length+1):(candH s h)[c]?=some ⟨(h:Int),decide (0<=(c:Int)-1),max ((c:Int)-1) 0⟩:=by
 unfold candH;cases c with
 |zero=>rfl
 |succ c=>rw[List.getElem?_cons_succ,List.getElem?_map,List.getElem?_range (by omega)];show some (⟨(h:Int),true,(c:Int)⟩:Pk)=_;congr 2;simp;omega
theorem stepS_same{l:List Ev}{s:St}{i:Nat}{L:List St}{x:Pk}(h:∀s',s.next l x=some s'->s'∈L.drop (i+1)):stepS l s i L x=L:=by
 unfold stepS;split
 ·rename_i s' hs;exact if_pos (h s' hs)
 rfl
theorem stepS_new{l:List Ev}{s s':St}{i:Nat}{L:List St}{x:Pk}(hx:s.next l x=some s')(h:s'∉L.drop (i+1)):stepS l s i L x=L++[s']:=by unfold stepS;rw[hx];exact if_neg h
theorem mem_drop_iff{L:List St}{i:Nat}{x:St}:x∈L.drop i↔∃j,i<=j/\L[j]?=some x:=by
 constructor
 ·intro h;obtain⟨k,hk⟩:=List.getElem?_of_mem h;rw[List.getElem?_drop] at hk;exact⟨i+k,by omega,hk⟩
 rintro⟨j,hj,hx⟩;refine List.mem_of_getElem? (i:=j-i) ?_;rw[List.getElem?_drop,show i+(j-i)=j by omega];exact hx
theorem stepS_not{l:List Ev}{s:St}{i k:Nat}{L:List St}{x:Pk}{o:Option St}(ho:o=s.next l x)(hq:¬(o.isSome=true/\∀j y,i+1<=j->j<k->L[j]?=some y->o≠some y)):stepS l s i L x=L:=by refine stepS_same fun s' hs'=>?_;rw[<-ho] at hs';refine Classical.byContradiction fun hn=>hq ⟨by rw[hs'];rfl,fun j y h1 h2 h3 h4=>hn ?_⟩;rw[hs'] at h4;rw[Option.some.inj h4];exact mem_drop_iff.2 ⟨j,h1,h3⟩
theorem stepS_yes{l:List Ev}{s:St}{i k:Nat}{L:List St}{x:Pk}{o:Option St}(ho:o=s.next l x)(hk:L.length<=k)(hq:o.isSome=true/\∀j y,i+1<=j->j<k->L[j]?=some y->o≠some y):∃s',o=some s'/\stepS l s i L x=L++[s']:=by
 obtain⟨s',hs'⟩:=Option.isSome_iff_exists.1 hq.1;refine⟨s',hs',stepS_new (ho▸hs') fun hm=>?_⟩;obtain⟨j,h1,h2⟩:=mem_drop_iff.1 hm;exact hq.2 j s' h1 (Nat.lt_of_lt_of_le (List.getElem?_eq_some_iff.1 h2).1 hk) h2 hs'
theorem BInv.short{l:List Ev}(hl:Prog l){i:Nat}{L:List St}(h:BInv l i L):∀z∈outsP l (L.take i),z.length<=6:=by intro z hz;obtain⟨s,hs,_,rfl⟩:=((outsP_is l _ (L.take i) rfl).2.2 z).1 hz;obtain⟨xs,hx⟩:=h.reach s (List.mem_of_mem_take hs);have h1:=(run_lens hl (St.first_ok l.length) hx).t;rw[toldL_len h1];have h2:=loads_len l l.length;rw[List.take_length] at h2;have:=hl.few;omega
theorem told_short{l:List Ev}(hl:Prog l){s:St}(h:s.told.length=l.length):(toldL l s.told).length<=6:=by rw[toldL_len h];have h2:=loads_len l l.length;rw[List.take_length] at h2;have:=hl.few;omega
theorem plays20_any(A:Option Addr)(n c:Nat)(l:List Ev)(w:World)(he:IsEvs w A n c l)(hl:Prog l)(hn5:n<=5):
  Calls Tryz.prog 20 #[.slice A n c] w fun o w'=>PlayedIs l w.heap.size o w'/\Below w.heap.size w w':=by
 obtain⟨i0,hi0,hz0,hz1,hz2⟩:=info_parts st_info;have HR:=Jh (right18_any A n c l w he (by omega));have HE:=Jh he;have HP:=Jh hl;have hLn:l.length<=5:=by rw[he.len];exact hn5
 have HL5:=Jh hLn;clear he hl hLn;go_enter Tryz.func20,Tryz.ntmps20;go_wp2_with fail;refine HR.o.mono ?_;rintro o w2 ⟨⟨b,rfl,hb⟩,hb2⟩;have HB2:=Jh hb2;obtain rfl:b=true:=hb.2 HP.o;have HSt:=Jh (start28_any A n c w2 (by omega));clear hb hb2;go_wp2_with fail;refine HSt.o.mono ?_;rintro o w3 ⟨⟨v0,rfl,hs0⟩,hb3⟩;obtain⟨A1,c1,A2,c2,A3,c3,AD,cD,AT,cT,rfl⟩:=hs0.form;obtain⟨bl,hbl⟩:=exE (w3.heap.size)
 obtain⟨W4,hW4⟩:=exE (w3.alloc (.cells #[.slice A1 4 c1,.slice A2 4 c2,.slice A3 4 c3,.slice AD n cD,.slice AT n cT] 62));have k4:Below w3.heap.size w3 W4:=hW4▸bA (bR w3);have HB4:=Jh (bT (bT HB2.o hb3) k4);have HO4:=Jh (show W4.ownsRow w.heap.size 62 5 (.slice (some ⟨bl,0,none⟩) 1 1) 1 [.slice A1 4 c1,.slice A2 4 c2,.slice A3 4 c3,.slice AD n cD,.slice AT n cT] from
  ⟨rfl,.inr ⟨bl,1,#[.slice A1 4 c1,.slice A2 4 c2,.slice A3 4 c3,.slice AD n cD,.slice AT n cT],rfl,by rw[hbl];exact(bT HB2.o hb3).size,by rw[hW4,hbl];exact heap_alloc_new w3 _,Nat.le_refl _,by unfold maxLen;omega,rfl,rfl⟩⟩)
 have HS4:=Jh (show Sts W4 n [.slice A1 4 c1,.slice A2 4 c2,.slice A3 4 c3,.slice AD n cD,.slice AT n cT] [St.first n] from by have h:=Sts.snoc (cs:=[]) (L:=[]) ⟨rfl,fun k s h=>by simp at h⟩ (hs0.sees (Below.sees k4));exact h)
 have HI4:=Jh (show BInv l 0 [St.first n] from by rw[<-HE.o.len];exact BInv.start HL5.o)
 clear k4 hs0 hb3;go_upto_region 7 with fail
 rw[<-hW4,<-hbl];clear hW4 hbl;go_loopw [4,5,6] (fun v4 v5 v6 wr=>∃(i m:Nat) (L:List St) (cs:List Value),v6=.int .i64 i/\m=L.length/\BInv l i L/\wr.ownsRow w.heap.size 62 5 v5 m cs/\Sts wr n cs L/\SS wr w.heap.size v4 (outsP l (L.take i))/\Below w.heap.size w wr) (fun _ _ v6 _=>10897286400-(intOf v6).toNat)
 case atStart=>exact⟨0,1,[St.first n],_,rfl,rfl,HI4.o,HO4.o,HS4.o,⟨[],World.ownsRow_nil _ _ _ _,rfl,fun k z h=>by simp[outsP] at h⟩,HB4.o⟩
 case round=>
  obtain⟨i,m,L,cs,rfl,hm,hinv,hown,hsts,hss,hbw⟩:=hrel;obtain⟨wo,rfl⟩:=exE wr;have hmB:m<=10897286400:=by rw[hm];exact hinv.few
  have him:i<=m:=by rw[hm];exact hinv.le
  have HM:=Jh hm;have HI:=Jh hinv;have HO:=Jh hown;have HS:=Jh hsts;have HSS:=Jh hss;have HBW:=Jh hbw;clear hm hinv hown hsts hss hbw;obtain⟨gA,cA,e1,hgA,_⟩:=own_form HO.o (by
   have h1:=List.length_pos_of_mem HI.o.first
   have:=HM.o;omega)
  subst e1;by_cases hlt:i<m
  ·have hlb:decide ((i:Int)<(m:Int))=true:=by simp;omega
   have hlb2:decide (i<m)=true:=by simpa using hlt
   have him':(i:Int)<(m:Int):=by omega
   have hi0':decide ((i:Int)<0)=false:=by simp
   obtain⟨s,hs⟩:∃s,L[i]?=some s:=⟨_,List.getElem?_eq_getElem (by have:=HM.o;omega)⟩;have HLs:=Jh hs;obtain⟨y1,y2,y3,y4,y5,q1,q2,q3,q4,q5,hist⟩:=sts_at HO.o HS.o hs;have HIst:=Jh hist;have HEn:=Jh (ended29_any n _ s wo hist (by omega));clear hs hist;go_wp2_with fail;refine HEn.o.mono ?_;rintro o w5 ⟨rfl,hb5⟩;have HB5:=Jh hb5;clear q1 q2 q3 q4 q5;cases hdn:s.done.all id with
   |true=>
    have HO5:=Jh (own_tk (T:=[]) HO.o (Tk.below HB5.o) (by decide));have HS5:=Jh (HS.o.below HB5.o);obtain⟨z1,z2,z3,z4,z5,q1,q2,q3,q4,q5,hz5⟩:=sts_at HO5.o HS5.o HLs.o;have HOc:=Jh (outcome34_any A n c l _ s w5 (HE.o.sees (Below.sees (bT HBW.o HB5.o))) hz5 (by omega));have HI1:=Jh (HI.o.ended HLs.o hdn)
    have HT1:=Jh (show outsP l (L.take (i+1))=putP (outsP l (L.take i)) (toldL l s.told) from by rw[List.take_add_one,HLs.o];show outsP l (L.take i++[s])=_;rw[outsP_snoc,if_pos hdn]);have HZs:=Jh (told_short HP.o (show s.told.length=l.length from by rw[HE.o.len];exact HIst.o.ok.t));obtain⟨zs,hzs⟩:=exE (toldL l s.told);rw[<-hzs] at HOc HT1 HZs;clear hdn hz5 hzs;go_wp2_with fail;refine HOc.o.mono ?_
    rintro o w6 ⟨⟨Ao,co,rfl,hown6,hco⟩,hb6⟩;have HB6:=Jh (bT HB5.o hb6);have HPt:=Jh (put42_any w.heap.size u4 (outsP l (L.take i)) Ao zs.length co zs w6 (HSS.o.below HB6.o) (by have h1:=(outsP_is l _ (L.take i) rfl).2.1;have h2:=List.length_take_le i L;omega) (bT HBW.o HB6.o).size (fun z hz=>by have:=HI.o.short HP.o z hz;omega) (Row.of_own hown6) rfl hco (by have:=HZs.o;omega))
    obtain⟨zl,hzl⟩:=exE (zs.length);rw[<-hzl] at HPt⊢;clear hown6 hco hb6 hzl q1 q2 q3 q4 q5;go_wp2_with fail;refine HPt.o.mono ?_;rintro o w7 ⟨⟨v7,rfl,hs7⟩,hb7⟩;have HB7:=Jh (bT HB6.o hb7);have HS7:=Jh hs7;clear hs7 hb7;go_wp2_with fail;go_roundw;case rel=>exact⟨i+1,m,L,cs,by go_num,HM.o,HI1.o,own_tk (T:=[]) HO.o (Tk.below HB7.o) (by decide),HS.o.below HB7.o,by rw[HT1.o];exact HS7.o,bT HBW.o HB7.o⟩
    case measure=>simp[intOf];omega
   |false=>
    have HI1:=Jh (HI.o.opened HP.o HLs.o hdn);have HT1:=Jh (show outsP l ((expL l s i (candK s 4) L).take (i+1))=outsP l (L.take i) from by have h1:=expL_at (l:=l) (s:=s) (i:=i) (ps:=candK s 4) HLs.o;obtain⟨N,hN⟩:=expL_pre l s i (candK s 4) L;rw[List.take_add_one,h1,hN,List.take_append_of_le_length (by have:=HM.o;omega)];show outsP l (L.take i++[s])=_;rw[outsP_snoc,if_neg (by rw[hdn];simp)])
    have HOk:=Jh HIst.o.ok;clear hdn;go_upto_region 13 with fail
    go_loopw [5,8] (fun v5 v8 wr=>∃(h m':Nat) (L':List St) (cs':List Value),h<=4/\v8=.int .i64 h/\L'=expL l s i (candK s h) L/\m'=L'.length/\wr.ownsRow w.heap.size 62 5 v5 m' cs'/\Sts wr n cs' L'/\SS wr w.heap.size u4 (outsP l (L.take i))/\Below w.heap.size w wr) (fun _ v8 _=>4-(intOf v8).toNat)
    case atStart=>exact⟨0,m,L,cs,by omega,rfl,rfl,HM.o,own_tk (T:=[]) HO.o (Tk.below HB5.o) (by decide),HS.o.below HB5.o,HSS.o.below HB5.o,bT HBW.o HB5.o⟩
    case round=>
     obtain⟨h,m',L',cs',hh,rfl,hL',hm',ho',hs',hss',hb'⟩:=hrel;obtain⟨wh,rfl⟩:=exE wr;have HL':=Jh hL';have HM':=Jh hm';have HO':=Jh ho';have HS':=Jh hs';have HSS':=Jh hss';have HB':=Jh hb';clear hL' hm' ho' hs' hss' hb';by_cases hlh:h<4
     ·have hhb:decide ((h:Int)<4)=true:=by simp;omega
      have hhI:(h:Int)<4:=by omega
      have hh0:decide ((h:Int)<0)=false:=by simp
      go_upto_region 16 with fail
      have hp4:s.m.pend[h]?=some (s.m.pend.getD h []):=by have:=HOk.o.m.lp;rw[List.getD_eq_getElem?_getD,List.getElem?_eq_getElem (by omega)];rfl
      obtain⟨np,hnp⟩:=exE ((s.m.pend.getD h []).length);have hnp8:np<=8:=by rw[hnp];exact HOk.o.m.few _ (List.mem_of_getElem? hp4)
      have HNp:=Jh hnp;have HP4:=Jh hp4;clear hnp hp4
      go_loopw [5,9] (fun v5 v9 wr=>∃(cc m'':Nat) (wz:Int) (L'':List St) (cs'':List Value),cc<=np+1/\wz=(cc:Int)-1/\v9=.int .i64 wz/\L''=expL l s i (candK s h++(candH s h).take cc) L/\m''=L''.length/\wr.ownsRow w.heap.size 62 5 v5 m'' cs''/\Sts wr n cs'' L''/\SS wr w.heap.size u4 (outsP l (L.take i))/\Below w.heap.size w wr) (fun _ v9 _=>((np:Int)-intOf v9).toNat)
      case atStart=>exact⟨0,m',-1,L',cs',by omega,rfl,rfl,by rw[List.take_zero,List.append_nil];exact HL'.out,HM'.out,HO'.out,HS'.out,HSS'.out,HB'.out⟩
      case round=>
       obtain⟨cc,m2,wz,L2,cs2,hcc,hwz,rfl,hL2,hm2,ho2,hs2,hss2,hb2⟩:=hrel;obtain⟨wk,rfl⟩:=exE wr;have HL2:=Jh hL2;have HM2:=Jh hm2;have HO2:=Jh ho2;have HS2:=Jh hs2;have HSS2:=Jh hss2;have HB2k:=Jh hb2;have HCl:=Jh (candH_len s h)
       have hm2B:m2<=10897286500:=by have h1:=expL_len l s i (candK s h++(candH s h).take cc) L;have h2:=candK_few HOk.o.m h;have h3:=List.length_take_le cc (candH s h);rw[<-hL2,List.length_append] at h1;have h4:=HM.o;omega
       have HI2:=Jh (show L2[i]?=some s from by rw[hL2];exact expL_at HLs.o);have him2:i<m2:=by rw[hm2];exact(List.getElem?_eq_some_iff.1 HI2.o).1
       have HWz:=Jh hwz;have hw1:-1<=wz:=by omega
       have hw9:wz<=9:=by omega
       clear hL2 hm2 ho2 hs2 hss2 hb2 hwz;obtain⟨g2,k2,e2,hg2,_⟩:=own_form HO2.o (by omega);subst e2;have hilt:(i:Int)<(m2:Int):=by omega
       have hiB:decide ((i:Int)<(m2:Int))=true:=by simp;omega
       have hiB2:decide (i<m2)=true:=by simpa using him2
       obtain⟨z1,z2,z3,z4,z5,q1,q2,q3,q4,q5,hist⟩:=sts_at HO2.o HS2.o HI2.o;obtain⟨a1,d1,a2,d2,a3,d3,aD,dD,aT,dT,rfl,rfl,rfl,rfl,rfl,hmm⟩:=st_cells hist;have HIst2:=Jh hist;obtain⟨A7,np',c7,g7,o7,rfl,hnp',hpc⟩:=pend_at hmm HP4.o;have q6:=hpc.o wk (bR wk);obtain rfl:np'=np:=by rw[hnp',HNp.o]
       clear hnp' hpc hist hmm;by_cases hlw:wz<(np':Int)
       ·have hwb:decide (wz<(np':Int))=true:=by simpa using hlw
        have HNx:=Jh (next30_any A n c l _ s ⟨(h:Int),decide (0<=wz),max wz 0⟩ wk HP.o (HE.o.sees (Below.sees HB2k.o)) HIst2.o);rw[show pickV (⟨(h:Int),decide (0<=wz),max wz 0⟩:Pk)=.agg #[.int .i64 (h:Int),.bool (decide (0<=wz)),.int .i64 (max wz 0)] from rfl] at HNx;obtain⟨o,ho⟩:=exE (s.next l ⟨(h:Int),decide (0<=wz),max wz 0⟩)
        have HStep:=Jh (show expL l s i (candK s h++(candH s h).take (cc+1)) L=stepS l s i L2 ⟨(h:Int),decide (0<=wz),max wz 0⟩ from by rw[List.take_add_one,candH_at (by rw[<-HNp.o];have:=HWz.o;omega),<-List.append_assoc,HL2.o,HWz.o];exact expL_snoc _ _ _ _ _ _);rw[<-ho] at HNx;have HOe:=Jh ho;clear ho;go_wp2_with fail;refine HNx.o.mono ?_;rintro e w7 ⟨hnx,hb7⟩
        obtain⟨x1,j1,f1,x2,j2,f2,x3,j3,f3,x4,j4,f4,x5,j5,f5,rfl,hst7⟩:=hnx.form;have HB7:=Jh hb7;have HSt7:=Jh hst7;obtain⟨q0,hq0⟩:=exE (o.isSome);rw[<-hq0];have HQ0:=Jh hq0;obtain⟨b10,hb10⟩:=exE (w7.heap.size);obtain⟨W8,hW8⟩:=exE (w7.alloc (.cells #[.slice x1 j1 f1,.slice x2 j2 f2,.slice x3 j3 f3,.slice x4 j4 f4,.slice x5 j5 f5] 62));have k8:Below w7.heap.size w7 W8:=hW8▸bA (bR w7)
        have HB8:=Jh (bT hb7 k8);have H10:=Jh (show W8.heap[b10]?=some (.cells #[.slice x1 j1 f1,.slice x2 j2 f2,.slice x3 j3 f3,.slice x4 j4 f4,.slice x5 j5 f5] 62) by rw[hW8,hb10];exact heap_alloc_new w7 _);have HSt8:=Jh (fun s' (hs':o=some s')=>(hst7 s' hs').sees (Below.sees k8));clear hnx hb7 hst7 hq0 k8 q1 q2 q3 q4 q5 q6;go_upto_region 20 with fail
        rw[<-hW8,<-hb10];clear hW8 hb10;go_loopw [11,12] (fun v11 v12 wr=>∃(k:Nat) (q:Bool),i+1<=k/\k<=m2/\v12=.int .i64 k/\v11=.bool q/\(q=true↔(o.isSome=true/\∀j y,i+1<=j->j<k->L2[j]?=some y->o≠some y))/\Below W8.heap.size W8 wr) (fun _ v12 _=>m2-(intOf v12).toNat)
        case atStart=>exact⟨i+1,q0,Nat.le_refl _,by omega,by go_num,rfl,⟨fun h=>⟨by rw[<-HQ0.o];exact h,fun j y h1 h2=>absurd h1 (by omega)⟩,fun h=>by rw[HQ0.o];exact h.1⟩,bR W8⟩
        case round=>
         obtain⟨k,q,hk1,hk2,rfl,rfl,hqq,hbn⟩:=hrel;obtain⟨wn,rfl⟩:=exE wr;have HQQ:=Jh hqq;have HBN:=Jh (bT HB8.o hbn);have HH10:=Jh (blk_below hbn H10.o);have HSt9:=Jh (fun s' (hs':o=some s')=>(HSt8.o s' hs').sees (Below.sees hbn));have HBb:=Jh hbn;have HO3:=Jh (own_tk (T:=[]) HO2.o (Tk.below HBN.o) (by decide));have HS3:=Jh (HS2.o.below HBN.o);have hk0:decide ((k:Int)<0)=false:=by simp
         clear hqq hbn;cases q with
         |false=>
          have HSame:=Jh (stepS_not HOe.o (fun h=>by have:=HQQ.o.2 h;cases this));by_cases hlk:k<m2
          ·have hkb:decide ((k:Int)<(m2:Int))=true:=by simp;omega
           have hkb2:decide (k<m2)=true:=by simpa using hlk
           go_wp2_with fail;go_roundw;case rel=>exact⟨cc+1,m2,wz+1,L2,cs2,by have:=HWz.o;omega,by have:=HWz.o;omega,by go_num,by rw[HStep.o,HSame.o],HM2.o,HO3.o,HS3.o,HSS2.o.below HBN.o,bT HB2k.o HBN.o⟩
           case measure=>simp[intOf];omega
          have hkb:decide ((k:Int)<(m2:Int))=false:=by simp;omega
          have hkb2:decide (k<m2)=false:=by simpa using hlk
          go_wp2_with fail;go_roundw;case rel=>exact⟨cc+1,m2,wz+1,L2,cs2,by have:=HWz.o;omega,by have:=HWz.o;omega,by go_num,by rw[HStep.o,HSame.o],HM2.o,HO3.o,HS3.o,HSS2.o.below HBN.o,bT HB2k.o HBN.o⟩
          case measure=>simp[intOf];omega
         |true=>
          by_cases hlk:k<m2
          ·have hkb:decide ((k:Int)<(m2:Int))=true:=by simp;omega
           have hkb2:decide (k<m2)=true:=by simpa using hlk
           have hklt:(k:Int)<(m2:Int):=by omega
           obtain⟨y,hy⟩:∃y,L2[k]?=some y:=⟨_,List.getElem?_eq_getElem (by have:=HM2.o;omega)⟩;obtain⟨p1,p2,p3,p4,p5,hp1,hp2,hp3,hp4,hp5,histk⟩:=sts_at HO3.o HS3.o hy;obtain⟨s',hs'⟩:=Option.isSome_iff_exists.1 (HQQ.o.1 rfl).1;have HY:=Jh hy;have HCn:=Jh (And.intro hp1 (And.intro hp2 (And.intro hp3 (And.intro hp4 hp5))));have HIk:=Jh histk;have HIs:=Jh (HSt9.o s' hs');have HOs:=Jh hs'
           obtain⟨bq,hbq⟩:∃b:Bool,b=true↔y=s':=by
            rcases Classical.em (y=s') with h|h
            ·exact⟨true,by simp[h]⟩
            exact⟨false,by simp[h]⟩
           have HBq:=Jh hbq;clear hy hp1 hp2 hp3 hp4 hp5 histk hs' hbq;go_upto_region 22 with fail
           have rr:∀(wx:World),Below wx.heap.size wx wx:=fun wx=>bR wx
           refine wp_region_det (by kernel_rfl) (fun f=>(⟨#[Value.slice A n c,undef,Value.slice none 0 0,Value.bool true,u4,Value.slice (some ⟨g2,0,none⟩) m2 k2,.int .i64 (i:Int),Value.bool false,.int .i64 (h:Int),.int .i64 wz,Value.pointer (some ⟨b10,0,none⟩),f 7,.int .i64 (k:Int),Value.slice A n c,Value.bool true,Value.bool true,Value.bool false,Value.slice A n c,Value.agg #[Value.slice A1 4 c1,Value.slice A2 4 c2,Value.slice A3 4 c3,Value.slice AD n cD,Value.slice AT n cT],Value.slice (some ⟨bl,0,none⟩) 1 1,.int .i64 (i:Int),Value.slice (some ⟨gA,0,none⟩) m cA,.int .i64 (m:Int),Value.bool true,u24,u25,Value.slice (some ⟨gA,0,none⟩) m cA,.int .i64 (i:Int),Value.pointer (some ⟨gA,i*5,none⟩),Value.agg #[y1,y2,y3,y4,y5],Value.bool false,Value.bool false,u32,u33,u34,u35,u36,u37,u38,u39,.int .i64 (h:Int),Value.bool true,u42,u43,.int .i64 wz,Value.slice (some ⟨g2,0,none⟩) m2 k2,.int .i64 (i:Int),Value.pointer (some ⟨g2,i*5,none⟩),Value.pointer (some ⟨g2,i*5,none⟩),Value.pointer (some ⟨g2,i*5+1,none⟩),Value.slice (some ⟨g7,o7,none⟩) 4 d2,.int .i64 (h:Int),Value.pointer (some ⟨g7,o7+h,none⟩),Value.slice A7 np' c7,.int .i64 (np':Int),Value.bool true,u56,u57,Value.tuple #[Value.agg #[Value.slice x1 j1 f1,Value.slice x2 j2 f2,Value.slice x3 j3 f3,Value.slice x4 j4 f4,Value.slice x5 j5 f5],Value.bool q0],Value.slice A n c,Value.slice (some ⟨g2,0,none⟩) m2 k2,.int .i64 (i:Int),Value.pointer (some ⟨g2,i*5,none⟩),Value.agg #[Value.slice a1 4 d1,Value.slice (some ⟨g7,o7,none⟩) 4 d2,Value.slice a3 4 d3,Value.slice aD n dD,Value.slice aT n dT],.int .i64 (h:Int),.int .i64 wz,Value.bool (decide (0<=wz)),.int .i64 wz,.int .i64 (max wz 0),Value.agg #[.int .i64 (h:Int),Value.bool (decide (0<=wz)),.int .i64 (max wz 0)],Value.tuple #[Value.agg #[Value.slice x1 j1 f1,Value.slice x2 j2 f2,Value.slice x3 j3 f3,Value.slice x4 j4 f4,Value.slice x5 j5 f5],Value.bool q0],Value.agg #[Value.slice x1 j1 f1,Value.slice x2 j2 f2,Value.slice x3 j3 f3,Value.slice x4 j4 f4,Value.slice x5 j5 f5],Value.bool q0,.int .i64 (i:Int),.int .i64 ((i:Int)+1),.int .i64 (k:Int),Value.slice (some ⟨g2,0,none⟩) m2 k2,.int .i64 (m2:Int),Value.bool true,Value.bool true,Value.bool true,Value.bool true,u82,u83,f 0,f 1,f 2,f 3,f 4,f 5,f 6,u91,u92,u93,u94,u95,undef],[]⟩:Act)) (fun(iv:Nat) (lv:Nat->Bool) (fv:Nat->Value) (wx:World)=>match iv with|0=>fv 0=.slice (some ⟨g2,0,none⟩) m2 k2|1=>fv 1=.int .i64 (k:Int)|2=>fv 2=.pointer (some ⟨g2,k*5,none⟩)|3=>fv 3=.agg #[p1,p2,p3,p4,p5]|4=>fv 4=.agg #[.slice x1 j1 f1,.slice x2 j2 f2,.slice x3 j3 f3,.slice x4 j4 f4,.slice x5 j5 f5]|5=>fv 5=.bool bq|6=>fv 6=.bool (!bq)|7=>fv 7=.bool (!bq)|_=>True) (fun _ wx=>Below wn.heap.size wn wx) (fun _ w1 w2=>Below w1.heap.size w1 w2) (by kernel_rfl) (fun k=>match k with|0=>u84|1=>u85|2=>u86|3=>u87|4=>u88|5=>u89|6=>u90|7=>Value.bool true|_=>undef) rfl ?keep (bD (bR wn)) ?steps ?fin
           case keep=>
            intro iv j hij hd l f f' w1 w2 hf hR
            match j with
            |0|1|2|3|4|5|6|7=>exact fun h=>(hf _ (Ne.symm hij)).trans h
            |_+8=>exact id
           case steps=>
            refine fun iv hiv=>stepsOf_at (k:=0) (n:=8) ?_ iv (Nat.zero_le _) (by rw[Nat.zero_add];exact hiv);refine sD 0 7 aT0 [] (fun f wq l hl hun hdn hS hd K' HK=>?_) ?_
            ·clear hd;have HSS:=Jh hS;clear hS;go_simp;exact HK.o _ _ _ rfl rfl HSS.o (rr _)
            refine sD 1 6 aT1 [] (fun f wq l hl hun hdn hS hd K' HK=>?_) ?_
            ·clear hd;have HSS:=Jh hS;clear hS;go_simp;exact HK.o _ _ _ rfl rfl HSS.o (rr _)
            refine sD 2 5 aT2 [0,1] (fun f wq l hl hun hdn hS hd K' HK=>?_) ?_
            ·obtain⟨e0,e1,-⟩:=hd;have e0:f 0=_:=e0;have e1:f 1=_:=e1;have HSS:=Jh hS;clear hS;simp only[e0,e1];go_simp;exact HK.o _ _ _ (by simp only[e0,e1];rfl) rfl HSS.o (rr _)
            refine sD 3 4 aT3 [2] (fun f wq l hl hun hdn hS hd K' HK=>?_) ?_
            ·obtain⟨e2,-⟩:=hd;have e2:f 2=_:=e2;have r0:=(hS.cell (cell_lt HCn.o.1)).trans HCn.o.1;have r1:=(hS.cell (cell_lt HCn.o.2.1)).trans HCn.o.2.1;have r2:=(hS.cell (cell_lt HCn.o.2.2.1)).trans HCn.o.2.2.1;have r3:=(hS.cell (cell_lt HCn.o.2.2.2.1)).trans HCn.o.2.2.2.1;have r4:=(hS.cell (cell_lt HCn.o.2.2.2.2)).trans HCn.o.2.2.2.2;have HSS:=Jh hS;clear hS;simp only[e2];go_simp
             exact HK.o _ _ _ (by simp only[e2];rfl) rfl HSS.o (rr _)
            refine sD 4 3 aT4 [] (fun f wq l hl hun hdn hS hd K' HK=>?_) ?_
            ·clear hd;obtain⟨r0,r1,r2,r3,r4,_⟩:=cells5 (blk_below hS HH10.o);have HSS:=Jh hS;clear hS;go_simp;exact HK.o _ _ _ rfl rfl HSS.o (rr _)
            refine sD 5 2 aT5 [3,4] (fun f wq l hl hun hdn hS hd K' HK=>?_) ?_
            ·obtain⟨e3,e4,-⟩:=hd;have e3:f 3=_:=e3;have e4:f 4=_:=e4;have HCz:=Jh (same43_any n (.agg #[p1,p2,p3,p4,p5]) y (.agg #[.slice x1 j1 f1,.slice x2 j2 f2,.slice x3 j3 f3,.slice x4 j4 f4,.slice x5 j5 f5]) s' wq (HIk.o.sees (Below.sees hS)) (HIs.o.sees (Below.sees hS)) (by omega));have HSS:=Jh hS;clear hS;simp only[e3,e4];go_simp;go_wp2_with fail;refine HCz.o.mono ?_
             rintro e w9 ⟨⟨b,rfl,hbr⟩,hb9⟩;obtain rfl:b=bq:=Bool.eq_iff_iff.2 (hbr.trans HBq.o.symm);exact HK.o _ _ _ (by simp only[e3,e4];rfl) rfl (bT HSS.o hb9) hb9
            refine sD 6 1 aT6 [5] (fun f wq l hl hun hdn hS hd K' HK=>?_) ?_
            ·obtain⟨e5,-⟩:=hd;have e5:f 5=_:=e5;have HSS:=Jh hS;clear hS;simp only[e5];go_simp;exact HK.o _ _ _ (by simp only[e5];rfl) rfl HSS.o (rr _)
            refine sD 7 0 aT7 [6] (fun f wq l hl hun hdn hS hd K' HK=>?_) ?_
            ·obtain⟨e6,-⟩:=hd;have e6:f 6=_:=e6;have HSS:=Jh hS;clear hS;simp only[e6];go_simp;exact HK.o _ _ _ (by simp only[e6];rfl) rfl HSS.o (rr _)
            exact trivial
           case fin=>
            intro fo wy lo hl hall hS;have a7:fo 7=_:=hall 7 (by decide);clear hall;simp only[a7];have HBy:=Jh hS;clear a7 rr hl hS;obtain⟨Wn,rfl⟩:=exE wy;have HQn:=Jh (show(!bq)=true↔(o.isSome=true/\∀j y,i+1<=j->j<k+1->L2[j]?=some y->o≠some y) from by
             have h1:=HQQ.o.1 rfl;constructor
             ·intro hb;refine⟨h1.1,fun j x h2 h3 h4=>?_⟩;rcases Nat.lt_or_ge j k with h5|h5
              ·exact h1.2 j x h2 h5 h4
              obtain rfl:j=k:=by omega
              intro h6;rw[HY.o] at h4;rw[HOs.o] at h6;have h7:bq=true:=HBq.o.2 ((Option.some.inj h4).trans (Option.some.inj h6).symm);rw[h7] at hb;cases hb
             rintro⟨_,h2⟩;cases hbb:bq with
             |false=>rfl
             |true=>exact absurd (by rw[HOs.o,HBq.o.1 hbb]) (h2 k y hk1 (Nat.lt_succ_self k) HY.o))
            go_wp2_with fail;go_roundw;case rel=>exact⟨k+1,!bq,by omega,by omega,by go_num,rfl,HQn.o,bT HBb.o HBy.o⟩
            case measure=>simp[intOf];omega
          have hkb:decide ((k:Int)<(m2:Int))=false:=by simp;omega
          have hkb2:decide (k<m2)=false:=by simpa using hlk
          obtain⟨s',hs',hnew⟩:=stepS_yes HOe.o (by have:=HM2.o;omega) (HQQ.o.1 rfl);have HIs:=Jh (HSt9.o s' hs');have HNew:=Jh hnew;clear hs' hnew;go_upto_region 24 with fail
          obtain⟨h0,h1,h2,h3,h4,_⟩:=cells5 HH10.o;have HNw:=Jh (heap_alloc_new wn (.cells #[.slice x1 j1 f1,.slice x2 j2 f2,.slice x3 j3 f3,.slice x4 j4 f4,.slice x5 j5 f5] 62));have kA:Below wn.heap.size wn (wn.alloc (.cells #[.slice x1 j1 f1,.slice x2 j2 f2,.slice x3 j3 f3,.slice x4 j4 f4,.slice x5 j5 f5] 62)):=bA (bR wn);have HOl:=Jh (own_tk (T:=[]) HO3.o (Tk.below kA) (by decide))
          have HBl:=Jh (bT HB2k.o (bT HBN.o kA));have HSl:=Jh (HS3.o.below kA);have HIl:=Jh (HIs.o.sees (Below.sees kA));have HSSl:=Jh (HSS2.o.below (bT HBN.o kA));clear kA;go_wp2_with (
           at_builtin
           refine wpList_append_rd _ rfl (.tmp 92) (.tmp 94) 85 rfl w.heap.size 62 i0 _ 5 120 Tryz.underlying85 hi0 hz0 hz1 hz2 rfl (by decide) (.slice (some ⟨g2,0,none⟩) m2 k2) m2 cs2 rfl HOl.o (some ⟨wn.heap.size,0,none⟩) 1 1 [.slice x1 j1 f1,.slice x2 j2 f2,.slice x3 j3 f3,.slice x4 j4 f4,.slice x5 j5 f5] rfl ⟨rfl,fun _=>⟨wn.heap.size,0,rfl,blk_lt HNw.o,fun j u hu=>five_cell HNw.o hu⟩⟩ (by simp[Value.oneCell']) (by unfold maxLen;omega) (by omega) HBl.o.size ?_
           intro v9 w9 hown9 hg9;obtain⟨A9,c9,rfl,_,_⟩:=own_slice hown9;have HO9:=Jh hown9;have HB9:=Jh (HBl.o.grown hg9 HBl.o.size (fun r e=>(HOl.o.lt r e).1));have htk:=tk_grown HOl.o hg9;have HS9:=Jh (Sts.snoc (HSl.o.tk htk (by decide) (by decide) (by decide) (by decide)) (HIl.o.tk htk (by decide) (by decide) (by decide) (by decide)));have HSS9:=Jh (HSSl.o.tk htk (by decide) (by decide))
           clear hown9 hg9 htk h0 h1 h2 h3 h4)
          go_roundw;case rel=>exact⟨cc+1,m2+1,wz+1,L2++[s'],_,by have:=HWz.o;omega,by have:=HWz.o;omega,by go_num,by rw[HStep.o,HNew.o],by rw[List.length_append,<-HM2.o];rfl,HO9.o,HS9.o,HSS9.o,HB9.o⟩
          case measure=>simp[intOf];omega
       have hwb:decide (wz<(np':Int))=false:=by simpa using hlw
       have HFin:=Jh (show L2=expL l s i (candK s (h+1)) L from by rw[HL2.o,candK_succ,List.take_of_length_le (by rw[HCl.o,<-HNp.o];have:=HWz.o;omega)]);go_wp2_with fail;go_roundw;case rel=>exact⟨h+1,m2,L2,cs2,by omega,by go_num,HFin.o,HM2.o,HO2.o,HS2.o,HSS2.o,HB2k.o⟩
       case measure=>simp[intOf];omega
     have hhb:decide ((h:Int)<4)=false:=by simp;omega
     obtain rfl:h=4:=by omega
     go_wp2_with fail;go_roundw;case rel=>exact⟨i+1,m',L',cs',by go_num,HM'.out,by rw[HL'.out];exact HI1.o,HO'.out,HS'.out,by rw[HL'.out,HT1.o];exact HSS'.out,HB'.out⟩
     case measure=>simp[intOf];omega
  have hlb:decide ((i:Int)<(m:Int))=false:=by simp;omega
  have hlb2:decide (i<m)=false:=by simpa using hlt
  have HF:=Jh (show L.take i=L/\i=L.length from⟨by rw[List.take_of_length_le (by have:=HM.o;omega)],by have:=HM.o;omega⟩);go_wp2_with fail;go_ret;refine⟨⟨_,outsP l L,rfl,by have h:=HSS.o;rwa[HF.o.1] at h,(outsP_is l L.length L rfl).1,fun z=>?_⟩,HBW.o⟩;have h:=HI.o;rw[HF.o.2] at h;exact h.last HP.o z
end Go.Proofs.YtnigadeohmlpiaaGreatDoor
