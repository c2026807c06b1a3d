/- A contract: an explorer goes on from a state. Its condition: that the events are a program. -/
import Derived.Test.YtnigadeohmlpiaaGreatDoorC22
import Derived.Test.YtnigadeohmlpiaaGreatDoorC23
import Derived.Maps.OwnOps
import Derived.OwnWalkIn
set_option maxHeartbeats 32000000
set_option maxRecDepth 100000
namespace Go.Proofs.YtnigadeohmlpiaaGreatDoor
open Go.RowKit
attribute [local go_sem] Oper.semAt_some
theorem keyB_len{n:Nat}{s:St}(hs:s.Ok n)(hn:n<=6):(keyB s).length<=1632:=by
 have h1:=flatMap_len doneB 22 (s.done.zip s.told) (fun x hx=>doneB_len (hs.i x.2 (List.of_mem_zip hx).2));have h2:=flatMap_len numB 22 s.m.words (fun x hx=>numB_len (hs.m.nw x hx));have h3:=flatMap_len pendB 353 s.m.pend (fun p hp=>pendB_len hs.m hp);have e1:=hs.d;have e2:=hs.m.lw;have e3:=hs.m.lp;have e4:(s.done.zip s.told).length<=6:=by rw[List.length_zip];omega
 unfold keyB;rw[List.length_append,List.length_append];omega
theorem outcome_len{l:List Ev}{s:St}{z:List Int}(h:s.outcome l=some z):z.length<=l.length:=by
 unfold St.outcome at h;split at h
 ·injection h with h
  subst h;refine Nat.le_trans (List.length_filterMap_le _ _) ?_;rw[List.length_zip];exact Nat.min_le_left _ _
 cases h
def stopW(hw:Bool)(want z:List Int):Bool:=hw&&decide (z=want)
theorem dfs_seen{l:List Ev}{stop:List Int->Bool}{f:Nat}{s:St}{x:XS}(h:keyB s∈x.S):dfs l stop (f+1) s x=(false,x):=by rw[dfs,if_pos h]
theorem dfs_out{l:List Ev}{stop:List Int->Bool}{f:Nat}{s:St}{x:XS}{z:List Int}(h:keyB s∉x.S)(ho:s.outcome l=some z):dfs l stop (f+1) s x=(stop z,⟨keyB s::x.S,x.F++[z],x.P⟩):=by rw[dfs,if_neg h,ho]
theorem dfs_go{l:List Ev}{stop:List Int->Bool}{f:Nat}{s:St}{x:XS}(h:keyB s∉x.S)(ho:s.outcome l=none):dfs l stop (f+1) s x=(mayK l s (candK s 4)).foldl (stepX (dfs l stop f) l s) (false,⟨keyB s::x.S,x.F,x.P⟩):=by rw[dfs,if_neg h,ho]
theorem cells6{w:World}{b:Nat}{x y z u v q:Value}{t:TypeId}{fz:Nat×Nat}(h:w.heap[b]?=some (.cells #[x,y,z,u,v,q] t fz)):
  w.cell? ⟨b,0,none⟩=some x/\w.cell? ⟨b,1,none⟩=some y/\w.cell? ⟨b,2,none⟩=some z/\w.cell? ⟨b,3,none⟩=some u/\w.cell? ⟨b,4,none⟩=some v/\w.cell? ⟨b,5,none⟩=some q:=
 ⟨by rw[cell_of_row w b 0 _ _ _ h];rfl,by rw[cell_of_row w b 1 _ _ _ h];rfl,by rw[cell_of_row w b 2 _ _ _ h];rfl,by rw[cell_of_row w b 3 _ _ _ h];rfl,by rw[cell_of_row w b 4 _ _ _ h];rfl,by rw[cell_of_row w b 5 _ _ _ h];rfl⟩
theorem ret_bool4{fn:Func}{tmps:Array Value}{w:World}{b:Nat}{q:Bool}{fz:Nat×Nat}(hfn:fn.results=#[.cell 4 4])(hp:tmps.getD 4 undef=.pointer (some ⟨b,0,none⟩))
  (h:w.heap[b]?=some (.cells #[.bool q] 4 fz)):(results fn tmps).run Tryz.prog w=.ok (.bool q) w:=by
 rw[results_cell1 hfn,hp];have h0:w.cell? ⟨b,0,none⟩=some (.bool q):=by rw[cell_of_row w b _ _ _ _ h];rfl
 simp[go_sem,h0]
theorem OutIs.below{base:Nat}{o:Option (List Int)}{e:Ending}{w w':World}(h:OutIs base o e w)(hb:Below w.heap.size w w'):OutIs base o e w':=by
 cases o with
 |none=>exact h
 |some z=>obtain⟨A,c,h1,h2,h3⟩:=h;exact⟨A,c,h1,own_tk (T:=[]) h2 (Tk.below hb) (by simp),h3⟩
theorem OutIs.form{base:Nat}{o:Option (List Int)}{e:Ending}{w:World}(h:OutIs base o e w):∃A m c,e=.returned (.tuple #[.slice A m c,.bool o.isSome]):=by
 cases o with
 |none=>exact⟨none,0,0,h⟩
 |some z=>obtain⟨A,c,h1,_⟩:=h;exact⟨A,z.length,c,h1⟩
theorem Tk.map{w w':World}{bm:Nat}{es:Array MapEntry}{ck:Nat}(h:w.grownBy w' (some bm))(hm:w.heap[bm]?=some (.map es ck)):Tk [] w w':=
 ⟨h.size,fun k cur e fz _ hk=>cells_grown hk h (fun r e=>by cases e;exact⟨_,hm,rfl⟩)⟩
theorem Xp.map{px bm:Nat}{w w':World}{es:Array MapEntry}{ck:Nat}(h:w.grownBy w' (some bm))(hm:w.heap[bm]?=some (.map es ck)):Xp px bm w w':=
 ⟨h.os,h.tape,h.output,Kp.of_same h.size (fun k cur e fz hk=>(Tk.map h hm).2 k cur e fz (by simp) hk),h.size,fun k o hk _ hb=>(h.block k (blk_lt hk) (fun e=>hb (by injection e))).trans hk⟩
theorem IsSeen.put{bm:Nat}{S:List (List UInt8)}{w:World}{k:List UInt8}(h:IsSeen bm S w)(hk:k.length<=1000000)(hn:S.length<=10000000000000):
  ∃w',(Instr.mapUpdate 80 (.map (some bm)) (.string ⟨k.toArray⟩) (.int .i64 1)).run Tryz.prog w=.ok () w'/\IsSeen bm (k::S) w'/\w.grownBy w' (some bm):=by
 obtain⟨D,h1,h2⟩:=h;obtain⟨w',hrun,ho,hg⟩:=h1.update law9s Tryz.underlying80 (by unfold maxLen;omega) (key9 k hk) (plainElem_int Tryz.underlying3 (a:=1) (q:=.i64) (by decide));refine⟨w',hrun,⟨_,ho,fun k'=>?_⟩,hg⟩;by_cases e:k'=k
 ·subst e;rw[Maps.atKey_put_same h1.isMap (by trivial),if_pos List.mem_cons_self]
 rw[Maps.atKey_put_other (fun h=>e (by injection h)),h2 k'];by_cases hm:k'∈S
 ·rw[if_pos hm,if_pos (List.mem_cons_of_mem _ hm)]
 rw[if_neg hm,if_neg (fun h=>(List.mem_cons.1 h).elim e hm)]
theorem IsSeen.look{bm:Nat}{S:List (List UInt8)}{w:World}{k:List UInt8}(h:IsSeen bm S w)(hk:k.length<=1000000):
  (Instr.lookup 80 (.map (some bm)) (.string ⟨k.toArray⟩) false).run Tryz.prog w=.ok (.int .i64 (if k∈S then 1 else 0)) w:=by
 obtain⟨D,h1,h2⟩:=h;obtain⟨c,hrun,hat,_⟩:=h1.lookup_int law9s Tryz.underlying80 Tryz.underlying3 (q:=.i64) (by rfl) (key9 k hk);rw[h2 k] at hat;injection hat with hat
 injection hat with _ hat
 rw[hat];exact hrun
theorem wpIn_append_who{F:Fence}{nF:Nat}{P:Program}(w:World){o:Oper}{a:Act}{K:Act->World->Prop}{Q:Exit->Act->World->Prop}(s x:Operand)(t:TypeId)(ho:o.op=.call {callee:=.builtin .append,args:=#[s,x],argTypes:=#[t,t]})
  (base:Nat) (e:TypeId) (i:TypeInfo) (z:Value) (size bytes:Nat) (ht:P.underlying t=some (.slice e)) (hi:P.info? e=some i) (hz:i.zero=some z)
  (hsize:i.size=size) (hby:i.bytes=bytes) (hzs:z.cells.size=size) (hsz:0<size) (v:Value) (n:Nat) (xs:List Value) (hs:a.eval s=v) (hown:w.ownsRow base e size v n xs)
  (ad:Addr) (m c:Nat) (news:List Value) (hx:a.eval x=.slice (some ad) m c) (hl:news.length=m*size) (hnews:∀j u,news[j]?=some u->w.cell? (ad.add j)=some u) (h1:∀u∈news,u.oneCell'=true)
  (h63:n+m<=maxLen) (hbytes:(n+m)*bytes<=140737488355328) (hbase:base<=w.heap.size)
  (h:∀v' w',w'.ownsRow base e size v' (n+m) (xs++news)->w.grownBy w' v.ownBlock->(v'.ownBlock=v.ownBlock\/∃g,v'.ownBlock=some g/\w.heap.size<=g)->K (a.put o.dst v') w'):o.wpIn F nF P a w K Q:=by
 obtain⟨v',w',hrun,h2,h3,h4⟩:=run_append_who (P:=P) w base t o.type e i z size bytes ht hi hz hsize hby hzs hsz v n xs hown ad m c news hl hnews h1 h63 hbytes hbase;unfold Oper.wpIn;refine⟨?_,?_⟩
 ·simp[Oper.about,ho,resolve,Target.leads,Sem.run_pure]
 rw[Oper.semAt_plain F _ _ (by rw[ho];intro c hc';cases hc')];simp[execOp,ho,resolve,invoke,builtin,hs,hx,hrun,Result.andThen];exact h v' w' h2 h3 h4
theorem pkCells_len(xs:List Pk):(pkCells xs).length=xs.length*3:=by
 induction xs with
 |nil=>rfl
 |cons x xs ih=>have:pkCells (x::xs)=[.int .i64 x.h,.bool x.d,.int .i64 x.w]++pkCells xs:=rfl;rw[this,List.length_append,ih,List.length_cons];simp;omega
theorem PxAt.from_{px:Nat}{W W':World}{fb pb row:Option Nat}(h:PxAt px W fb pb)(hg:W.grownBy W' row)(hr:∀r,row=some r->∃o:Obj,W.heap[r]?=some o/\o.isCells=false):PxAt px W' fb pb:=by
 obtain⟨x0,x1,vF,x3,x4,vP,h1,h2,h3,h4,h5⟩:=h;exact⟨x0,x1,vF,x3,x4,vP,cells_grown h1 hg hr,h2,h3,fun g e=>(h4 g e).imp fun c h=>h.imp fun f h=>cells_grown h hg hr,fun g e=>(h5 g e).imp fun c h=>h.imp fun f h=>cells_grown h hg hr⟩
theorem explore_any(px bm n c:Nat)(A B:Option Addr)(m d:Nat)(want:List Int)(hw:Bool)(l:List Ev)(hl:Prog l)(hln:l.length=n):∀(f:Nat) (s:St) (v:Value) (x:XS) (w:World),s.meas<=f->f<=12->
  IsEvs w A n c l->IsSt w v n s->IsX px bm A n c B m d want hw x w->Glob w->x.S.length+callsX f<=5000000000000->x.P.length+f<=1000->
  Calls Tryz.prog 40 #[.pointer (some ⟨px,0,none⟩),v] w fun e w'=>e=.returned (.bool (dfs l (stopW hw want) (f+1) s x).1)/\IsX px bm A n c B m d want hw (dfs l (stopW hw want) (f+1) s x).2 w'/\Xp px bm w w':=by
 have hn6:n<=6:=hln▸hl.few;have HL:=Jh hln;have HPr:=Jh hl;clear hln hl;intro f;induction f using Nat.strongRecOn with
 |_ f ih=>
 intro s v x w hms hf he hst hx hG hcs hps;have HIH:=Jh ih;clear ih;obtain⟨A1,c1,A2,c2,A3,c3,AD,cD,AT,cT,rfl⟩:=hst.form;obtain⟨W1,hW1⟩:=exE (w.alloc (.cells #[.pointer (some ⟨px,0,none⟩)] 79));obtain⟨W2,hW2⟩:=exE (W1.alloc (.cells #[.slice A1 4 c1,.slice A2 4 c2,.slice A3 4 c3,.slice AD n cD,.slice AT n cT] 70));obtain⟨W,hW⟩:=exE (W2.alloc (.cells #[.bool false] 4))
 obtain⟨b2,hb2⟩:=exE (w.heap.size);obtain⟨b3,hb3⟩:=exE (b2+1);obtain⟨b4,hb4⟩:=exE (b3+1);have s1:W1.heap.size=b2+1:=by rw[hW1,World.size_alloc,hb2]
 have s2:W2.heap.size=b2+1+1:=by rw[hW2,World.size_alloc,s1]
 have k2:Below W2.heap.size W2 W:=hW▸bA (bR W2);have k1:Below W1.heap.size W1 W:=bT (hW2▸bA (bR W1)) k2;have k0:Below w.heap.size w W:=bT (hW1▸bA (bR w)) k1;have h2:W.heap[b2]?=some (.cells #[.pointer (some ⟨px,0,none⟩)] 79):=blk_below k1 (by rw[hW1,hb2];exact heap_alloc_new w _)
 have h3:W.heap[b3]?=some (.cells #[.slice A1 4 c1,.slice A2 4 c2,.slice A3 4 c3,.slice AD n cD,.slice AT n cT] 70):=blk_below k2 (by rw[hW2,hb3,<-s1];exact heap_alloc_new W1 _);have h4:W.heap[b4]?=some (.cells #[.bool false] 4):=by rw[hW,hb4,hb3,<-s2];exact heap_alloc_new W2 _
 have hWW:W=((w.alloc (.cells #[.pointer (some ⟨px,0,none⟩)] 79)).alloc (.cells #[.slice A1 4 c1,.slice A2 4 c2,.slice A3 4 c3,.slice AD n cD,.slice AT n cT] 70)).alloc (.cells #[.bool false] 4):=by rw[hW,hW2,hW1]
 have HB:=Jh k0;have H2:=Jh h2;have H3:=Jh h3;have H4:=Jh h4;have HE:=Jh (he.sees (Below.sees k0));have HS:=Jh (hst.sees (Below.sees k0));have HX0:=Jh hx;have HX:=Jh (hx.below k0);have HG:=Jh (hG.below k0);have HN:=Jh (show w.heap.size=b2/\b3=b2+1/\b4=b3+1 from⟨hb2.symm,hb3,hb4⟩);have HM:=Jh (And.intro hms hf);have HC:=Jh (And.intro hcs hps)
 clear s1 s2 k0 k1 k2 h2 h3 h4 hW hW1 hW2 he hst hx hG hms hf hcs hps;have HKl:=Jh (keyB_len HS.o.ok hn6);refine(callsIn_wide (n:=3)).1 ?_;refine callsIn_of_wp_marks Tryz.func40 rfl trivial ?_ rfl
 simp only[Tryz.ntmps40,List.size_toArray,List.length_cons,List.length_nil,Nat.reduceAdd,Nat.reduceSub,Array.replicate_succ,Array.replicate_zero,List.push_toArray,List.append_toArray,List.nil_append,List.cons_append];refine wpIn_wide.2 ?_;go_upto_region 1 with fail
 rw[<-hb2,<-hb3,<-hb4,<-hWW];clear hb2 hb3 hb4 hWW;obtain⟨y0,y1,y2,y3,y4,_⟩:=cells5 H3.o;go_wp2_with fail;refine(key_any _ n s W hn6 HS.o HG.o).mono ?_;rintro e w1 ⟨rfl,hb1⟩;clear y0 y1 y2 y3 y4;have HB1:=Jh hb1;obtain⟨ky,hky⟩:=exE (keyB s);rw[<-hky];rw[<-hky] at HKl;have HKy:=Jh hky;obtain⟨vF,vP,hbox,hSS,hOP⟩:=(HX.o.below hb1).box;have HBox:=Jh hbox;have HSn:=Jh (HX.o.below hb1).seen
 have HSS:=Jh hSS;have HOP:=Jh hOP;clear hb1 hky hbox hSS hOP;have hlook:=HSn.o.look (k:=ky) (by have:=HKl.o;omega);obtain⟨p0,_⟩:=cell1 (blk_below HB1.o H2.o);obtain⟨q0,q1,_⟩:=cells6 HBox.o;by_cases hin:ky∈x.S
 ·rw[if_pos hin] at hlook;have HD:=Jh (dfs_seen (l:=l) (stop:=stopW hw want) (f:=f) (HKy.o▸hin));obtain⟨z0,z1⟩:=cell1 (blk_below HB1.o H4.o);have H41:=Jh (blk_below HB1.o H4.o);have HB01:=Jh (bT HB.o HB1.o);clear hin;go_wp2_with fail;have HBe:=Jh (bS (u:=.bool false) (p:=⟨b4,0,none⟩) HB01.o (show w.heap.size<=b4 by have:=HN.o;omega))
  refine⟨_,ret_bool4 rfl rfl (set_same H41.o _),by rw[HD.o],by rw[HD.o];exact HX0.o.below HBe.o,Xp.below HBe.o⟩
 rw[if_neg hin] at hlook;obtain⟨wB,hrun,hsn,hg2⟩:=HSn.o.put (k:=ky) (by have:=HKl.o;omega) (by have:=HC.o.1;have:=Nat.zero_le (callsX f);omega);obtain⟨es,ck,hmp⟩:=HSn.o.at_;have k12:Xp px bm w1 wB:=Xp.map hg2 hmp;have t12:Tk [] w1 wB:=Tk.map hg2 hmp;have t02:Tk [] W wB:=tk_trans (Tk.below HB1.o) t12;have H2:=Jh (t02.2 _ _ _ _ (by simp) H2.o);have H3:=Jh (t02.2 _ _ _ _ (by simp) H3.o)
 have H4:=Jh (t02.2 _ _ _ _ (by simp) H4.o);have HX2:=Jh (show IsX px bm A n c B m d want hw ⟨ky::x.S,x.F,x.P⟩ wB from by have h1:=HX0.o.below (bT HB.o HB1.o);obtain⟨cs,k1,k2⟩:=HSS.o;exact⟨⟨vF,vP,t12.2 _ _ _ _ (by simp) HBox.o,⟨cs,own_tk k1 t12 (by simp),k2.tk t12 (by simp)⟩,own_tk HOP.o t12 (by simp)⟩,hsn,h1.want.tk t12 (by simp),Nat.le_trans h1.fs (by simp),h1.nz⟩)
 have HE:=Jh (HE.o.sees (Tk.sees t02));have HS:=Jh (HS.o.sees (Tk.sees t02));have HXp:=Jh ((Xp.below (px:=px) (bm:=bm) (bT HB.o HB1.o)).trans k12);have HG2:=Jh ((HG.o.below HB1.o).xp (HX.o.below HB1.o) k12);have HIn:=Jh hin;clear hsn hg2 hmp k12 t12 t02 HX HBox HSn HSS HOP HB HB1 HG hin es ck;go_upto_region 5 with fail
 clear hrun hlook p0 q0 q1;obtain⟨vF,vP,hbox,hSS,hOP⟩:=HX2.o.box;have HBox:=Jh hbox;have HSS:=Jh hSS;have HOP:=Jh hOP;clear hbox hSS hOP;obtain⟨o9,ho9⟩:=exE (s.outcome l);have HOut:=Jh (fun(wx:World) (hb:Below wB.heap.size wB wx)=>outcome_any A n c l _ s wx hn6 (HE.o.sees (Below.sees hb)) (HS.o.sees (Below.sees hb)))
 have HOut:=Jh (fun(wx:World) (hb:Below wB.heap.size wB wx)=>(HOut.o wx hb).mono (fun(e:Ending) (w9:World) h=>(⟨(show OutIs wB.heap.size o9 e w9 from ho9▸h.1.low hb.size),h.2⟩:OutIs wB.heap.size o9 e w9/\Below wx.heap.size wx w9)));have HO9:=Jh ho9;clear ho9;have hq:∀(k:Nat) (l:Nat->Bool) (wx:World),(Below wB.heap.size wB wx)->(Below wB.heap.size wB wx):=fun _ _ _ h=>h
 have rr:∀(wx:World),Below wx.heap.size wx wx:=fun wx=>bR wx
 refine wp_region_det (by kernel_rfl) (fun f=>(⟨#[Value.pointer (some ⟨px,0,none⟩),Value.agg #[Value.slice A1 4 c1,Value.slice A2 4 c2,Value.slice A3 4 c3,Value.slice AD n cD,Value.slice AT n cT],Value.pointer (some ⟨b2,0,none⟩),Value.pointer (some ⟨b3,0,none⟩),Value.pointer (some ⟨b4,0,none⟩),Value.string {data:=ky.toArray},f 9,f 10,undef,undef,Value.agg #[Value.slice A1 4 c1,Value.slice A2 4 c2,Value.slice A3 4 c3,Value.slice AD n cD,Value.slice AT n cT],Value.string {data:=ky.toArray},Value.pointer (some ⟨px,0,none⟩),Value.pointer (some ⟨px,0,none⟩),Value.pointer (some ⟨px,1,none⟩),Value.map (some bm),Value.string {data:=ky.toArray},.int .i64 0,Value.bool false,Value.pointer (some ⟨px,0,none⟩),Value.pointer (some ⟨px,0,none⟩),Value.pointer (some ⟨px,1,none⟩),Value.map (some bm),Value.string {data:=ky.toArray},f 6,f 0,f 1,f 2,f 3,f 4,f 5,f 7,f 8,undef,undef,undef,undef,undef,undef,undef,undef,undef,undef,undef,undef,undef,undef,undef,undef,undef,undef,undef,undef,undef,undef,undef,undef,undef,undef,undef,undef,undef,undef,undef,undef,undef,undef,undef,undef,undef,undef,undef,undef,undef,undef,undef,undef,undef,undef,undef,undef,undef,undef,undef,undef,undef,undef,undef,undef,undef,undef],[]⟩:Act)) (fun(iv:Nat) (lv:Nat->Bool) (fv:Nat->Value) (wx:World)=>match iv with|0=>fv 0=.pointer (some ⟨px,0,none⟩)|1=>fv 1=.pointer (some ⟨px,0,none⟩)|2=>fv 2=.pointer (some ⟨px,0,none⟩)|3=>fv 3=.agg #[.slice A n c]|4=>fv 4=.agg #[.slice A1 4 c1,.slice A2 4 c2,.slice A3 4 c3,.slice AD n cD,.slice AT n cT]|5=>OutIs wB.heap.size o9 (.returned (fv 5)) wx|6=>OutIs wB.heap.size o9 (.returned (fv 6)) wx|7=>∃t9,OutIs wB.heap.size o9 (.returned (.tuple #[(fv 7),t9])) wx|8=>fv 8=.bool o9.isSome|9=>∃t9,OutIs wB.heap.size o9 (.returned (.tuple #[(fv 9),t9])) wx|10=>fv 10=.bool o9.isSome|_=>True) (fun _ wx=>Below wB.heap.size wB wx) (fun _ w1 w2=>Below w1.heap.size w1 w2) (by kernel_rfl) (fun k=>match k with|_=>undef) rfl ?keep (bD (bR wB)) ?steps ?fin
 case keep=>
  intro iv j hij hd l f f' w1 w2 hf hR
  match j with
  |0|1|2|3|4|8|10=>exact fun h=>(hf _ (Ne.symm hij)).trans h
  |5=>intro h;have h:OutIs wB.heap.size o9 (.returned (f 5)) w1:=h;show OutIs wB.heap.size o9 (.returned (f' 5)) w2;rw[hf 5 (Ne.symm hij)];exact h.below hR
  |6=>intro h;have h:OutIs wB.heap.size o9 (.returned (f 6)) w1:=h;show OutIs wB.heap.size o9 (.returned (f' 6)) w2;rw[hf 6 (Ne.symm hij)];exact h.below hR
  |7=>intro h;have h:∃t9,OutIs wB.heap.size o9 (.returned (.tuple #[(f 7),t9])) w1:=h;show∃t9,OutIs wB.heap.size o9 (.returned (.tuple #[(f' 7),t9])) w2;rw[hf 7 (Ne.symm hij)];exact h.imp fun _ h=>h.below hR
  |9=>intro h;have h:∃t9,OutIs wB.heap.size o9 (.returned (.tuple #[(f 9),t9])) w1:=h;show∃t9,OutIs wB.heap.size o9 (.returned (.tuple #[(f' 9),t9])) w2;rw[hf 9 (Ne.symm hij)];exact h.imp fun _ h=>h.below hR
  |_+11=>exact id
 case steps=>
  refine fun iv hiv=>stepsOf_at (k:=0) (n:=11) ?_ iv (Nat.zero_le _) (by rw[Nat.zero_add];exact hiv);refine sD 0 10 aT0 [] (fun f wq l hl hun hdn hS hd K' HK=>?_) ?_
  ·clear hd;have z0:=(cell1 (blk_below hS H2.o)).1;go_simp;exact HK.o _ _ _ rfl rfl hS (rr _)
  refine sD 1 9 aT1 [0] (fun f wq l hl hun hdn hS hd K' HK=>?_) ?_
  ·obtain⟨e0,-⟩:=hd;have e0:f 0=_:=e0;simp only[e0];go_simp;exact HK.o _ _ _ (by simp only[e0];rfl) rfl (hq 1 l _ hS) (rr _)
  refine sD 2 8 aT2 [1] (fun f wq l hl hun hdn hS hd K' HK=>?_) ?_
  ·obtain⟨e1,-⟩:=hd;have e1:f 1=_:=e1;simp only[e1];go_simp;exact HK.o _ _ _ (by simp only[e1];rfl) rfl (hq 2 l _ hS) (rr _)
  refine sD 3 7 aT3 [2] (fun f wq l hl hun hdn hS hd K' HK=>?_) ?_
  ·obtain⟨e2,-⟩:=hd;have e2:f 2=_:=e2;obtain⟨r0,_⟩:=cells6 (blk_below hS HBox.o);simp only[e2];go_simp;exact HK.o _ _ _ (by simp only[e2];rfl) rfl hS (rr _)
  refine sD 4 6 aT4 [] (fun f wq l hl hun hdn hS hd K' HK=>?_) ?_
  ·clear hd;obtain⟨s0,s1,s2,s3,s4,_⟩:=cells5 (blk_below hS H3.o);go_simp;exact HK.o _ _ _ rfl rfl hS (rr _)
  refine sD 5 5 aT5 [3,4] (fun f wq l hl hun hdn hS hd K' HK=>?_) ?_
  ·obtain⟨e3,e4,-⟩:=hd;have e3:f 3=_:=e3;have e4:f 4=_:=e4;have HCl:=Jh (HOut.o wq hS);have HSS:=Jh hS;clear hS;simp only[e3,e4];go_simp;go_wp2_with fail;refine HCl.o.mono ?_;rintro e w9 ⟨ho,hb9⟩;obtain⟨A9,m9,c9,rfl⟩:=ho.form;exact HK.o _ _ _ (by simp only[e3,e4];rfl) ho (bT HSS.o hb9) hb9
  refine sD 6 4 aT6 [5] (fun f wq l hl hun hdn hS hd K' HK=>?_) ?_
  ·obtain⟨e5,-⟩:=hd;have e5:OutIs wB.heap.size o9 (.returned (f 5)) wq:=e5;go_simp;exact HK.o (f 5) _ _ rfl e5 hS (rr _)
  refine sD 7 3 aT7 [6] (fun f wq l hl hun hdn hS hd K' HK=>?_) ?_
  ·obtain⟨e6,-⟩:=hd;have e6:OutIs wB.heap.size o9 (.returned (f 6)) wq:=e6;obtain⟨A9,m9,c9,h9⟩:=e6.form;injection h9 with h9
   have e6:OutIs wB.heap.size o9 (.returned (.tuple #[.slice A9 m9 c9,.bool o9.isSome])) wq:=h9▸e6;have HE6:=Jh e6;clear e6;simp only[h9];go_simp;exact HK.o _ _ _ (by simp only[h9];rfl) ⟨_,HE6.o⟩ hS (rr _)
  refine sD 8 2 aT8 [6] (fun f wq l hl hun hdn hS hd K' HK=>?_) ?_
  ·obtain⟨e6,-⟩:=hd;have e6:OutIs wB.heap.size o9 (.returned (f 6)) wq:=e6;obtain⟨A9,m9,c9,h9⟩:=e6.form;injection h9 with h9
   clear e6;simp only[h9];go_simp;exact HK.o _ _ _ (by simp only[h9];rfl) rfl hS (rr _)
  refine sD 9 1 aT9 [5,6,7] (fun f wq l hl hun hdn hS hd K' HK=>?_) ?_
  ·obtain⟨e5,e6,e7,-⟩:=hd;have e5:OutIs wB.heap.size o9 (.returned (f 5)) wq:=e5;have e6:OutIs wB.heap.size o9 (.returned (f 6)) wq:=e6;have e7:∃t9,OutIs wB.heap.size o9 (.returned (.tuple #[(f 7),t9])) wq:=e7;clear e5 e6;have HE7:=Jh e7;clear e7;go_simp;exact HK.o (f 7) _ _ rfl HE7.o hS (rr _)
  refine sD 10 0 aT10 [5,6,7,8,9] (fun f wq l hl hun hdn hS hd K' HK=>?_) ?_
  ·obtain⟨e5,e6,e7,e8,e9,-⟩:=hd;have e5:OutIs wB.heap.size o9 (.returned (f 5)) wq:=e5;have e6:OutIs wB.heap.size o9 (.returned (f 6)) wq:=e6;have e7:∃t9,OutIs wB.heap.size o9 (.returned (.tuple #[(f 7),t9])) wq:=e7;have e8:f 8=_:=e8;have e9:∃t9,OutIs wB.heap.size o9 (.returned (.tuple #[(f 9),t9])) wq:=e9;clear e5 e6 e7 e9;simp only[e8];go_simp;exact HK.o _ _ _ (by simp only[e8];rfl) rfl hS (rr _)
  exact trivial
 case fin=>
  intro fo wz lo hl hall hS;have a0:fo 0=_:=hall 0 (by decide);have a1:fo 1=_:=hall 1 (by decide);have a2:fo 2=_:=hall 2 (by decide);have a3:fo 3=_:=hall 3 (by decide);have a4:fo 4=_:=hall 4 (by decide);have a5:OutIs wB.heap.size o9 (.returned (fo 5)) wz:=hall 5 (by decide);have a6:OutIs wB.heap.size o9 (.returned (fo 6)) wz:=hall 6 (by decide)
  have a7:∃t9,OutIs wB.heap.size o9 (.returned (.tuple #[(fo 7),t9])) wz:=hall 7 (by decide);have a8:fo 8=_:=hall 8 (by decide);have a9:∃t9,OutIs wB.heap.size o9 (.returned (.tuple #[(fo 9),t9])) wz:=hall 9 (by decide);have a10:fo 10=_:=hall 10 (by decide);clear hall;clear a0 a1 a2 a3 a4 a5 a6 a7 a8 hq rr hl;obtain⟨wC,rfl⟩:=exE wz;have H2C:=Jh (blk_below hS H2.o);have H3C:=Jh (blk_below hS H3.o)
  have H4C:=Jh (blk_below hS H4.o);have HEC:=Jh (HE.o.sees (Below.sees hS));have HSC:=Jh (HS.o.sees (Below.sees hS));have HXC:=Jh (HX2.o.below hS);have HGC:=Jh (HG2.o.below hS);have HBoxC:=Jh (blk_below hS HBox.o);have HPC:=Jh (own_tk (T:=[]) HOP.o (Tk.below hS) (by simp));have HXpC:=Jh (HXp.o.trans (Xp.below hS));obtain⟨cs,hcs1,hcs2⟩:=HSS.o;have HFC:=Jh (own_tk (T:=[]) hcs1 (Tk.below hS) (by simp))
  have HCC:=Jh (hcs2.tk (T:=[]) (Tk.below hS) (by simp));have HLow:=Jh (show b4<wB.heap.size from blk_lt H4.o);clear hS hcs1 hcs2 HXp HX2 HG2 HE HS HBox HSS HOP H2 H3 H4 HOut;cases o9 with
  |some z=>
   obtain⟨t9,Az,cz,h9,hoz,hcz⟩:=a9;simp only[Ending.returned.injEq,Value.tuple.injEq,Array.mk.injEq,List.cons.injEq,and_true] at h9;obtain⟨h9,-⟩:=h9;have a10:fo 10=.bool true:=a10;simp only[h9,a10];have HZ:=Jh (Row.of_own hoz);have HD:=Jh (dfs_out (l:=l) (stop:=stopW hw want) (f:=f) (HKy.o▸HIn.o) HO9.o.symm);clear hoz h9 a10;go_upto_region 7 with fail
   have HFl:=Jh (show x.F.length<=5000000000000 from by have h1:=HX0.o.fs;have h2:=HC.o.1;have:=Nat.zero_le (callsX f);omega);have HB2:=Jh (show some b2≠vF.ownBlock/\b2≠px/\some px≠vF.ownBlock from⟨(fun e=>by
     obtain⟨_,cur,k9⟩:=own_block_at HFC.o e.symm;rw[H2C.o] at k9;cases k9),(fun e=>by
     have k9:=H2C.o;rw[e,HBoxC.o] at k9;cases k9),(fun e=>by
     obtain⟨_,cur,k9⟩:=own_block_at HFC.o e.symm;rw[HBoxC.o] at k9;cases k9)⟩)
   have hq:∀(k:Nat) (l:Nat->Bool) (wx:World),((l 7=false->Below wC.heap.size wC wx)/\wx.heap[b2]?=some (.cells #[.pointer (some ⟨px,0,none⟩)] 79))->(((decide (7=k)||l 7)=false->Below wC.heap.size wC wx)/\wx.heap[b2]?=some (.cells #[.pointer (some ⟨px,0,none⟩)] 79)):=fun k l wx h=>⟨fun g=>h.1 (Bool.or_eq_false_iff.1 g).2,h.2⟩
   have rr:∀{iv:Nat} (wx:World),(iv=10\/iv=7\/iv=6\/wx=wx):=fun _=>.inr (.inr (.inr rfl))
   refine wp_region_det (by kernel_rfl) (fun f=>(⟨#[Value.pointer (some ⟨px,0,none⟩),Value.agg #[Value.slice A1 4 c1,Value.slice A2 4 c2,Value.slice A3 4 c3,Value.slice AD n cD,Value.slice AT n cT],Value.pointer (some ⟨b2,0,none⟩),Value.pointer (some ⟨b3,0,none⟩),Value.pointer (some ⟨b4,0,none⟩),Value.string {data:=ky.toArray},Value.slice Az z.length cz,Value.bool true,undef,undef,Value.agg #[Value.slice A1 4 c1,Value.slice A2 4 c2,Value.slice A3 4 c3,Value.slice AD n cD,Value.slice AT n cT],Value.string {data:=ky.toArray},Value.pointer (some ⟨px,0,none⟩),Value.pointer (some ⟨px,0,none⟩),Value.pointer (some ⟨px,1,none⟩),Value.map (some bm),Value.string {data:=ky.toArray},.int .i64 0,Value.bool false,Value.pointer (some ⟨px,0,none⟩),Value.pointer (some ⟨px,0,none⟩),Value.pointer (some ⟨px,1,none⟩),Value.map (some bm),Value.string {data:=ky.toArray},fo 6,fo 0,fo 1,fo 2,fo 3,fo 4,fo 5,fo 7,fo 8,Value.bool true,f 0,f 1,f 2,f 3,f 4,f 5,f 6,f 7,f 8,f 9,undef,undef,undef,undef,undef,undef,undef,undef,undef,undef,undef,undef,undef,undef,undef,undef,undef,undef,undef,undef,undef,undef,undef,undef,undef,undef,undef,undef,undef,undef,undef,undef,undef,undef,undef,undef,undef,undef,undef,undef,undef,undef,undef,undef,undef,undef,undef],[]⟩:Act)) (fun(iv:Nat) (lv:Nat->Bool) (fv:Nat->Value) (wx:World)=>match iv with|0=>fv 0=.pointer (some ⟨px,0,none⟩)|1=>fv 1=.pointer (some ⟨px,0,none⟩)|2=>fv 2=.pointer (some ⟨px,0,none⟩)|3=>fv 3=.pointer (some ⟨px,2,none⟩)|4=>fv 4=vF|5=>fv 5=.slice Az z.length cz|6=>∃b,(fv 6)=.slice (some ⟨b,0,none⟩) 1 1/\((lv 7)=false->(lv 10)=false->wx.heap[b]?=some (.cells #[.slice Az z.length cz] 32))|7=>((lv 10)=false->AppF wC 32 1 (x.F.length+1) (cs++[.slice Az z.length cz]) vF (fv 7) wx)|8=>fv 8=.pointer (some ⟨px,0,none⟩)|9=>fv 9=.pointer (some ⟨px,2,none⟩)|10=>∃v9 w9,AppF wC 32 1 (x.F.length+1) (cs++[.slice Az z.length cz]) vF v9 w9/\wx=w9.setCell ⟨px,2,none⟩ v9|_=>True) (fun(lv:Nat->Bool) (wx:World)=>(lv 7=false->Below wC.heap.size wC wx)/\wx.heap[b2]?=some (.cells #[.pointer (some ⟨px,0,none⟩)] 79)) (fun(iv:Nat) (w1:World) (w2:World)=>(iv=10\/iv=7\/iv=6\/w1=w2)) (by kernel_rfl) (fun k=>match k with|_=>undef) rfl ?keep ⟨fun _=>bD (bR wC),H2C.o⟩ ?steps ?fin
   case keep=>
    intro iv j hij hd l f f' w1 w2 hf hR
    match j with
    |0|1|2|3|4|5|8|9=>exact fun h=>(hf _ (Ne.symm hij)).trans h
    |6=>
     intro h;have h:∃b,(f 6)=.slice (some ⟨b,0,none⟩) 1 1/\((l 7)=false->(l 10)=false->w1.heap[b]?=some (.cells #[.slice Az z.length cz] 32)):=h;show∃b,(f' 6)=.slice (some ⟨b,0,none⟩) 1 1/\((decide (7=iv)||l 7)=false->(decide (10=iv)||l 10)=false->w2.heap[b]?=some (.cells #[.slice Az z.length cz] 32));rw[hf 6 (Ne.symm hij)]
     exact h.imp fun b h=>⟨h.1,fun g7 g10=>hR.elim (fun e=>absurd g10 (by simp[e])) fun h2=>h2.elim (fun e=>absurd g7 (by simp[e])) fun h3=>h3.elim (fun e=>absurd e hij) fun e=>e▸h.2 (Bool.or_eq_false_iff.1 g7).2 (Bool.or_eq_false_iff.1 g10).2⟩
    |7=>
     intro h;have h:((l 10)=false->AppF wC 32 1 (x.F.length+1) (cs++[.slice Az z.length cz]) vF (f 7) w1):=h;show((decide (10=iv)||l 10)=false->AppF wC 32 1 (x.F.length+1) (cs++[.slice Az z.length cz]) vF (f' 7) w2);rw[hf 7 (Ne.symm hij)]
     exact fun g10=>hR.elim (fun e=>absurd g10 (by simp[e])) fun h2=>h2.elim (fun e=>absurd e hij) fun h3=>h3.elim (fun e=>absurd (by rw[e];exact of_decide_eq_true (by kernel_rfl)) hd) fun e=>e▸h (Bool.or_eq_false_iff.1 g10).2
    |10=>
     intro h;have h:∃v9 w9,AppF wC 32 1 (x.F.length+1) (cs++[.slice Az z.length cz]) vF v9 w9/\w1=w9.setCell ⟨px,2,none⟩ v9:=h;show∃v9 w9,AppF wC 32 1 (x.F.length+1) (cs++[.slice Az z.length cz]) vF v9 w9/\w2=w9.setCell ⟨px,2,none⟩ v9
     exact hR.elim (fun e=>absurd e hij) fun h2=>h2.elim (fun e=>absurd (by rw[e];exact of_decide_eq_true (by kernel_rfl)) hd) fun h3=>h3.elim (fun e=>absurd (by rw[e];exact of_decide_eq_true (by kernel_rfl)) hd) fun e=>e▸h
    |_+11=>exact id
   case steps=>
    refine fun iv hiv=>stepsOf_at (k:=0) (n:=11) ?_ iv (Nat.zero_le _) (by rw[Nat.zero_add];exact hiv);refine sD 0 10 aT0 [] (fun f wq l hl hun hdn hS hd K' HK=>?_) ?_
    ·clear hd;have z0:=(cell1 hS.2).1;have HSS:=Jh hS;clear hS;go_simp;exact HK.o _ _ _ rfl rfl (hq 0 l _ HSS.o) (rr _)
    refine sD 1 9 aT1 [] (fun f wq l hl hun hdn hS hd K' HK=>?_) ?_
    ·clear hd;have z0:=(cell1 hS.2).1;have HSS:=Jh hS;clear hS;go_simp;exact HK.o _ _ _ rfl rfl (hq 1 l _ HSS.o) (rr _)
    refine sD 2 8 aT2 [1] (fun f wq l hl hun hdn hS hd K' HK=>?_) ?_
    ·obtain⟨e1,-⟩:=hd;have e1:f 1=_:=e1;simp only[e1];go_simp;exact HK.o _ _ _ (by simp only[e1];rfl) rfl (hq 2 l _ hS) (rr _)
    refine sD 3 7 aT3 [2] (fun f wq l hl hun hdn hS hd K' HK=>?_) ?_
    ·obtain⟨e2,-⟩:=hd;have e2:f 2=_:=e2;simp only[e2];go_simp;exact HK.o _ _ _ (by simp only[e2];rfl) rfl (hq 3 l _ hS) (rr _)
    refine sD 4 6 aT4 [3] (fun f wq l hl hun hdn hS hd K' HK=>?_) ?_
    ·obtain⟨e3,-⟩:=hd;have e3:f 3=_:=e3;have hbq:=hS.1 (hun 7 (of_decide_eq_true (by kernel_rfl)));obtain⟨z0,z1,z2,z3,z4,z5⟩:=cells6 (blk_below hbq HBoxC.o);clear hbq;have HSS:=Jh hS;clear hS;simp only[e3];go_simp;exact HK.o _ _ _ (by simp only[e3];rfl) rfl (hq 4 l _ HSS.o) (rr _)
    refine sD 5 5 aT5 [] (fun f wq l hl hun hdn hS hd K' HK=>?_) ?_
    ·clear hd;have HSS:=Jh hS;clear hS;go_simp;exact HK.o _ _ _ rfl rfl (hq 5 l _ HSS.o) (rr _)
    refine sD 6 4 aT6 [5] (fun f wq l hl hun hdn hS hd K' HK=>?_) ?_
    ·obtain⟨e5,-⟩:=hd;have e5:f 5=_:=e5;have hbq:=hS.1 (hun 7 (of_decide_eq_true (by kernel_rfl)));have HBq:=Jh hbq;clear hbq;have HSS:=Jh hS;clear hS;simp only[e5];go_simp;exact HK.o _ _ _ (by simp only[e5];rfl) ⟨_,rfl,fun _ _=>heap_alloc_new wq _⟩ ⟨fun _=>bA HBq.o,blk_below (bA (bR wq)) HSS.o.2⟩ (.inr (.inr (.inl rfl)))
    refine sD 7 3 aT7 [4,6] (fun f wq l hl hun hdn hS hd K' HK=>?_) ?_
    ·obtain⟨e4,e6,-⟩:=hd;have e4:f 4=_:=e4;have e6:∃b,(f 6)=.slice (some ⟨b,0,none⟩) 1 1/\((l 7)=false->(l 10)=false->wq.heap[b]?=some (.cells #[.slice Az z.length cz] 32)):=e6;have hl10:=hun 10 (of_decide_eq_true (by kernel_rfl));obtain⟨b,hv6,hg⟩:=e6;have hg:=hg hl hl10;have hbq:=hS.1 hl;obtain⟨i0,hi0,hz0,hz1,hz2⟩:=info_parts rows_info;rw[if_pos (by rfl)]
     refine wp_append_who _ _ _ 36 rfl 1 32 i0 _ 1 24 Tryz.underlying36 hi0 hz0 hz1 hz2 rfl (by decide) vF (x.F.length) (cs) (by simp only[e4];rfl) (own_tk (T:=[]) HFC.o (Tk.below hbq) (by simp)) ⟨b,0,none⟩ 1 1 [.slice Az z.length cz] (by simp only[hv6];rfl) rfl (fun j u hu=>by rw[add_off];exact one_cell hg hu) (by simp[Value.oneCell']) (by have:=HFl.o;unfold maxLen;omega) (by have:=HFl.o;omega) (by have:=blk_lt hS.2;omega) ?_
     intro v9 w9 hown9 hg9 hb9;exact HK.o.out _ _ _ rfl (fun _=>⟨hown9,hb9.imp_right (fun⟨g,e,h⟩=>⟨g,e,Nat.le_trans hbq.size h⟩),(grown_below hbq _).trans hg9⟩) ⟨fun g=>absurd g (by simp),(hg9.block b2 (blk_lt hS.2) HB2.o.1).trans hS.2⟩ (.inr (.inl rfl))
    refine sD 8 2 aT8 [0,6,7] (fun f wq l hl hun hdn hS hd K' HK=>?_) ?_
    ·obtain⟨e0,e6,e7,-⟩:=hd;have e0:f 0=_:=e0;have e6:∃b,(f 6)=.slice (some ⟨b,0,none⟩) 1 1/\((l 7)=false->(l 10)=false->wq.heap[b]?=some (.cells #[.slice Az z.length cz] 32)):=e6;have e7:((l 10)=false->AppF wC 32 1 (x.F.length+1) (cs++[.slice Az z.length cz]) vF (f 7) wq):=e7;clear e6 e7;have HSS:=Jh hS;clear hS;simp only[e0];go_simp;exact HK.o _ _ _ (by simp only[e0];rfl) rfl (hq 8 l _ HSS.o) (rr _)
    refine sD 9 1 aT9 [6,7,8] (fun f wq l hl hun hdn hS hd K' HK=>?_) ?_
    ·obtain⟨e6,e7,e8,-⟩:=hd;have e6:∃b,(f 6)=.slice (some ⟨b,0,none⟩) 1 1/\((l 7)=false->(l 10)=false->wq.heap[b]?=some (.cells #[.slice Az z.length cz] 32)):=e6;have e7:((l 10)=false->AppF wC 32 1 (x.F.length+1) (cs++[.slice Az z.length cz]) vF (f 7) wq):=e7;have e8:f 8=_:=e8;clear e6 e7;have HSS:=Jh hS;clear hS;simp only[e8];go_simp;exact HK.o _ _ _ (by simp only[e8];rfl) rfl (hq 9 l _ HSS.o) (rr _)
    refine sD 10 0 aT10 [6,7,9] (fun f wq l hl hun hdn hS hd K' HK=>?_) ?_
    ·obtain⟨e6,e7,e9,-⟩:=hd;have e6:∃b,(f 6)=.slice (some ⟨b,0,none⟩) 1 1/\((l 7)=false->(l 10)=false->wq.heap[b]?=some (.cells #[.slice Az z.length cz] 32)):=e6;have e7:((l 10)=false->AppF wC 32 1 (x.F.length+1) (cs++[.slice Az z.length cz]) vF (f 7) wq):=e7;have e9:f 9=_:=e9;clear e6;have e7:=e7 hl;obtain⟨A7,c7,hv7,_⟩:=own_slice e7.own
     have hbx:=(e7.grown.block px (blk_lt HBoxC.o) HB2.o.2.2).trans HBoxC.o;have hfz:=not_frozen (i:=2) hbx;obtain⟨z0,z1,z2,z3,z4,z5⟩:=cells6 hbx;rw[hv7] at e7;have HE7:=Jh e7;clear hbx e7;have HSS:=Jh hS;clear hS;simp only[e9,hv7];go_simp
     exact HK.o undef _ _ (by simp only[e9,hv7];rfl) ⟨_,_,HE7.o,rfl⟩ ⟨fun g=>absurd (hdn 7 (of_decide_eq_true (by kernel_rfl))) (by simpa using g),(set_other _ HB2.o.2.1).trans HSS.o.2⟩ (.inl rfl)
    exact trivial
   case fin=>
    intro fp wz lp hl hall hS;have a10:∃v9 w9,AppF wC 32 1 (x.F.length+1) (cs++[.slice Az z.length cz]) vF v9 w9/\wz=w9.setCell ⟨px,2,none⟩ v9:=hall 10 (by decide);clear hall;obtain⟨v9,w9,hap,hwz⟩:=a10;clear hq rr;obtain⟨wE,rfl⟩:=exE wz;obtain⟨hx9,hxp9⟩:=IsX.found HXC.o HBoxC.o HFC.o HCC.o HPC.o hap HZ.o hcz (by have:=HX0.o.fs;simp;omega);rw[<-hwz] at hx9 hxp9;have hsee:=HXC.o.sees hxp9
    have HXE:=Jh hx9;have HXpE:=Jh (HXpC.o.trans hxp9);have H4E:=Jh (hsee.2 _ _ _ _ (by decide) (by decide) (by decide) H4C.o);have HZE:=Jh (HZ.o.sees hsee (by decide) (by decide) (by decide));have HZl:=Jh (show z.length<=1000000 from by have h1:=outcome_len HO9.o.symm;have h2:=HL.o;omega);obtain⟨vF9,vP9,hb9,_⟩:=hx9.box;have HB9:=Jh hb9;obtain⟨y0,_⟩:=cell1 hS.2;have H2E:=Jh hS.2
    obtain⟨z0,z1,z2,z3,z4,z5⟩:=cells6 hb9;obtain⟨u4,v4⟩:=cell1 H4E.o;clear hap hwz hx9 hxp9 hsee hb9 hS;cases hw with
    |true=>
     go_wp2_with fail;refine(equal_any Az B z.length m cz d z want wE HZE.o.rd HXE.o.want.rd HZl.o).mono ?_;rintro o w10 ⟨rfl,hb10⟩;clear z0 z1 z2 z3 z4 z5 u4 v4 y0;have H410:=Jh (blk_below hb10 H4E.o);obtain⟨u4,v4⟩:=cell1 H410.o;have HXF:=Jh (HXE.o.below hb10);have HXpF:=Jh (HXpE.o.trans (Xp.below hb10));clear hb10;go_wp2_with fail
     refine⟨_,ret_bool4 rfl rfl (set_same H410.o _),by rw[HD.o];rfl,by rw[HD.o,<-HKy.o];exact HXF.o.set4 H410.o,HXpF.o.set4 H410.o (by have:=HN.o;omega)⟩
    |false=>go_wp2_with fail;refine⟨_,ret_bool4 rfl rfl (set_same H4E.o _),by rw[HD.o];rfl,by rw[HD.o,<-HKy.o];exact HXE.o.set4 H4E.o,HXpE.o.set4 H4E.o (by have:=HN.o;omega)⟩
  |none=>
   have a10:fo 10=.bool false:=a10;simp only[a10];clear a9 a10;have HD:=Jh (dfs_go (l:=l) (stop:=stopW hw want) (f:=f) (HKy.o▸HIn.o) HO9.o.symm);go_upto_region 9 with fail
   have HPk:=Jh (fun(wx:World) (hb:Below wC.heap.size wC wx)=>picks_any A n c _ s wx (HSC.o.sees (Below.sees hb)));have hq:∀(k:Nat) (l:Nat->Bool) (wx:World),(Below wC.heap.size wC wx)->(Below wC.heap.size wC wx):=fun _ _ _ h=>h;have rr:∀(wx:World),Below wx.heap.size wx wx:=fun wx=>bR wx
   refine wp_region_det (by kernel_rfl) (fun f=>(⟨#[Value.pointer (some ⟨px,0,none⟩),Value.agg #[Value.slice A1 4 c1,Value.slice A2 4 c2,Value.slice A3 4 c3,Value.slice AD n cD,Value.slice AT n cT],Value.pointer (some ⟨b2,0,none⟩),Value.pointer (some ⟨b3,0,none⟩),Value.pointer (some ⟨b4,0,none⟩),Value.string {data:=ky.toArray},fo 9,Value.bool false,undef,undef,Value.agg #[Value.slice A1 4 c1,Value.slice A2 4 c2,Value.slice A3 4 c3,Value.slice AD n cD,Value.slice AT n cT],Value.string {data:=ky.toArray},Value.pointer (some ⟨px,0,none⟩),Value.pointer (some ⟨px,0,none⟩),Value.pointer (some ⟨px,1,none⟩),Value.map (some bm),Value.string {data:=ky.toArray},.int .i64 0,Value.bool false,Value.pointer (some ⟨px,0,none⟩),Value.pointer (some ⟨px,0,none⟩),Value.pointer (some ⟨px,1,none⟩),Value.map (some bm),Value.string {data:=ky.toArray},fo 6,fo 0,fo 1,fo 2,fo 3,fo 4,fo 5,fo 7,fo 8,Value.bool false,undef,undef,undef,undef,undef,undef,undef,undef,undef,undef,undef,undef,undef,undef,undef,undef,undef,undef,undef,undef,undef,undef,f 0,f 1,f 2,f 3,f 4,f 5,undef,undef,undef,undef,undef,undef,undef,undef,undef,undef,undef,undef,undef,undef,undef,undef,undef,undef,undef,undef,undef,undef,undef,undef,undef,undef,undef,undef,undef],[]⟩:Act)) (fun(iv:Nat) (lv:Nat->Bool) (fv:Nat->Value) (wx:World)=>match iv with|0=>fv 0=.pointer (some ⟨px,0,none⟩)|1=>fv 1=.pointer (some ⟨px,0,none⟩)|2=>fv 2=.pointer (some ⟨px,0,none⟩)|3=>fv 3=.agg #[.slice A n c]|4=>fv 4=.agg #[.slice A1 4 c1,.slice A2 4 c2,.slice A3 4 c3,.slice AD n cD,.slice AT n cT]|5=>∃bP bS,(fv 5)=.func (.func 96) #[] #[.pointer (some ⟨bS,0,none⟩),.pointer (some ⟨bP,0,none⟩)]/\wx.heap[bP]?=some (.cells #[.slice A n c] 68)/\wx.heap[bS]?=some (.cells #[.slice A1 4 c1,.slice A2 4 c2,.slice A3 4 c3,.slice AD n cD,.slice AT n cT] 70)|_=>True) (fun _ wx=>Below wC.heap.size wC wx) (fun _ w1 w2=>Below w1.heap.size w1 w2) (by kernel_rfl) (fun k=>match k with|_=>undef) rfl ?keep (bD (bR wC)) ?steps ?fin
   case keep=>
    intro iv j hij hd l f f' w1 w2 hf hR
    match j with
    |0|1|2|3|4=>exact fun h=>(hf _ (Ne.symm hij)).trans h
    |5=>
     intro h;have h:∃bP bS,(f 5)=.func (.func 96) #[] #[.pointer (some ⟨bS,0,none⟩),.pointer (some ⟨bP,0,none⟩)]/\w1.heap[bP]?=some (.cells #[.slice A n c] 68)/\w1.heap[bS]?=some (.cells #[.slice A1 4 c1,.slice A2 4 c2,.slice A3 4 c3,.slice AD n cD,.slice AT n cT] 70):=h
     show∃bP bS,(f' 5)=.func (.func 96) #[] #[.pointer (some ⟨bS,0,none⟩),.pointer (some ⟨bP,0,none⟩)]/\w2.heap[bP]?=some (.cells #[.slice A n c] 68)/\w2.heap[bS]?=some (.cells #[.slice A1 4 c1,.slice A2 4 c2,.slice A3 4 c3,.slice AD n cD,.slice AT n cT] 70);rw[hf 5 (Ne.symm hij)];exact let⟨bP,bS,h1,h2,h3⟩:=h;⟨bP,bS,h1,blk_below hR h2,blk_below hR h3⟩
    |_+6=>exact id
   case steps=>
    refine fun iv hiv=>stepsOf_at (k:=0) (n:=6) ?_ iv (Nat.zero_le _) (by rw[Nat.zero_add];exact hiv);refine sD 0 5 aT0 [] (fun f wq l hl hun hdn hS hd K' HK=>?_) ?_
    ·clear hd;have z0:=(cell1 (blk_below hS H2C.o)).1;go_simp;exact HK.o _ _ _ rfl rfl hS (rr _)
    refine sD 1 4 aT1 [0] (fun f wq l hl hun hdn hS hd K' HK=>?_) ?_
    ·obtain⟨e0,-⟩:=hd;have e0:f 0=_:=e0;simp only[e0];go_simp;exact HK.o _ _ _ (by simp only[e0];rfl) rfl (hq 1 l _ hS) (rr _)
    refine sD 2 3 aT2 [1] (fun f wq l hl hun hdn hS hd K' HK=>?_) ?_
    ·obtain⟨e1,-⟩:=hd;have e1:f 1=_:=e1;simp only[e1];go_simp;exact HK.o _ _ _ (by simp only[e1];rfl) rfl (hq 2 l _ hS) (rr _)
    refine sD 3 2 aT3 [2] (fun f wq l hl hun hdn hS hd K' HK=>?_) ?_
    ·obtain⟨e2,-⟩:=hd;have e2:f 2=_:=e2;obtain⟨r0,_⟩:=cells6 (blk_below hS HBoxC.o);simp only[e2];go_simp;exact HK.o _ _ _ (by simp only[e2];rfl) rfl hS (rr _)
    refine sD 4 1 aT4 [] (fun f wq l hl hun hdn hS hd K' HK=>?_) ?_
    ·clear hd;obtain⟨s0,s1,s2,s3,s4,_⟩:=cells5 (blk_below hS H3C.o);go_simp;exact HK.o _ _ _ rfl rfl hS (rr _)
    refine sD 5 0 aT5 [3,4] (fun f wq l hl hun hdn hS hd K' HK=>?_) ?_
    ·obtain⟨e3,e4,-⟩:=hd;have e3:f 3=_:=e3;have e4:f 4=_:=e4;have HCl:=Jh (HPk.o wq hS);have HSS:=Jh hS;clear hS;simp only[e3,e4];go_simp;go_wp2_with fail;refine HCl.o.mono ?_;rintro e w9 ⟨bP,bS,cs9,rfl,hb9,hcs9,h1,h2⟩;injection hcs9 with hcs9
     subst hcs9;exact HK.o _ _ _ (by simp only[e3,e4];rfl) ⟨_,_,rfl,h1,h2⟩ (bT HSS.o hb9) hb9
    exact trivial
   case fin=>
    intro fp wz lp hl hall hS;have a0:fp 0=_:=hall 0 (by decide);have a1:fp 1=_:=hall 1 (by decide);have a2:fp 2=_:=hall 2 (by decide);have a3:fp 3=_:=hall 3 (by decide);have a4:fp 4=_:=hall 4 (by decide)
    have a5:∃bP bS,(fp 5)=.func (.func 96) #[] #[.pointer (some ⟨bS,0,none⟩),.pointer (some ⟨bP,0,none⟩)]/\wz.heap[bP]?=some (.cells #[.slice A n c] 68)/\wz.heap[bS]?=some (.cells #[.slice A1 4 c1,.slice A2 4 c2,.slice A3 4 c3,.slice AD n cD,.slice AT n cT] 70):=hall 5 (by decide);clear hall;obtain⟨wD,rfl⟩:=exE wz;obtain⟨bP,bS,h5,hbP,hbS⟩:=a5;simp only[h5];clear a0 a1 a2 a3 a4 hq rr HPk h5
    have HBD:=Jh hS;have HXD:=Jh (HXC.o.below hS);have HXpD:=Jh (HXpC.o.trans (Xp.below hS));have H2D:=Jh (blk_below hS H2C.o);have H4D:=Jh (blk_below hS H4C.o);have HED:=Jh (HEC.o.sees (Below.sees hS));have HSD:=Jh (HSC.o.sees (Below.sees hS));have HGD:=Jh (HGC.o.below hS);have hPl:=HPr.o;obtain⟨fb,pb,hpx,_⟩:=HXD.o.row_
    have HSq:=Jh (picks1_seq bS bP n c px A _ l s wD fb pb hPl HED.o HSD.o hbP hbS hpx);have hbm:bm<wD.heap.size:=by obtain⟨_,_,k⟩:=HXD.o.seen.at_;exact blk_lt k
    have HBm:=Jh hbm;have HLw:=Jh HXpD.o.size;have hKb:∀(Y:World) (k:Nat) (o o':Obj),wD.heap.size<=k->Y.heap[k]?=some o->o.isCells=false->o.isWalk=false->Kp px Y (Y.putObj k o'):=fun Y k o o' _ h1 h2 _=>Kp.put Y k o o' h1 h2;clear hS hPl hpx hbP hbS hbm HXC HGC HEC HSC H2C H3C H4C HBoxC HPC HFC HCC;go_wp2_with fail;refine(wpIn_wide (n:=3)).1 ?_
    refine wpIn_range_told (w0:=wD) rfl (by omega) (gf:=96) (lb:=#[.pointer (some ⟨bS,0,none⟩),.pointer (some ⟨bP,0,none⟩)]) rfl trivial (enters_of Tryz.func96 (by kernel_rfl) rfl)
     HSq.o Kp.trans hKb (Below.refl _ _) (fun _=>rfl)
     (fun(pre:List Hand) (Y:World)=>∃y:XS,(pre.map (·.1)).foldl (stepX (dfs l (stopW hw want) f) l s) (false,⟨ky::x.S,x.F,x.P⟩)=(false,y)/\IsX px bm A n c B m d want hw y Y/\Xp px bm wD Y)
     (fun(cx:Code) (pre:List Hand) (Y:World)=>cx=.ret/\(∃y:XS,(pre.map (·.1)).foldl (stepX (dfs l (stopW hw want) f) l s) (false,⟨ky::x.S,x.F,x.P⟩)=(true,y)/\IsX px bm A n c B m d want hw y Y)/\Xp px bm w Y/\Y.heap[b4]?=some (.cells #[.bool true] 4 (0,0)))
     ?own1 ?own2 ?own3 ⟨_,rfl,HXD.o,Xp.below (bR wD)⟩
     (fun(h:Hand) (a':Act) (Y:World)=>∃(b8 b9:Nat) (E1:Option Addr) (e1:Nat) (E2:Option Addr) (e2:Nat) (E3:Option Addr) (e3:Nat) (ED:Option Addr) (eD:Nat) (ET:Option Addr) (eT:Nat),h.2.2=.agg #[.slice E1 4 e1,.slice E2 4 e2,.slice E3 4 e3,.slice ED n eD,.slice ET n eT]/\Y.heap[b8]?=some (.cells #[.int .i64 h.1.h,.bool h.1.d,.int .i64 h.1.w] 56 (0,0))/\Y.heap[b9]?=some (.cells #[.slice E1 4 e1,.slice E2 4 e2,.slice E3 4 e3,.slice ED n eD,.slice ET n eT] 70 (0,0))/\(wD.heap.size<=b8/\∃fb pb,PxAt px Y fb pb/\some b8≠pb)/\
      a'={tmps:=#[Value.pointer (some ⟨px,0,none⟩),Value.agg #[Value.slice A1 4 c1,Value.slice A2 4 c2,Value.slice A3 4 c3,Value.slice AD n cD,Value.slice AT n cT],Value.pointer (some ⟨b2,0,none⟩),Value.pointer (some ⟨b3,0,none⟩),Value.pointer (some ⟨b4,0,none⟩),Value.string ⟨ky.toArray⟩,fo 9,Value.bool false,.pointer (some ⟨b8,0,none⟩),.pointer (some ⟨b9,0,none⟩),Value.agg #[Value.slice A1 4 c1,Value.slice A2 4 c2,Value.slice A3 4 c3,Value.slice AD n cD,Value.slice AT n cT],Value.string ⟨ky.toArray⟩,Value.pointer (some ⟨px,0,none⟩),Value.pointer (some ⟨px,0,none⟩),Value.pointer (some ⟨px,1,none⟩),Value.map (some bm),Value.string ⟨ky.toArray⟩,.int .i64 0,Value.bool false,Value.pointer (some ⟨px,0,none⟩),Value.pointer (some ⟨px,0,none⟩),Value.pointer (some ⟨px,1,none⟩),Value.map (some bm),Value.string ⟨ky.toArray⟩,fo 6,fo 0,fo 1,fo 2,fo 3,fo 4,fo 5,fo 7,fo 8,Value.bool false,undef,undef,undef,undef,undef,undef,undef,undef,undef,undef,undef,undef,undef,undef,undef,undef,undef,undef,undef,undef,undef,undef,fp 0,fp 1,fp 2,fp 3,fp 4,Value.func (Fn.func 96) #[] #[Value.pointer (some ⟨bS,0,none⟩),Value.pointer (some ⟨bP,0,none⟩)],.agg #[.int .i64 h.1.h,.bool h.1.d,.int .i64 h.1.w],.agg #[.slice E1 4 e1,.slice E2 4 e2,.slice E3 4 e3,.slice ED n eD,.slice ET n eT],undef,undef,undef,undef,undef,undef,undef,undef,undef,undef,undef,undef,undef,undef,undef,undef,undef,undef,undef,undef,undef,undef,undef,undef,undef,undef,undef],defers:=[]})
     ?own4 ?assign ?body ?done ?stop
    case own1=>rintro pre Y Z row ⟨y,h1,h2,h3⟩ hg hr;exact⟨y,h1,h2.from_ hg HBm.o hr,h3.from_ hg (Nat.le_refl _) hr⟩
    case own2=>rintro cx pre Y Z row ⟨h0,⟨y,h1,h2⟩,h3,h4⟩ hg hr;exact⟨h0,⟨y,h1,h2.from_ hg HBm.o hr⟩,h3.from_ hg HLw.o hr,cells_grown h4 hg (fun r e=>(hr r e).2)⟩
    case own3=>rintro⟨pre,h⟩ Y Z row ⟨h0,h1,h2,h3⟩ hg hr;exact⟨h0,h1,h2.sees ⟨hg.size,fun k cur e fz _ _ _ hk=>cells_grown hk hg (fun r e=>(hr r e).2)⟩,h3⟩
    case own4=>rintro h a' _ Y Z row ⟨b8,b9,E1,e1,E2,e2,E3,e3,ED,eD,ET,eT,h1,h2,h3,⟨h4,fb,pb,h6,h7⟩,h5⟩ hg hr;exact⟨b8,b9,E1,e1,E2,e2,E3,e3,ED,eD,ET,eT,h1,cells_grown h2 hg (fun r e=>(hr r e).2),cells_grown h3 hg (fun r e=>(hr r e).2),⟨h4,fb,pb,h6.from_ hg (fun r e=>(hr r e).2),h7⟩,h5⟩
    case assign=>
     rintro l0 pre h Y K hI ⟨hv0,hv1,hv2,hv3,hv4⟩ hK;obtain⟨E1,e1,E2,e2,E3,e3,ED,eD,ET,eT,hform⟩:=hv2.form;have HI:=Jh hI;have HV:=Jh (show HandOk l n s pre h Y from⟨hv0,hv1,hv2,hv3,hv4⟩);have HKa:=Jh hK;simp only[handV,pickV,hform,List.zip_toArray,List.zip_cons_cons,List.zip_nil_right,List.foldl_toArray,List.foldl_cons,List.foldl_nil,List.setIfInBounds_toArray,List.set_cons_succ,List.set_cons_zero]
     clear hI hv0 hv1 hv2 hv3 hv4 hK
     gi_wp2
     have kk:=Jh (bT (bA (o:=.cells #[.int .i64 h.1.h,.bool h.1.d,.int .i64 h.1.w] 56) (bR Y)) (bA (o:=.cells #[.slice E1 4 e1,.slice E2 4 e2,.slice E3 4 e3,.slice ED n eD,.slice ET n eT] 70) (bR _)));have hk9:=heap_alloc_new (Y.alloc (.cells #[.int .i64 h.1.h,.bool h.1.d,.int .i64 h.1.w] 56)) (.cells #[.slice E1 4 e1,.slice E2 4 e2,.slice E3 4 e3,.slice ED n eD,.slice ET n eT] 70)
     rw[World.size_alloc] at hk9;obtain⟨y,i1,i2,i3⟩:=HI.o;obtain⟨hv0,hv1,hv2,hv3,hv4⟩:=HV.o;exact HKa.o _ _ (((KeepsOthers.alloc _ _).trans (KeepsOthers.alloc _ _)).from _) (Kp.below kk.o) ⟨y,i1,i2.below kk.o,i3.trans (Xp.below kk.o)⟩ ⟨hv0,hv1,hv2.sees (Below.sees kk.o),hv3,hv4⟩
      ⟨Y.heap.size,Y.heap.size+1,E1,e1,E2,e2,E3,e3,ED,eD,ET,eT,hform,blk_below (bA (bR _)) (heap_alloc_new Y _),hk9,⟨i3.size,(let⟨fb,pb,hp,_⟩:=i2.row_;⟨fb,pb,hp.below kk.o,fun e=>by obtain⟨_,_,_,_,_,_,_,_,_,_,h5⟩:=hp;obtain⟨_,_,k⟩:=h5 _ e.symm;exact absurd (blk_lt k) (Nat.lt_irrefl _)⟩)⟩,rfl⟩
    case body=>
     rintro l0 pre gh a' Y hl0 hloop ⟨y,i1,i2,i3⟩ ⟨hv0,hv1,hv2,hv3,hv4⟩ ⟨b8,b9,E1,e1,E2,e2,E3,e3,ED,eD,ET,eT,hform,h8,h9,⟨hb8,fb8,pb8,hp8,hne8⟩,rfl⟩;have hsee:=HXD.o.sees i3;obtain⟨vG,vQ,hbox,⟨cs,hF,hC⟩,hP⟩:=i2.box;have HBoxC:=Jh hbox;have HFQ:=Jh hF;have HCQ:=Jh hC;have HPQ:=Jh hP;have HXY:=Jh i2;have HI1:=Jh i1;have HXpY:=Jh i3;have HXw:=Jh (HXpD.o.trans i3)
     have H2C:=Jh (hsee.2 _ _ _ _ (by decide) (by decide) (by decide) H2D.o);have H4C:=Jh (hsee.2 _ _ _ _ (by decide) (by decide) (by decide) H4D.o);have H8C:=Jh h8;have H9C:=Jh h9;have HEY:=Jh (HED.o.sees hsee);have HGY:=Jh (HGD.o.xp HXD.o i3);have HSt:=Jh (hform▸hv2);have HNx:=Jh hv1;have HPre:=Jh hv0;have Hb8:=Jh hb8;obtain⟨f',hf'⟩:∃f',f=f'+1:=⟨f-1,by have:=next_meas hv1;have:=HM.o.1;omega⟩
     have hgrow:=fold_grow (D:=dfs l (stopW hw want) f) (l:=l) (s:=s) (c:=callsX f') (fun p s' x hn=>by rw[hf'];exact dfs_grow HPr.o _ f' s' x (St.next_ok HPr.o (by rw[HL.o];exact HSD.o.ok) hn) (by have:=next_meas hn;have:=HM.o.1;omega)) (pre.map (·.1)) ⟨ky::x.S,x.F,x.P⟩;rw[i1] at hgrow;have hgs:=hgrow.hi;have hgp:y.P=x.P:=hgrow.p rfl;have HFl0:=Jh hgp
     have hpre:pre.length+1<=4+f:=by have h1:=hv0.length_le;have h2:=may_len (l:=l) HSD.o.ok;have h3:=HM.o.1;rw[List.length_map,List.length_append] at h1;have h4:[gh].length=1:=rfl;omega
     have HSl:=Jh (show y.S.length+callsX f'<=5000000000000 from by have h1:=HC.o.1;rw[hf',callsX] at h1;have h2:=Nat.mul_le_mul_right (callsX f') (show pre.length+1<=5+f' by omega);rw[Nat.add_mul,Nat.one_mul] at h2;rw[List.length_map] at hgs;have h3:y.S.length<=(ky::x.S).length+pre.length*callsX f':=hgs;rw[List.length_cons] at h3;omega)
     have HPl:=Jh (show y.P.length+[gh.1].length+f'<=1000 from by have h1:=HC.o.2;have h4:[gh.1].length=1:=rfl;rw[hgp];omega);have HMs:=Jh (show gh.2.1.meas<=f' from by have:=next_meas hv1;have:=HM.o.1;omega);have HF':=Jh hf';clear hgrow hgs hgp hpre hf';have HFl:=Jh (show y.P.length<=1000 from by rw[HFl0.o];have:=HC.o.2;omega)
     have HB2:=Jh (show some b2≠vQ.ownBlock/\b2≠px/\some px≠vQ.ownBlock/\some b8≠vQ.ownBlock/\b8≠px from⟨(fun e=>by
       obtain⟨_,cur,k9⟩:=own_block_at HPQ.o e.symm;rw[H2C.o] at k9;cases k9),(fun e=>by
       have k9:=H2C.o;rw[e,HBoxC.o] at k9;cases k9),(fun e=>by
       obtain⟨_,cur,k9⟩:=own_block_at HPQ.o e.symm;rw[HBoxC.o] at k9;cases k9),(fun e=>by
       obtain⟨fb,pb,k1,_⟩:=HXY.o.row_;obtain⟨x0,x1,u1,x3,x4,u2,k2,_,k3,_⟩:=hp8;have k4:=HBoxC.o;rw[k2] at k4;simp only[Option.some.injEq,Obj.cells.injEq,Array.mk.injEq,List.cons.injEq,and_true] at k4;obtain⟨-,-,-,-,-,k5⟩:=k4;rw[<-k5,k3] at e;exact hne8 e),(fun e=>by
       have k9:=H8C.o;rw[e,HBoxC.o] at k9;cases k9)⟩)
     clear hsee hbox hF hC hP i1 i2 i3 h8 h9 hv0 hv1 hv2 hv3 hv4 hp8 hne8 hb8;refine wpIn_block ?_;refine wpIn_seq_k fun K1 hK1=>?_
     have hq:∀(k:Nat) (l:Nat->Bool) (wx:World),((l 7=false->Below Y.heap.size Y wx)/\wx.heap[b2]?=some (.cells #[.pointer (some ⟨px,0,none⟩)] 79)/\wx.heap[b8]?=some (.cells #[.int .i64 gh.1.h,.bool gh.1.d,.int .i64 gh.1.w] 56))->(((decide (7=k)||l 7)=false->Below Y.heap.size Y wx)/\wx.heap[b2]?=some (.cells #[.pointer (some ⟨px,0,none⟩)] 79)/\wx.heap[b8]?=some (.cells #[.int .i64 gh.1.h,.bool gh.1.d,.int .i64 gh.1.w] 56)):=fun k l wx h=>⟨fun g=>h.1 (Bool.or_eq_false_iff.1 g).2,h.2⟩
     have rr:∀{iv:Nat} (wx:World),(iv=10\/iv=7\/iv=6\/wx=wx):=fun _=>.inr (.inr (.inr rfl))
     refine wpIn_region_det (by kernel_rfl) (fun f=>(⟨#[Value.pointer (some ⟨px,0,none⟩),Value.agg #[Value.slice A1 4 c1,Value.slice A2 4 c2,Value.slice A3 4 c3,Value.slice AD n cD,Value.slice AT n cT],Value.pointer (some ⟨b2,0,none⟩),Value.pointer (some ⟨b3,0,none⟩),Value.pointer (some ⟨b4,0,none⟩),Value.string ⟨ky.toArray⟩,fo 9,Value.bool false,.pointer (some ⟨b8,0,none⟩),.pointer (some ⟨b9,0,none⟩),Value.agg #[Value.slice A1 4 c1,Value.slice A2 4 c2,Value.slice A3 4 c3,Value.slice AD n cD,Value.slice AT n cT],Value.string ⟨ky.toArray⟩,Value.pointer (some ⟨px,0,none⟩),Value.pointer (some ⟨px,0,none⟩),Value.pointer (some ⟨px,1,none⟩),Value.map (some bm),Value.string ⟨ky.toArray⟩,.int .i64 0,Value.bool false,Value.pointer (some ⟨px,0,none⟩),Value.pointer (some ⟨px,0,none⟩),Value.pointer (some ⟨px,1,none⟩),Value.map (some bm),Value.string ⟨ky.toArray⟩,fo 6,fo 0,fo 1,fo 2,fo 3,fo 4,fo 5,fo 7,fo 8,Value.bool false,undef,undef,undef,undef,undef,undef,undef,undef,undef,undef,undef,undef,undef,undef,undef,undef,undef,undef,undef,undef,undef,undef,fp 0,fp 1,fp 2,fp 3,fp 4,Value.func (Fn.func 96) #[] #[Value.pointer (some ⟨bS,0,none⟩),Value.pointer (some ⟨bP,0,none⟩)],.agg #[.int .i64 gh.1.h,.bool gh.1.d,.int .i64 gh.1.w],.agg #[.slice E1 4 e1,.slice E2 4 e2,.slice E3 4 e3,.slice ED n eD,.slice ET n eT],f 0,f 1,f 2,f 3,f 4,f 5,f 6,f 7,f 8,f 9,undef,undef,undef,undef,undef,undef,undef,undef,undef,undef,undef,undef,undef,undef,undef,undef,undef],[]⟩:Act)) (fun(iv:Nat) (lv:Nat->Bool) (fv:Nat->Value) (wx:World)=>match iv with|0=>fv 0=.pointer (some ⟨px,0,none⟩)|1=>fv 1=.pointer (some ⟨px,0,none⟩)|2=>fv 2=.pointer (some ⟨px,0,none⟩)|3=>fv 3=.pointer (some ⟨px,5,none⟩)|4=>fv 4=vQ|5=>fv 5=.agg #[.int .i64 gh.1.h,.bool gh.1.d,.int .i64 gh.1.w]|6=>∃b,(fv 6)=.slice (some ⟨b,0,none⟩) 1 1/\((lv 7)=false->(lv 10)=false->wx.heap[b]?=some (.cells #[.int .i64 gh.1.h,.bool gh.1.d,.int .i64 gh.1.w] 56))|7=>((lv 10)=false->AppF Y 56 3 (y.P.length+1) (pkCells y.P++[.int .i64 gh.1.h,.bool gh.1.d,.int .i64 gh.1.w]) vQ (fv 7) wx)|8=>fv 8=.pointer (some ⟨px,0,none⟩)|9=>fv 9=.pointer (some ⟨px,5,none⟩)|10=>∃v9 w9,AppF Y 56 3 (y.P.length+1) (pkCells y.P++[.int .i64 gh.1.h,.bool gh.1.d,.int .i64 gh.1.w]) vQ v9 w9/\wx=w9.setCell ⟨px,5,none⟩ v9|_=>True) (fun(lv:Nat->Bool) (wx:World)=>(lv 7=false->Below Y.heap.size Y wx)/\wx.heap[b2]?=some (.cells #[.pointer (some ⟨px,0,none⟩)] 79)/\wx.heap[b8]?=some (.cells #[.int .i64 gh.1.h,.bool gh.1.d,.int .i64 gh.1.w] 56)) (fun(iv:Nat) (w1:World) (w2:World)=>(iv=10\/iv=7\/iv=6\/w1=w2)) (by kernel_rfl) (fun k=>match k with|_=>undef) rfl ?keep ⟨fun _=>bD (bR Y),H2C.o,H8C.o⟩ ?steps ?fin
     case keep=>
      intro iv j hij hd l f f' w1 w2 hf hR
      match j with
      |0|1|2|3|4|5|8|9=>exact fun h=>(hf _ (Ne.symm hij)).trans h
      |6=>
       intro h;have h:∃b,(f 6)=.slice (some ⟨b,0,none⟩) 1 1/\((l 7)=false->(l 10)=false->w1.heap[b]?=some (.cells #[.int .i64 gh.1.h,.bool gh.1.d,.int .i64 gh.1.w] 56)):=h;show∃b,(f' 6)=.slice (some ⟨b,0,none⟩) 1 1/\((decide (7=iv)||l 7)=false->(decide (10=iv)||l 10)=false->w2.heap[b]?=some (.cells #[.int .i64 gh.1.h,.bool gh.1.d,.int .i64 gh.1.w] 56));rw[hf 6 (Ne.symm hij)]
       exact h.imp fun b h=>⟨h.1,fun g7 g10=>hR.elim (fun e=>absurd g10 (by simp[e])) fun h2=>h2.elim (fun e=>absurd g7 (by simp[e])) fun h3=>h3.elim (fun e=>absurd e hij) fun e=>e▸h.2 (Bool.or_eq_false_iff.1 g7).2 (Bool.or_eq_false_iff.1 g10).2⟩
      |7=>
       intro h;have h:((l 10)=false->AppF Y 56 3 (y.P.length+1) (pkCells y.P++[.int .i64 gh.1.h,.bool gh.1.d,.int .i64 gh.1.w]) vQ (f 7) w1):=h;show((decide (10=iv)||l 10)=false->AppF Y 56 3 (y.P.length+1) (pkCells y.P++[.int .i64 gh.1.h,.bool gh.1.d,.int .i64 gh.1.w]) vQ (f' 7) w2);rw[hf 7 (Ne.symm hij)]
       exact fun g10=>hR.elim (fun e=>absurd g10 (by simp[e])) fun h2=>h2.elim (fun e=>absurd e hij) fun h3=>h3.elim (fun e=>absurd (by rw[e];exact of_decide_eq_true (by kernel_rfl)) hd) fun e=>e▸h (Bool.or_eq_false_iff.1 g10).2
      |10=>
       intro h;have h:∃v9 w9,AppF Y 56 3 (y.P.length+1) (pkCells y.P++[.int .i64 gh.1.h,.bool gh.1.d,.int .i64 gh.1.w]) vQ v9 w9/\w1=w9.setCell ⟨px,5,none⟩ v9:=h;show∃v9 w9,AppF Y 56 3 (y.P.length+1) (pkCells y.P++[.int .i64 gh.1.h,.bool gh.1.d,.int .i64 gh.1.w]) vQ v9 w9/\w2=w9.setCell ⟨px,5,none⟩ v9
       exact hR.elim (fun e=>absurd e hij) fun h2=>h2.elim (fun e=>absurd (by rw[e];exact of_decide_eq_true (by kernel_rfl)) hd) fun h3=>h3.elim (fun e=>absurd (by rw[e];exact of_decide_eq_true (by kernel_rfl)) hd) fun e=>e▸h
      |_+11=>exact id
     case steps=>
      refine fun iv hiv=>stepsOf_atIn (k:=0) (m:=11) ?_ iv (Nat.zero_le _) (by rw[Nat.zero_add];exact hiv);refine stepsOf_consIn (k:=0) (m:=10) ?_ ?_
      ·refine stepOf_runIn (fun _=>trivial) (at0) [] (by kernel_rfl) (fun _ _=>rfl) (fun f wq l hl hun hdn hS hd K' hK=>?_);clear hd;have HK:=Jh hK;clear hK;have z0:=(cell1 hS.2.1).1;have HSS:=Jh hS;clear hS;go_simp;exact HK.o _ _ _ rfl rfl (hq 0 l _ HSS.o) (rr _)
      refine stepsOf_consIn (k:=1) (m:=9) ?_ ?_
      ·refine stepOf_runIn (fun _=>trivial) (atS (at0)) [] (by kernel_rfl) (fun _ _=>rfl) (fun f wq l hl hun hdn hS hd K' hK=>?_);clear hd;have HK:=Jh hK;clear hK;have z0:=(cell1 hS.2.1).1;have HSS:=Jh hS;clear hS;go_simp;exact HK.o _ _ _ rfl rfl (hq 1 l _ HSS.o) (rr _)
      refine stepsOf_consIn (k:=2) (m:=8) ?_ ?_
      ·refine stepOf_runIn (fun _=>trivial) (atS (atS (at0))) [1] (by kernel_rfl) (fun _ _=>rfl) (fun f wq l hl hun hdn hS hd K' hK=>?_);obtain⟨e1,-⟩:=hd;have e1:f 1=_:=e1;have HK:=Jh hK;clear hK;simp only[e1];go_simp;exact HK.o _ _ _ (by simp only[e1];rfl) rfl (hq 2 l _ hS) (rr _)
      refine stepsOf_consIn (k:=3) (m:=7) ?_ ?_
      ·refine stepOf_runIn (fun _=>trivial) (atS (atS (atS (at0)))) [2] (by kernel_rfl) (fun _ _=>rfl) (fun f wq l hl hun hdn hS hd K' hK=>?_);obtain⟨e2,-⟩:=hd;have e2:f 2=_:=e2;have HK:=Jh hK;clear hK;simp only[e2];go_simp;exact HK.o _ _ _ (by simp only[e2];rfl) rfl (hq 3 l _ hS) (rr _)
      refine stepsOf_consIn (k:=4) (m:=6) ?_ ?_
      ·refine stepOf_runIn (fun _=>trivial) (atS (atS (atS (atS (at0))))) [3] (by kernel_rfl) (fun _ _=>rfl) (fun f wq l hl hun hdn hS hd K' hK=>?_);obtain⟨e3,-⟩:=hd;have e3:f 3=_:=e3;have HK:=Jh hK;clear hK;have hbq:=hS.1 (hun 7 (of_decide_eq_true (by kernel_rfl)));obtain⟨z0,z1,z2,z3,z4,z5⟩:=cells6 (blk_below hbq HBoxC.o);clear hbq;have HSS:=Jh hS;clear hS;simp only[e3];go_simp
       exact HK.o _ _ _ (by simp only[e3];rfl) rfl (hq 4 l _ HSS.o) (rr _)
      refine stepsOf_consIn (k:=5) (m:=5) ?_ ?_
      ·refine stepOf_runIn (fun _=>trivial) (atS (atS (atS (atS (atS (at0)))))) [] (by kernel_rfl) (fun _ _=>rfl) (fun f wq l hl hun hdn hS hd K' hK=>?_);clear hd;have HK:=Jh hK;clear hK;obtain⟨u0,u1,u2,_⟩:=cells3 hS.2.2;have HSS:=Jh hS;clear hS;go_simp;exact HK.o _ _ _ rfl rfl (hq 5 l _ HSS.o) (rr _)
      refine stepsOf_consIn (k:=6) (m:=4) ?_ ?_
      ·refine stepOf_runIn (fun _=>trivial) (atS (atS (atS (atS (atS (atS (at0))))))) [5] (by kernel_rfl) (fun _ _=>rfl) (fun f wq l hl hun hdn hS hd K' hK=>?_);obtain⟨e5,-⟩:=hd;have e5:f 5=_:=e5;have HK:=Jh hK;clear hK;have hbq:=hS.1 (hun 7 (of_decide_eq_true (by kernel_rfl)));have HBq:=Jh hbq;clear hbq;have HSS:=Jh hS;clear hS;simp only[e5];go_simp
       exact HK.o _ _ _ (by simp only[e5];rfl) ⟨_,rfl,fun _ _=>heap_alloc_new wq _⟩ ⟨fun _=>bA HBq.o,blk_below (bA (bR wq)) HSS.o.2.1,blk_below (bA (bR wq)) HSS.o.2.2⟩ (.inr (.inr (.inl rfl)))
      refine stepsOf_consIn (k:=7) (m:=3) ?_ ?_
      ·refine stepOf_runIn (fun _=>trivial) (atS (atS (atS (atS (atS (atS (atS (at0)))))))) [4,6] (by kernel_rfl) (fun _ _=>rfl) (fun f wq l hl hun hdn hS hd K' hK=>?_);obtain⟨e4,e6,-⟩:=hd;have e4:f 4=_:=e4;have e6:∃b,(f 6)=.slice (some ⟨b,0,none⟩) 1 1/\((l 7)=false->(l 10)=false->wq.heap[b]?=some (.cells #[.int .i64 gh.1.h,.bool gh.1.d,.int .i64 gh.1.w] 56)):=e6;have HK:=Jh hK;clear hK
       have hl10:=hun 10 (of_decide_eq_true (by kernel_rfl));obtain⟨b,hv6,hg⟩:=e6;have hg:=hg hl hl10;have hbq:=hS.1 hl;obtain⟨i0,hi0,hz0,hz1,hz2⟩:=info_parts pick_info;rw[if_pos (by rfl)]
       refine wpIn_append_who _ _ _ 27 rfl 1 56 i0 _ 3 24 Tryz.underlying27 hi0 hz0 hz1 hz2 rfl (by decide) vQ (y.P.length) (pkCells y.P) (by simp only[e4];rfl) (own_tk (T:=[]) HPQ.o (Tk.below hbq) (by simp)) ⟨b,0,none⟩ 1 1 [.int .i64 gh.1.h,.bool gh.1.d,.int .i64 gh.1.w] (by simp only[hv6];rfl) rfl (fun j u hu=>by rw[add_off,cell_of_row _ _ _ _ _ _ hg,Nat.zero_add,<-hu];simp) (by simp[Value.oneCell']) (by have:=HFl.o;unfold maxLen;omega) (by have:=HFl.o;omega) (by have:=blk_lt hS.2.1;omega) ?_
       intro v9 w9 hown9 hg9 hb9;exact HK.o.out _ _ _ rfl (fun _=>⟨hown9,hb9.imp_right (fun⟨g,e,h⟩=>⟨g,e,Nat.le_trans hbq.size h⟩),(grown_below hbq _).trans hg9⟩) ⟨fun g=>absurd g (by simp),(hg9.block b2 (blk_lt hS.2.1) HB2.o.1).trans hS.2.1,(hg9.block b8 (blk_lt hS.2.2) HB2.o.2.2.2.1).trans hS.2.2⟩ (.inr (.inl rfl))
      refine stepsOf_consIn (k:=8) (m:=2) ?_ ?_
      ·refine stepOf_runIn (fun _=>trivial) (atS (atS (atS (atS (atS (atS (atS (atS (at0))))))))) [0,6,7] (by kernel_rfl) (fun _ _=>rfl) (fun f wq l hl hun hdn hS hd K' hK=>?_);obtain⟨e0,e6,e7,-⟩:=hd;have e0:f 0=_:=e0;have e6:∃b,(f 6)=.slice (some ⟨b,0,none⟩) 1 1/\((l 7)=false->(l 10)=false->wq.heap[b]?=some (.cells #[.int .i64 gh.1.h,.bool gh.1.d,.int .i64 gh.1.w] 56)):=e6
       have e7:((l 10)=false->AppF Y 56 3 (y.P.length+1) (pkCells y.P++[.int .i64 gh.1.h,.bool gh.1.d,.int .i64 gh.1.w]) vQ (f 7) wq):=e7;have HK:=Jh hK;clear hK;clear e6 e7;have HSS:=Jh hS;clear hS;simp only[e0];go_simp;exact HK.o _ _ _ (by simp only[e0];rfl) rfl (hq 8 l _ HSS.o) (rr _)
      refine stepsOf_consIn (k:=9) (m:=1) ?_ ?_
      ·refine stepOf_runIn (fun _=>trivial) (atS (atS (atS (atS (atS (atS (atS (atS (atS (at0)))))))))) [6,7,8] (by kernel_rfl) (fun _ _=>rfl) (fun f wq l hl hun hdn hS hd K' hK=>?_);obtain⟨e6,e7,e8,-⟩:=hd;have e6:∃b,(f 6)=.slice (some ⟨b,0,none⟩) 1 1/\((l 7)=false->(l 10)=false->wq.heap[b]?=some (.cells #[.int .i64 gh.1.h,.bool gh.1.d,.int .i64 gh.1.w] 56)):=e6
       have e7:((l 10)=false->AppF Y 56 3 (y.P.length+1) (pkCells y.P++[.int .i64 gh.1.h,.bool gh.1.d,.int .i64 gh.1.w]) vQ (f 7) wq):=e7;have e8:f 8=_:=e8;have HK:=Jh hK;clear hK;clear e6 e7;have HSS:=Jh hS;clear hS;simp only[e8];go_simp;exact HK.o _ _ _ (by simp only[e8];rfl) rfl (hq 9 l _ HSS.o) (rr _)
      refine stepsOf_consIn (k:=10) (m:=0) ?_ ?_
      ·refine stepOf_runIn (fun _=>trivial) (atS (atS (atS (atS (atS (atS (atS (atS (atS (atS (at0))))))))))) [6,7,9] (by kernel_rfl) (fun _ _=>rfl) (fun f wq l hl hun hdn hS hd K' hK=>?_);obtain⟨e6,e7,e9,-⟩:=hd;have e6:∃b,(f 6)=.slice (some ⟨b,0,none⟩) 1 1/\((l 7)=false->(l 10)=false->wq.heap[b]?=some (.cells #[.int .i64 gh.1.h,.bool gh.1.d,.int .i64 gh.1.w] 56)):=e6
       have e7:((l 10)=false->AppF Y 56 3 (y.P.length+1) (pkCells y.P++[.int .i64 gh.1.h,.bool gh.1.d,.int .i64 gh.1.w]) vQ (f 7) wq):=e7;have e9:f 9=_:=e9;have HK:=Jh hK;clear hK;clear e6;have e7:=e7 hl;obtain⟨A7,c7,hv7,_⟩:=own_slice e7.own;have hbx:=(e7.grown.block px (blk_lt HBoxC.o) HB2.o.2.2.1).trans HBoxC.o;have hfz:=not_frozen (i:=5) hbx;obtain⟨z0,z1,z2,z3,z4,z5⟩:=cells6 hbx;rw[hv7] at e7
       have HE7:=Jh e7;clear hbx e7;have HSS:=Jh hS;clear hS;simp only[e9,hv7];go_simp;exact HK.o undef _ _ (by simp only[e9,hv7];rfl) ⟨_,_,HE7.o,rfl⟩ ⟨fun g=>absurd (hdn 7 (of_decide_eq_true (by kernel_rfl))) (by simpa using g),(set_other _ HB2.o.2.1).trans HSS.o.2.1,(set_other _ HB2.o.2.2.2.2).trans HSS.o.2.2⟩ (.inl rfl)
      exact trivial
     case fin=>
      intro fq wz lq hl hall hS;have a0:fq 0=_:=hall 0 (by decide);have a1:fq 1=_:=hall 1 (by decide);have a2:fq 2=_:=hall 2 (by decide);have a3:fq 3=_:=hall 3 (by decide);have a4:fq 4=_:=hall 4 (by decide);have a5:fq 5=_:=hall 5 (by decide)
      have a6:∃b,(fq 6)=.slice (some ⟨b,0,none⟩) 1 1/\((lq 7)=false->(lq 10)=false->wz.heap[b]?=some (.cells #[.int .i64 gh.1.h,.bool gh.1.d,.int .i64 gh.1.w] 56)):=hall 6 (by decide);have a7:((lq 10)=false->AppF Y 56 3 (y.P.length+1) (pkCells y.P++[.int .i64 gh.1.h,.bool gh.1.d,.int .i64 gh.1.w]) vQ (fq 7) wz):=hall 7 (by decide);have a8:fq 8=_:=hall 8 (by decide);have a9:fq 9=_:=hall 9 (by decide)
      have a10:∃v9 w9,AppF Y 56 3 (y.P.length+1) (pkCells y.P++[.int .i64 gh.1.h,.bool gh.1.d,.int .i64 gh.1.w]) vQ v9 w9/\wz=w9.setCell ⟨px,5,none⟩ v9:=hall 10 (by decide);clear hall;obtain⟨v9,w9,hap,hwz⟩:=a10;clear a0 a1 a2 a3 a4 a5 a6 a7 a8 a9 hq rr;obtain⟨wE,rfl⟩:=exE wz;have hpk:pkCells (y.P++[gh.1])=pkCells y.P++[.int .i64 gh.1.h,.bool gh.1.d,.int .i64 gh.1.w]:=by simp[pkCells]
      have hap':AppF Y 56 3 (y.P++[gh.1]).length (pkCells (y.P++[gh.1])) vQ v9 w9:=by rw[hpk,List.length_append];exact hap
      obtain⟨hx9,hxp9⟩:=IsX.way HXY.o HBoxC.o HFQ.o HCQ.o HPQ.o hap';rw[<-hwz] at hx9 hxp9;have hsee:=HXY.o.sees hxp9;have HXE:=Jh hx9;have HXpE:=Jh hxp9;have H2E:=Jh hS.2.1;have H4E:=Jh (hsee.2 _ _ _ _ (by decide) (by decide) (by decide) H4C.o);have H9E:=Jh (hsee.2 _ _ _ _ (by decide) (by decide) (by decide) H9C.o)
      have HCl:=Jh (HIH.o f' (by have:=HF'.out;omega) gh.2.1 _ ⟨y.S,y.F,y.P++[gh.1]⟩ wE HMs.o (by have:=HM.o.2;have:=HF'.out;omega) (HEY.o.sees hsee) (HSt.o.sees hsee) hx9 (HGY.o.xp HXY.o hxp9) HSl.o (by rw[List.length_append];exact HPl.o));obtain⟨r,hr⟩:=exE (dfs l (stopW hw want) f gh.2.1 ⟨y.S,y.F,y.P++[gh.1]⟩)
      have HCl:=Jh (show Calls Tryz.prog 40 #[.pointer (some ⟨px,0,none⟩),.agg #[.slice E1 4 e1,.slice E2 4 e2,.slice E3 4 e3,.slice ED n eD,.slice ET n eT]] wE fun e w'=>e=.returned (.bool r.1)/\IsX px bm A n c B m d want hw r.2 w'/\Xp px bm wE w' from by rw[hr,HF'.out];exact HCl.o);have HR:=Jh hr;clear hap hap' hpk hwz hx9 hxp9 hsee hS hr;refine hK1 _ _ ?_;clear hK1 hl;refine wpIn_seq_k fun K2 hK2=>?_
      have HK2:=Jh hK2;clear hK2;obtain⟨z0,_⟩:=cell1 H2E.o;obtain⟨s0,s1,s2,s3,s4,_⟩:=cells5 H9E.o
      gi_wp2_with fail
      refine⟨trivial,(CallsIn.inRound l0 (callsIn_wide.2 HCl.o)).mono ?_⟩;rintro e w10 ⟨rfl,hx10,hxp10⟩;have hsee:=HXE.o.sees hxp10;have H4F:=Jh (hsee.2 _ _ _ _ (by decide) (by decide) (by decide) H4E.o);have H2F:=Jh (hsee.2 _ _ _ _ (by decide) (by decide) (by decide) H2E.o);have HXF:=Jh hx10;have HXpF:=Jh (HXpE.o.trans hxp10);obtain⟨u4,v4⟩:=cell1 H4F.o;clear hx10 hxp10 hsee z0 s0 s1 s2 s3 s4
      have hfold:∀q,(pre++[gh]).map (·.1)=q->q=pre.map (·.1)++[gh.1]:=fun q h=>by rw[<-h];simp
      have HFo:=Jh (show((pre++[gh]).map (·.1)).foldl (stepX (dfs l (stopW hw want) f) l s) (false,⟨ky::x.S,x.F,x.P⟩)=stepX (dfs l (stopW hw want) f) l s (false,y) gh.1 from by rw[hfold _ rfl,List.foldl_append,HI1.o];rfl);clear hfold;cases hb:r.1 with
      |true=>
       have HSy:=Jh ((step_yes (D:=dfs l (stopW hw want) f) (b:=y) HNx.o (by rw[<-HR.o];exact hb)).trans (HR.o.symm.trans (Prod.ext hb rfl:r=(true,r.2))));clear hb
       gi_wp2_with fail
       refine⟨⟨?_,fun k o hk ho hc=>?_⟩,rfl,⟨r.2,HFo.o.trans HSy.o,HXF.o.set4 H4F.o⟩,(HXw.o.trans HXpF.o).set4 H4F.o (by have:=HN.o;omega),set_same H4F.o _⟩
       ·have:=HXpF.o.size;simpa using this
       refine(set_other _ (fun e=>?_)).trans (HXpF.o.obj k o ho hc (by have:=HBm.o;omega));have k9:=H4F.o;rw[<-e,HXpF.o.obj k o ho hc (by have:=HBm.o;omega)] at k9;injection k9 with k9
       subst k9;cases hc
      |false=>
       have HSn:=Jh (step_no (D:=dfs l (stopW hw want) f) (b:=y) HNx.o (by rw[<-HR.o];exact hb));rw[<-HR.o] at HSn;have hgr:=(dfs_grow HPr.o (stopW hw want) f' gh.2.1 ⟨y.S,y.F,y.P++[gh.1]⟩ (by rw[HL.o];exact HSt.o.ok) HMs.o).p;rw[<-HF'.out,<-HR.o] at hgr;have hPr:r.2.P=y.P++[gh.1]:=hgr hb;obtain⟨vJ,vR,hbox2,⟨cs2,hF2,hC2⟩,hP2⟩:=HXF.o.box
       obtain⟨gR,cR,hvR,hncR⟩:∃gR cR,vR=.slice (some ⟨gR,0,none⟩) r.2.P.length cR/\r.2.P.length<=cR:=by
        rcases own_forms hP2 with⟨_,h0⟩|⟨gR,cR,h1,_,h2⟩
        ·rw[hPr,List.length_append] at h0;exact absurd h0 (Nat.succ_ne_zero _)
        exact⟨gR,cR,h1,h2⟩
       obtain⟨nR,hnR⟩:=exE (r.2.P.length);obtain⟨mR,hmR⟩:=exE (y.P.length);have hnm:nR=mR+1:=by rw[hnR,hmR,hPr,List.length_append];rfl
       rw[<-hnR] at hvR hncR hP2;subst hvR;have HBoxF:=Jh hbox2;have HFF:=Jh hF2;have HCF:=Jh hC2;have HPF:=Jh hP2;have HPr2:=Jh hPr;have HMR:=Jh (And.intro hnR hmR);have HNM:=Jh hnm
       have HNR:=Jh (show IntKind.i64.wrap (nR:Int)=(nR:Int)/\IntKind.i64.wrap ((nR:Int)-1)=(mR:Int)/\((mR:Int)<=(cR:Int)/\(0:Int)<=(mR:Int)/\(mR:Int)<=(nR:Int)/\mR<=cR/\IntKind.i64.wrap (mR:Int)=(mR:Int)) from by have h1:=HFl.o;refine⟨IntWalk.i64_in _ (by omega),?_,by omega,by omega,by omega,by omega,IntWalk.i64_in _ (by omega)⟩;rw[show((nR:Int)-1)=(mR:Int) by omega];exact IntWalk.i64_in _ (by omega))
       clear hb hgr hPr hbox2 hF2 hC2 hP2 hnR hmR hnm hncR u4 v4
       gi_wp2_with fail
       refine HK2.o _ _ ?_;have hq:∀(k:Nat) (l:Nat->Bool) (wx:World),((l 14=false->Below w10.heap.size w10 wx))->(((decide (14=k)||l 14)=false->Below w10.heap.size w10 wx)):=fun k l wx h=>fun g=>h (Bool.or_eq_false_iff.1 g).2;have rr:∀{iv:Nat} (wx:World),(iv=14\/wx=wx):=fun _=>.inr rfl
       refine wpIn_region_det (by kernel_rfl) (fun f=>(⟨#[Value.pointer (some ⟨px,0,none⟩),Value.agg #[Value.slice A1 4 c1,Value.slice A2 4 c2,Value.slice A3 4 c3,Value.slice AD n cD,Value.slice AT n cT],Value.pointer (some ⟨b2,0,none⟩),Value.pointer (some ⟨b3,0,none⟩),Value.pointer (some ⟨b4,0,none⟩),Value.string {data:=ky.toArray},fo 9,Value.bool false,Value.pointer (some ⟨b8,0,none⟩),Value.pointer (some ⟨b9,0,none⟩),Value.agg #[Value.slice A1 4 c1,Value.slice A2 4 c2,Value.slice A3 4 c3,Value.slice AD n cD,Value.slice AT n cT],Value.string {data:=ky.toArray},Value.pointer (some ⟨px,0,none⟩),Value.pointer (some ⟨px,0,none⟩),Value.pointer (some ⟨px,1,none⟩),Value.map (some bm),Value.string {data:=ky.toArray},.int .i64 0,Value.bool false,Value.pointer (some ⟨px,0,none⟩),Value.pointer (some ⟨px,0,none⟩),Value.pointer (some ⟨px,1,none⟩),Value.map (some bm),Value.string {data:=ky.toArray},fo 6,fo 0,fo 1,fo 2,fo 3,fo 4,fo 5,fo 7,fo 8,Value.bool false,undef,undef,undef,undef,undef,undef,undef,undef,undef,undef,undef,undef,undef,undef,undef,undef,undef,undef,undef,undef,undef,undef,fp 0,fp 1,fp 2,fp 3,fp 4,Value.func (Fn.func 96) #[] #[Value.pointer (some ⟨bS,0,none⟩),Value.pointer (some ⟨bP,0,none⟩)],Value.agg #[.int .i64 gh.1.h,Value.bool gh.1.d,.int .i64 gh.1.w],Value.agg #[Value.slice E1 4 e1,Value.slice E2 4 e2,Value.slice E3 4 e3,Value.slice ED n eD,Value.slice ET n eT],fq 0,fq 1,fq 2,fq 3,fq 4,fq 5,fq 6,fq 7,fq 8,fq 9,Value.pointer (some ⟨px,0,none⟩),Value.agg #[Value.slice E1 4 e1,Value.slice E2 4 e2,Value.slice E3 4 e3,Value.slice ED n eD,Value.slice ET n eT],Value.bool false,f 0,f 1,f 2,f 3,f 4,f 5,f 6,f 7,f 8,f 9,f 10,f 11,f 12,f 13],[]⟩:Act)) (fun(iv:Nat) (lv:Nat->Bool) (fv:Nat->Value) (wx:World)=>match iv with|0=>fv 0=.pointer (some ⟨px,0,none⟩)|1=>fv 1=.pointer (some ⟨px,0,none⟩)|2=>fv 2=.pointer (some ⟨px,0,none⟩)|3=>fv 3=.pointer (some ⟨px,5,none⟩)|4=>fv 4=.slice (some ⟨gR,0,none⟩) nR cR|5=>fv 5=.pointer (some ⟨px,0,none⟩)|6=>fv 6=.pointer (some ⟨px,0,none⟩)|7=>fv 7=.pointer (some ⟨px,5,none⟩)|8=>fv 8=.slice (some ⟨gR,0,none⟩) nR cR|9=>fv 9=.int .i64 nR|10=>fv 10=.int .i64 mR|11=>fv 11=.slice (some ⟨gR,0,none⟩) mR cR|12=>fv 12=.pointer (some ⟨px,0,none⟩)|13=>fv 13=.pointer (some ⟨px,5,none⟩)|14=>∃w9,Below w10.heap.size w10 w9/\wx=w9.setCell ⟨px,5,none⟩ (.slice (some ⟨gR,0,none⟩) mR cR)|_=>True) (fun(lv:Nat->Bool) (wx:World)=>(lv 14=false->Below w10.heap.size w10 wx)) (fun(iv:Nat) (w1:World) (w2:World)=>(iv=14\/w1=w2)) (by kernel_rfl) (fun k=>match k with|_=>undef) rfl ?keep (fun _=>bD (bR w10)) ?steps ?fin
       case keep=>
        intro iv j hij hd l f f' w1 w2 hf hR
        match j with
        |0|1|2|3|4|5|6|7|8|9|10|11|12|13=>exact fun h=>(hf _ (Ne.symm hij)).trans h
        |14=>intro h;have h:∃w9,Below w10.heap.size w10 w9/\w1=w9.setCell ⟨px,5,none⟩ (.slice (some ⟨gR,0,none⟩) mR cR):=h;show∃w9,Below w10.heap.size w10 w9/\w2=w9.setCell ⟨px,5,none⟩ (.slice (some ⟨gR,0,none⟩) mR cR);exact hR.elim (fun e=>absurd e hij) fun e=>e▸h
        |_+15=>exact id
       case steps=>
        refine fun iv hiv=>stepsOf_atIn (k:=0) (m:=15) ?_ iv (Nat.zero_le _) (by rw[Nat.zero_add];exact hiv);refine stepsOf_consIn (k:=0) (m:=14) ?_ ?_
        ·refine stepOf_runIn (fun _=>trivial) (at0) [] (by kernel_rfl) (fun _ _=>rfl) (fun f wq l hl hun hdn hS hd K' hK=>?_);clear hd;have HK:=Jh hK;clear hK;have z0:=(cell1 (blk_below (hS (hun 14 (of_decide_eq_true (by kernel_rfl)))) H2F.o)).1;have HSS:=Jh hS;clear hS;go_simp;exact HK.o _ _ _ rfl rfl (hq 0 l _ HSS.o) (rr _)
        refine stepsOf_consIn (k:=1) (m:=13) ?_ ?_
        ·refine stepOf_runIn (fun _=>trivial) (atS (at0)) [] (by kernel_rfl) (fun _ _=>rfl) (fun f wq l hl hun hdn hS hd K' hK=>?_);clear hd;have HK:=Jh hK;clear hK;have z0:=(cell1 (blk_below (hS (hun 14 (of_decide_eq_true (by kernel_rfl)))) H2F.o)).1;have HSS:=Jh hS;clear hS;go_simp;exact HK.o _ _ _ rfl rfl (hq 1 l _ HSS.o) (rr _)
        refine stepsOf_consIn (k:=2) (m:=12) ?_ ?_
        ·refine stepOf_runIn (fun _=>trivial) (atS (atS (at0))) [1] (by kernel_rfl) (fun _ _=>rfl) (fun f wq l hl hun hdn hS hd K' hK=>?_);obtain⟨e1,-⟩:=hd;have e1:f 1=_:=e1;have HK:=Jh hK;clear hK;have HSS:=Jh hS;clear hS;simp only[e1];go_simp;exact HK.o _ _ _ (by simp only[e1];rfl) rfl (hq 2 l _ HSS.o) (rr _)
        refine stepsOf_consIn (k:=3) (m:=11) ?_ ?_
        ·refine stepOf_runIn (fun _=>trivial) (atS (atS (atS (at0)))) [2] (by kernel_rfl) (fun _ _=>rfl) (fun f wq l hl hun hdn hS hd K' hK=>?_);obtain⟨e2,-⟩:=hd;have e2:f 2=_:=e2;have HK:=Jh hK;clear hK;have HSS:=Jh hS;clear hS;simp only[e2];go_simp;exact HK.o _ _ _ (by simp only[e2];rfl) rfl (hq 3 l _ HSS.o) (rr _)
        refine stepsOf_consIn (k:=4) (m:=10) ?_ ?_
        ·refine stepOf_runIn (fun _=>trivial) (atS (atS (atS (atS (at0))))) [3] (by kernel_rfl) (fun _ _=>rfl) (fun f wq l hl hun hdn hS hd K' hK=>?_);obtain⟨e3,-⟩:=hd;have e3:f 3=_:=e3;have HK:=Jh hK;clear hK;obtain⟨z0,z1,z2,z3,z4,z5⟩:=cells6 (blk_below (hS (hun 14 (of_decide_eq_true (by kernel_rfl)))) HBoxF.o);have HSS:=Jh hS;clear hS;simp only[e3];go_simp
         exact HK.o _ _ _ (by simp only[e3];rfl) rfl (hq 4 l _ HSS.o) (rr _)
        refine stepsOf_consIn (k:=5) (m:=9) ?_ ?_
        ·refine stepOf_runIn (fun _=>trivial) (atS (atS (atS (atS (atS (at0)))))) [] (by kernel_rfl) (fun _ _=>rfl) (fun f wq l hl hun hdn hS hd K' hK=>?_);clear hd;have HK:=Jh hK;clear hK;have z0:=(cell1 (blk_below (hS (hun 14 (of_decide_eq_true (by kernel_rfl)))) H2F.o)).1;have HSS:=Jh hS;clear hS;go_simp;exact HK.o _ _ _ rfl rfl (hq 5 l _ HSS.o) (rr _)
        refine stepsOf_consIn (k:=6) (m:=8) ?_ ?_
        ·refine stepOf_runIn (fun _=>trivial) (atS (atS (atS (atS (atS (atS (at0))))))) [5] (by kernel_rfl) (fun _ _=>rfl) (fun f wq l hl hun hdn hS hd K' hK=>?_);obtain⟨e5,-⟩:=hd;have e5:f 5=_:=e5;have HK:=Jh hK;clear hK;have HSS:=Jh hS;clear hS;simp only[e5];go_simp;exact HK.o _ _ _ (by simp only[e5];rfl) rfl (hq 6 l _ HSS.o) (rr _)
        refine stepsOf_consIn (k:=7) (m:=7) ?_ ?_
        ·refine stepOf_runIn (fun _=>trivial) (atS (atS (atS (atS (atS (atS (atS (at0)))))))) [6] (by kernel_rfl) (fun _ _=>rfl) (fun f wq l hl hun hdn hS hd K' hK=>?_);obtain⟨e6,-⟩:=hd;have e6:f 6=_:=e6;have HK:=Jh hK;clear hK;have HSS:=Jh hS;clear hS;simp only[e6];go_simp;exact HK.o _ _ _ (by simp only[e6];rfl) rfl (hq 7 l _ HSS.o) (rr _)
        refine stepsOf_consIn (k:=8) (m:=6) ?_ ?_
        ·refine stepOf_runIn (fun _=>trivial) (atS (atS (atS (atS (atS (atS (atS (atS (at0))))))))) [7] (by kernel_rfl) (fun _ _=>rfl) (fun f wq l hl hun hdn hS hd K' hK=>?_);obtain⟨e7,-⟩:=hd;have e7:f 7=_:=e7;have HK:=Jh hK;clear hK;obtain⟨z0,z1,z2,z3,z4,z5⟩:=cells6 (blk_below (hS (hun 14 (of_decide_eq_true (by kernel_rfl)))) HBoxF.o);have HSS:=Jh hS;clear hS;simp only[e7];go_simp
         exact HK.o _ _ _ (by simp only[e7];rfl) rfl (hq 8 l _ HSS.o) (rr _)
        refine stepsOf_consIn (k:=9) (m:=5) ?_ ?_
        ·refine stepOf_runIn (fun _=>trivial) (atS (atS (atS (atS (atS (atS (atS (atS (atS (at0)))))))))) [8] (by kernel_rfl) (fun _ _=>rfl) (fun f wq l hl hun hdn hS hd K' hK=>?_);obtain⟨e8,-⟩:=hd;have e8:f 8=_:=e8;have HK:=Jh hK;clear hK;have hsub:=HNR.o.1;have HSS:=Jh hS;clear hS;simp only[e8];go_simp;exact HK.o _ _ _ (by simp only[e8];rfl) rfl (hq 9 l _ HSS.o) (rr _)
        refine stepsOf_consIn (k:=10) (m:=4) ?_ ?_
        ·refine stepOf_runIn (fun _=>trivial) (atS (atS (atS (atS (atS (atS (atS (atS (atS (atS (at0))))))))))) [9] (by kernel_rfl) (fun _ _=>rfl) (fun f wq l hl hun hdn hS hd K' hK=>?_);obtain⟨e9,-⟩:=hd;have e9:f 9=_:=e9;have HK:=Jh hK;clear hK;have hsub:=HNR.o.2.1;have HSS:=Jh hS;clear hS;simp only[e9];go_simp;exact HK.o _ _ _ (by simp only[e9];rfl) rfl (hq 10 l _ HSS.o) (rr _)
        refine stepsOf_consIn (k:=11) (m:=3) ?_ ?_
        ·refine stepOf_runIn (fun _=>trivial) (atS (atS (atS (atS (atS (atS (atS (atS (atS (atS (atS (at0)))))))))))) [4,10] (by kernel_rfl) (fun _ _=>rfl) (fun f wq l hl hun hdn hS hd K' hK=>?_);obtain⟨e4,e10,-⟩:=hd;have e4:f 4=_:=e4;have e10:f 10=_:=e10;have HK:=Jh hK;clear hK;obtain⟨hm0,hm1,hm2,hm3,hm4⟩:=HNR.o.2.2;have HSS:=Jh hS;clear hS;simp only[e4,e10];go_simp
         exact HK.o _ _ _ (by simp only[e4,e10];rfl) rfl (hq 11 l _ HSS.o) (rr _)
        refine stepsOf_consIn (k:=12) (m:=2) ?_ ?_
        ·refine stepOf_runIn (fun _=>trivial) (atS (atS (atS (atS (atS (atS (atS (atS (atS (atS (atS (atS (at0))))))))))))) [0] (by kernel_rfl) (fun _ _=>rfl) (fun f wq l hl hun hdn hS hd K' hK=>?_);obtain⟨e0,-⟩:=hd;have e0:f 0=_:=e0;have HK:=Jh hK;clear hK;have HSS:=Jh hS;clear hS;simp only[e0];go_simp;exact HK.o _ _ _ (by simp only[e0];rfl) rfl (hq 12 l _ HSS.o) (rr _)
        refine stepsOf_consIn (k:=13) (m:=1) ?_ ?_
        ·refine stepOf_runIn (fun _=>trivial) (atS (atS (atS (atS (atS (atS (atS (atS (atS (atS (atS (atS (atS (at0)))))))))))))) [12] (by kernel_rfl) (fun _ _=>rfl) (fun f wq l hl hun hdn hS hd K' hK=>?_);obtain⟨e12,-⟩:=hd;have e12:f 12=_:=e12;have HK:=Jh hK;clear hK;have HSS:=Jh hS;clear hS;simp only[e12];go_simp;exact HK.o _ _ _ (by simp only[e12];rfl) rfl (hq 13 l _ HSS.o) (rr _)
        refine stepsOf_consIn (k:=14) (m:=0) ?_ ?_
        ·refine stepOf_runIn (fun _=>trivial) (atS (atS (atS (atS (atS (atS (atS (atS (atS (atS (atS (atS (atS (atS (at0))))))))))))))) [11,13] (by kernel_rfl) (fun _ _=>rfl) (fun f wq l hl hun hdn hS hd K' hK=>?_);obtain⟨e11,e13,-⟩:=hd;have e11:f 11=_:=e11;have e13:f 13=_:=e13;have HK:=Jh hK;clear hK;have hbq:=hS hl;have hbx:=blk_below hbq HBoxF.o;have hfz:=not_frozen (i:=5) hbx
         obtain⟨z0,z1,z2,z3,z4,z5⟩:=cells6 hbx;have HBq:=Jh hbq;clear hbx hbq;have HSS:=Jh hS;clear hS;simp only[e11,e13];go_simp;exact HK.o undef _ _ (by simp only[e11,e13];rfl) ⟨_,HBq.o,rfl⟩ (fun g=>absurd g (by simp)) (.inl rfl)
        exact trivial
       case fin=>
        intro fr wz lr hl hall hS;have a14:∃w9,Below w10.heap.size w10 w9/\wz=w9.setCell ⟨px,5,none⟩ (.slice (some ⟨gR,0,none⟩) mR cR):=hall 14 (by decide);clear hall;obtain⟨w9,hb9,hwz⟩:=a14;clear hq rr hl hS;have hap:AppF w9 56 3 y.P.length (pkCells y.P) (.slice (some ⟨gR,0,none⟩) nR cR) (.slice (some ⟨gR,0,none⟩) mR cR) w9:=by
         refine⟨?_,.inl rfl,World.grownBy.refl w9 _⟩;have h1:=own_take (m:=mR) (own_tk (T:=[]) HPF.o (Tk.below hb9) (by simp)) (by have:=HNM.o;omega);rw[<-HMR.o.2];have h2:(pkCells r.2.P).take (mR*3)=pkCells y.P:=by
          rw[HPr2.o,HMR.o.2];have:pkCells (y.P++[gh.1])=pkCells y.P++pkCells [gh.1]:=by simp[pkCells]
          rw[this,List.take_left' (pkCells_len y.P)]
         rw[<-h2];exact h1
        obtain⟨hx11,hxp11⟩:=IsX.way (P':=y.P) (HXF.o.below hb9) (blk_below hb9 HBoxF.o) (own_tk (T:=[]) HFF.o (Tk.below hb9) (by simp)) (HCF.o.tk (T:=[]) (Tk.below hb9) (by simp)) (by rw[<-HMR.o.1];exact own_tk (T:=[]) HPF.o (Tk.below hb9) (by simp)) hap;rw[<-hwz] at hx11 hxp11;have hfin:=HXpF.o.trans ((Xp.below hb9).trans hxp11)
        refine⟨⟨hfin.size,fun k o hk ho hc=>hfin.obj k o ho hc (by have:=HBm.o;omega)⟩,hfin.kp,⟨_,HFo.o.trans HSn.o,?_,HXpY.o.trans hfin⟩⟩;rw[HPr2.o,List.dropLast_concat];exact hx11
    case done=>
     rintro D ys Y hD hSy ⟨y,h1,h2,h3⟩ hK;have HR:=Jh (show dfs l (stopW hw want) (f+1) s x=(false,y) by rw[HD.o,<-HKy.o,<-hSy];exact h1);have H4Y:=Jh ((HXD.o.sees h3).2 _ _ _ _ (by decide) (by decide) (by decide) H4D.o);have HY2:=Jh h2;have HY3:=Jh (HXpD.o.trans h3);have HKD:=Jh hK;have HDl:=Jh hD;obtain⟨u4,v4⟩:=cell1 H4Y.o;clear hSy h1 h2 h3 hK hD;go_wp2
     have hgD:(Y.setCell ⟨b4,0,none⟩ (.bool false)).heap[D]?=some (.deferred (some [])):=(set_other _ (fun e=>by have k:=HKD.o;rw[e,H4Y.o] at k;cases k)).trans HKD.o;refine⟨by simp,.inl ⟨_,_,rfl,run_takeDeferred hgD,?_⟩⟩;have hgr:=grownBy_putObj' (Y.setCell ⟨b4,0,none⟩ (.bool false)) D (.deferred none)
     have hr9:∀r,some D=some r->wD.heap.size<=r/\∃o:Obj,(Y.setCell ⟨b4,0,none⟩ (.bool false)).heap[r]?=some o/\o.isCells=false:=fun r e=>by cases e;exact⟨HDl.o,_,hgD,rfl⟩
     refine⟨_,ret_bool4 rfl rfl (cells_grown (set_same H4Y.o _) hgr (fun r e=>(hr9 r e).2)),by rw[HR.o],?_,?_⟩
     ·rw[HR.o];exact(HY2.o.set4 H4Y.o).from_ hgr HBm.o hr9
     exact(HY3.o.set4 H4Y.o (by have:=HN.o;omega)).from_ hgr HLw.o hr9
    case stop=>
     rintro D cx pre Y hD hSp ⟨rfl,⟨y,h1,h2⟩,h3,h4⟩ hK;have HR:=Jh (show dfs l (stopW hw want) (f+1) s x=(true,y) by obtain⟨t,ht⟩:=hSp;rw[HD.o,<-HKy.o,<-ht,List.foldl_append,h1,fold_true]);have hgr:=grownBy_putObj' Y D (.deferred none);have hr9:∀r,some D=some r->wD.heap.size<=r/\∃o:Obj,Y.heap[r]?=some o/\o.isCells=false:=fun r e=>by cases e;exact⟨hD,_,hK,rfl⟩
     have k4:=cells_grown h4 hgr (fun r e=>(hr9 r e).2);have k2:=h2.from_ hgr HBm.o hr9;have k3:=h3.from_ hgr HLw.o hr9;clear h1 h2 h3 h4 hSp
     gi_wp2
     refine⟨by simp,.inl ⟨_,_,rfl,run_takeDeferred hK,?_⟩⟩;exact⟨_,ret_bool4 rfl rfl k4,by rw[HR.o],by rw[HR.o];exact k2,k3⟩
end Go.Proofs.YtnigadeohmlpiaaGreatDoor
