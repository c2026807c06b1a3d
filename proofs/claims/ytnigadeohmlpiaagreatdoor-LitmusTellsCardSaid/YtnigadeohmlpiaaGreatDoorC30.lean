/- Contracts and words: Arguments that came in, as plain data; what the listed variables give the walks; What a statement owes beside its walk; a world for the witness. No condition of ours. -/
import Derived.Test.YtnigadeohmlpiaaGreatDoorC23
import Derived.Test.YtnigadeohmlpiaaGreatDoorC19
import Derived.Test.YtnigadeohmlpiaaGreatDoorRows
import Derived.ProofKit
import Derived.Deep.Slices
import Derived.Deep.SlicePairs
import Derived.Lib.SmallJoins
import Derived.Lib.LaidTab
import Derived.LaidMore
import Derived.Stop.LaidErr
import Derived.Test.YtnigadeohmlpiaaGreatDoorCards
import Derived.Test.YtnigadeohmlpiaaGreatDoorTie
import Derived.Deep.DeepHandedRow
import Derived.Deep.DeepWitnessRowRef
import Derived.PinnedBridge
set_option maxHeartbeats 32000000
set_option maxRecDepth 100000
namespace Go.Proofs.YtnigadeohmlpiaaGreatDoor
open Go.ChangeShapes Go.WideShapes Go.ChangeAt Go.RowKit
theorem cells50:Tryz.prog.cellsOf 50=4:=by kernel_rfl
theorem cells3':Tryz.prog.cellsOf 3=1:=by kernel_rfl
theorem laidOut':laidOutB Tryz.prog=true:=by kernel_rfl
theorem add_at(b off j:Nat):(Addr.add ⟨b,off,none⟩ j)=⟨b,off+j,none⟩:=add_off b off j
section
variable {H : Type} {enc : TypeId × Value -> H}
theorem arr_in{W:World}{base:Nat}{sp:Nat->Bool}{hd:Bool}{t:TypeId}{q fuel:Nat}{cs:List Value}{x:DataW H×List MemPlace}(ht:Tryz.prog.underlying t=some (.array q 3))(hc:Tryz.prog.cellsOf t=q)(h:DataW.trod enc Tryz.prog W base sp hd fuel t cs=some x):
  cs.length=q/\∀i,i<q->∃z:Int,cs[i]?=some (.int .i64 z)/\I64ok z:=by
 obtain⟨xs,m,_,_,hl,hxl,hx⟩:=DataW.trod_array ht h;rw[hc] at hl;refine⟨hl,fun i hi=>?_⟩;have h1:=hx i hi;rw[cells3',Nat.mul_one,List.getElem?_eq_getElem (by omega)] at h1;obtain⟨z,e1,_,w1⟩:=DataW.trod_int Tryz.underlying3 h1;have hb:=bounds_i64 w1;refine⟨z,?_,by unfold I64ok;omega⟩;have hil:i<cs.length:=by omega
 rw[List.drop_eq_getElem_cons hil] at e1;rw[List.getElem?_eq_getElem hil];have e2:cs[i]::List.take 0 (List.drop (i+1) cs)=[Value.int .i64 z]:=e1;injection e2 with e2
 rw[e2]
theorem raw_in{W:World}{base:Nat}{v:Value}{d:DataW H}{p:List MemPlace}(hv:Value.okWide Tryz.prog W .any base 23 v)(h:DataW.Trod enc Tryz.prog W 0 (fun _=>true) true 23 v d p):
  ∃A n c L,v=.slice A n c/\IsRaw W A n L/\n<=9223372036854775807:=by
 obtain⟨a,n,c,rfl⟩:=okWide_slice Tryz.underlying23 hv;obtain⟨fuel,h⟩:=h;rcases Deep.open_slice Tryz.underlying23 h with⟨e,_⟩|⟨a',len,cap,m,q,D,Pl,e,_,hl,hc,hm,_,hx⟩
 ·have e:[Value.slice a n c]=[.slice none 0 0]:=e;injection e with e
  injection e with e1 e2 e3
  subst e1 e2 e3;exact⟨none,0,0,[],rfl,⟨rfl,Rd.nil_ _ _ _,fun x hx=>by cases hx⟩,by omega⟩
 have e:[Value.slice a n c]=[.slice (some a') len cap]:=e;injection e with e
 injection e with e1 e2 e3
 subst e1 e2 e3;simp only[if_true] at hm;have hm:=hm.symm;subst hm;unfold maxLen at hc;rw[cells50] at hx;have hel:∀i,i<n->∃x:R4,(I64ok x.a/\I64ok x.b/\I64ok x.c/\I64ok x.d)/\W.cell? (a'.add (i*4))=some (.int .i64 x.a)/\W.cell? ((a'.add (i*4)).add 1)=some (.int .i64 x.b)/\W.cell? ((a'.add (i*4)).add 2)=some (.int .i64 x.c)/\W.cell? ((a'.add (i*4)).add 3)=some (.int .i64 x.d):=fun i hi=>by
  obtain⟨cs',h1,h2⟩:=hx i (by omega);obtain⟨_,hlen,hcell⟩:=World.cells?_some h1;obtain⟨_,har⟩:=arr_in Tryz.underlying50 cells50 h2;obtain⟨z0,e0,k0⟩:=har 0 (by omega);obtain⟨z1,e1,k1⟩:=har 1 (by omega);obtain⟨z2,e2,k2⟩:=har 2 (by omega);obtain⟨z3,e3,k3⟩:=har 3 (by omega);refine⟨⟨z0,z1,z2,z3⟩,⟨k0,k1,k2,k3⟩,?_,(hcell 1 (by omega)).trans e1,(hcell 2 (by omega)).trans e2,(hcell 3 (by omega)).trans e3⟩
  have:=(hcell 0 (by omega)).trans e0;simpa[Addr.add] using this
 obtain⟨f,hf⟩:=Classical.axiomOfChoice (show∀i,∃x:R4,i<n->(I64ok x.a/\I64ok x.b/\I64ok x.c/\I64ok x.d)/\W.cell? (a'.add (i*4))=some (.int .i64 x.a)/\W.cell? ((a'.add (i*4)).add 1)=some (.int .i64 x.b)/\W.cell? ((a'.add (i*4)).add 2)=some (.int .i64 x.c)/\W.cell? ((a'.add (i*4)).add 3)=some (.int .i64 x.d) from fun i=>by
  by_cases hi:i<n
  ·obtain⟨x,hx⟩:=hel i hi;exact⟨x,fun _=>hx⟩
  exact⟨⟨0,0,0,0⟩,fun h=>absurd h hi⟩)
 have hlen4:∀L:List R4,(r4Cells L).length=L.length*4:=fun L=>by
  induction L with
  |nil=>rfl
  |cons x L ih=>have:r4Cells (x::L)=[.int .i64 x.a,.int .i64 x.b,.int .i64 x.c,.int .i64 x.d]++r4Cells L:=rfl;rw[this,List.length_append,ih,List.length_cons];simp;omega
 refine⟨some a',n,c,(List.range n).map f,rfl,⟨by simp,⟨by rw[hlen4];simp,fun hn=>?_⟩,fun x hx'=>?_⟩,by omega⟩
 ·obtain⟨_,hc0,_⟩:=hf 0 hn;obtain⟨b,off,spot⟩:=a';have hspot:spot=none:=by simpa[Addr.add] using World.cell?_spot hc0
  subst hspot;refine⟨b,off,rfl,cell_lt (by simpa[Addr.add] using hc0),fun j u hu=>?_⟩;have hj:j<n*4:=by have:=(List.getElem?_eq_some_iff.1 hu).1;rw[hlen4] at this;simpa using this
  have hi:j/4<n:=by omega
  obtain⟨_,k0,k1,k2,k3⟩:=hf (j/4) hi;have hl':((List.range n).map f)[j/4]?=some (f (j/4)):=by rw[List.getElem?_map,List.getElem?_range hi];rfl
  obtain⟨q0,q1,q2,q3⟩:=r4_at _ _ _ hl';rw[add_at] at k0 k1 k2 k3;rw[add_at] at k1 k2 k3;have hm4:j%4=0\/j%4=1\/j%4=2\/j%4=3:=by omega
  rcases hm4 with e|e|e|e
  ·have ej:j/4*4=j:=by omega
   rw[ej] at q0 k0;rw[hu] at q0;rw[Option.some.inj q0];exact k0
  ·have ej:j/4*4+1=j:=by omega
   rw[ej] at q1;rw[Nat.add_assoc,ej] at k1;rw[hu] at q1;rw[Option.some.inj q1];exact k1
  ·have ej:j/4*4+2=j:=by omega
   rw[ej] at q2;rw[Nat.add_assoc,ej] at k2;rw[hu] at q2;rw[Option.some.inj q2];exact k2
  have ej:j/4*4+3=j:=by omega
  rw[ej] at q3;rw[Nat.add_assoc,ej] at k3;rw[hu] at q3;rw[Option.some.inj q3];exact k3
 obtain⟨i,hi,rfl⟩:=List.mem_map.1 hx';exact(hf i (List.mem_range.1 hi)).1
theorem nums_in{W:World}{base:Nat}{v:Value}{d:DataW H}{p:List MemPlace}(hv:Value.okWide Tryz.prog W .any base 32 v)(h:DataW.Trod enc Tryz.prog W 0 (fun _=>true) true 32 v d p):
  ∃A n c zs,v=.slice A n c/\zs.length=n/\Rd W 1 A n (ints zs)/\n<=9223372036854775807/\∀z∈zs,I64ok z:=by
 obtain⟨a0,n0,c0,rfl⟩:=okWide_slice Tryz.underlying32 hv;obtain⟨fuel,h⟩:=h;rcases open_ints Tryz.underlying32 Tryz.underlying3 cells3' h with⟨e,_⟩|⟨a,len,cap,zs,e,_,hl,hc,hz,_,hcell,hwf⟩
 ·have e:[Value.slice a0 n0 c0]=[.slice none 0 0]:=e;injection e with e
  injection e with e1 e2 e3
  subst e1 e2 e3;exact⟨none,0,0,[],rfl,rfl,Rd.nil_ _ _ _,by omega,fun z hz=>by cases hz⟩
 have e:[Value.slice a0 n0 c0]=[.slice (some a) len cap]:=e;injection e with e
 injection e with e1 e2 e3
 subst e1 e2 e3;simp only[if_true] at hz;unfold maxLen at hc;refine⟨some a,n0,c0,zs.take n0,rfl,by rw[List.length_take];omega,⟨by simp[ints];omega,fun hn=>?_⟩,by omega,fun z hz'=>?_⟩
 ·have hc0:=hcell 0 (by omega);obtain⟨b,off,spot⟩:=a;have hspot:spot=none:=by simpa[Addr.add] using World.cell?_spot hc0
  subst hspot;refine⟨b,off,rfl,cell_lt (by simpa[Addr.add] using hc0),fun j u hu=>?_⟩;unfold ints at hu;rw[List.getElem?_map,List.getElem?_take] at hu;split at hu
  ·rename_i hj;have:=hcell j (by omega);rw[List.getD_eq_getElem?_getD] at this;rw[List.getElem?_eq_getElem (by omega)] at this hu;simp only[Option.map_some,Option.some.injEq] at hu;rw[<-hu];exact(add_at b off j▸this)
  simp at hu
 have:=bounds_i64 (hwf z (List.mem_of_mem_take hz'));unfold I64ok;omega
end
theorem gt0:(Tryz.prog.globals[0]?).map (·.type)=some 203:=by kernel_rfl
theorem cells203:Tryz.prog.cellsOf 203=20:=by kernel_rfl
theorem cells119:Tryz.prog.cellsOf 119=1:=by kernel_rfl
theorem glob_laid{W:World}(h:laidMetH Tryz.prog Rows.litmusTellsRow.laid W):Glob W:=by have h0:laidMet Tryz.prog Rows.litmusTellsRow.laid W:=h;have h2:=h0.tail.tail;exact Lib.tabIs_of_head pow_named gt0 Tryz.underlying203 Tryz.underlying119 cells119 cells203 h2
end Go.Proofs.YtnigadeohmlpiaaGreatDoor
namespace Go.Proofs.YtnigadeohmlpiaaGreatDoor
open Go.ChangeShapes Go.WideShapes Go.ChangeAt Go.RowKit
section
variable {H : Type} {enc : TypeId × Value -> H}
theorem keeps_in{W W':World}{t:TypeId}{v:Value}{d:DataW H}{p:List MemPlace}(hr:Tryz.prog.readableRec t=true)(ht:t<Tryz.prog.types.size)(h:DataW.Trod enc Tryz.prog W 0 (fun _=>true) true t v d p)(hb:Below W.heap.size W W')
  (hlt:∀x∈p,x.block<W.heap.size) (sp:Nat->Bool) (hsp:∀x∈p,sp x.block=true):DataW.Trod enc Tryz.prog W' 0 sp true t v d p:=
 WideElems.Trod_stays laidOut' hr ht h (fun x hx=>hb.same (hlt x hx)) hsp
theorem post_of_below{P:Program}{f:Func}{s:ChangeSpec}{apart fresh handsOn again:Bool}{W W':World}{args:Array Value}{v:Value}{ds gs:List (DataW H)}{before pa pv:List MemPlace}
  (hW:DataW.Whole enc P f.params.toList s.vars apart W args.toList ds gs before)
  (hres:∀(b:Nat) (sp:Nat->Bool) (hd:Bool),DataW.TrodAll enc P W' b sp hd f.resultTypes.toList (v.resultList f.resultTypes.size) (s.fn H (ds++gs)).results [])
  (hargs:∀sp:Nat->Bool,(∀p∈before,sp p.block=true)->DataW.TrodAll enc P W' 0 sp true f.params.toList args.toList (s.fn H (ds++gs)).args pa)
  (hvars:∀sp:Nat->Bool,(∀p∈before,sp p.block=true)->DataW.TrodVars enc P W' sp s.vars (s.fn H (ds++gs)).vars pv)
  (hps:before=pa++pv) (hb:Below W.heap.size W W')
  (hok:∀(j:Nat) (t:TypeId) (r:Value),f.resultTypes[j]?=some t->(v.resultList f.resultTypes.size)[j]?=some r->Value.okWide P W' .any 0 t r):
  s.post enc P f apart fresh handsOn again W args v W':=by
 have hlt:∀p∈before,p.block<W.heap.size:=fun p hp=>hW.lt p hp;have hold:∀p∈before,(fun b=>decide (b<W.heap.size)) p.block=true:=fun p hp=>by simpa using hlt p hp
 refine⟨ds,gs,before,[],pa,pv,hW,hres _ _ _,hargs _ hold,hvars _ hold,World.keptBut_mono (fun p hp=>⟨hp,?_⟩) (hb.frame (· ∈before)),fun _=>?_⟩
 ·rw[hps,List.mem_append] at hp;exact Or.inr hp
 obtain⟨_,_,_,_,_,hz,hn⟩:=hW;refine⟨hok,_,_,([]++pa)++pv,⟨[]++pa,pv,trodAll_append (hargs _ (fun _ _=>rfl)) (hres _ _ _),hvars _ (fun _ _=>rfl),rfl,?_,?_⟩,?_⟩
 ·intro b off hp;have hin:MemPlace.cell b off∈before:=by rw[hps];simpa using hp
  rw[hb.frozen (hlt _ hin)];exact hz b off hin
 ·intro ha;have:=hn ha;rw[hps] at this;simpa using this
 intro p hp _;rw[hps];simpa using hp
end
theorem own:ownKnob Tryz.prog.godebug=none:=by kernel_rfl
noncomputable def laidWorld (os:Os):World:=World.doorLaid Tryz.prog 72 os
theorem laid_met(os:Os)(args:Array Value):laidMetH Tryz.prog Rows.litmusTellsRow.laid ((laidWorld os).forCall (fun _ _=>0) ⟨#[],args,[]⟩).memory:=
 laidMetH_of_parts3 (fuel:=8) (laidMet_of_run' 8 (by kernel_rfl) (by kernel_rfl)) (by kernel_rfl) (by kernel_rfl)
end Go.Proofs.YtnigadeohmlpiaaGreatDoor
