/- Raw triples that came in, as plain data. No condition of ours. -/
import Derived.Test.YtnigadeohmlpiaaGreatDoorC30
import Derived.Test.YtnigadeohmlpiaaGreatDoorC41
set_option maxHeartbeats 32000000
set_option maxRecDepth 100000
namespace Go.Proofs.YtnigadeohmlpiaaGreatDoor
open Go.ChangeShapes Go.WideShapes Go.ChangeAt Go.RowKit
theorem cells54:Tryz.prog.cellsOf 54=3:=by kernel_rfl
section
variable {H : Type} {enc : TypeId × Value -> H}
theorem tri_in{W:World}{base:Nat}{v:Value}{d:DataW H}{p:List MemPlace}(hv:Value.okWide Tryz.prog W .any base 24 v)(h:DataW.Trod enc Tryz.prog W 0 (fun _=>true) true 24 v d p):
  ∃A n c zs,v=.slice A n c/\IsTri W A n zs:=by
 obtain⟨a,n,c,rfl⟩:=okWide_slice Tryz.underlying24 hv;obtain⟨fuel,h⟩:=h;rcases Deep.open_slice Tryz.underlying24 h with⟨e,_⟩|⟨a',len,cap,m,q,D,Pl,e,_,hl,hc,hm,_,hx⟩
 ·have e:[Value.slice a n c]=[.slice none 0 0]:=e;injection e with e
  injection e with e1 e2 e3
  subst e1 e2 e3;exact⟨none,0,0,[],rfl,Rd.nil_ _ _ _,fun x hx=>by cases hx⟩
 have e:[Value.slice a n c]=[.slice (some a') len cap]:=e;injection e with e
 injection e with e1 e2 e3
 subst e1 e2 e3;simp only[if_true] at hm;have hm:=hm.symm;subst hm;rw[cells54] at hx;have hel:∀i,i<n->∃f:Nat->Int,∀r,r<3->I64ok (f r)/\W.cell? ((a'.add (i*3)).add r)=some (.int .i64 (f r)):=fun i hi=>by
  obtain⟨cs',h1,h2⟩:=hx i (by omega);obtain⟨_,hlen,hcell⟩:=World.cells?_some h1;obtain⟨_,har⟩:=arr_in Tryz.underlying54 cells54 h2;obtain⟨f,hf⟩:=Classical.axiomOfChoice (show∀r,∃z:Int,r<3->cs'[r]?=some (.int .i64 z)/\I64ok z from fun r=>by
   by_cases hr:r<3
   ·obtain⟨z,hz⟩:=har r hr;exact⟨z,fun _=>hz⟩
   exact⟨0,fun h=>absurd h hr⟩)
  exact⟨f,fun r hr=>⟨(hf r hr).2,(hcell r (by omega)).trans (hf r hr).1⟩⟩
 obtain⟨f,hf⟩:=Classical.axiomOfChoice (show∀i,∃f:Nat->Int,i<n->∀r,r<3->I64ok (f r)/\W.cell? ((a'.add (i*3)).add r)=some (.int .i64 (f r)) from fun i=>by
  by_cases hi:i<n
  ·obtain⟨x,hx⟩:=hel i hi;exact⟨x,fun _=>hx⟩
  exact⟨fun _=>0,fun h=>absurd h hi⟩)
 refine⟨some a',n,c,(List.range (n*3)).map fun j=>f (j/3) (j%3),rfl,⟨by simp[ints],fun hn=>?_⟩,fun x hx'=>?_⟩
 ·have hc0:=(hf 0 hn 0 (by omega)).2;obtain⟨b,off,spot⟩:=a';have hspot:spot=none:=by simpa[Addr.add] using World.cell?_spot hc0
  subst hspot;refine⟨b,off,rfl,cell_lt (by simpa[Addr.add] using hc0),fun j u hu=>?_⟩;have hj:j<n*3:=by have:=(List.getElem?_eq_some_iff.1 hu).1;simpa[ints] using this
  have hk:=(hf (j/3) (by omega) (j%3) (by omega)).2;rw[add_at,add_at,show off+j/3*3+j%3=off+j by omega] at hk;unfold ints at hu;rw[List.getElem?_map,List.getElem?_map,List.getElem?_range hj] at hu;rw[hk];exact hu
 obtain⟨j,hj,rfl⟩:=List.mem_map.1 hx';have hj:=List.mem_range.1 hj;exact(hf (j/3) (by omega) (j%3) (by omega)).1
end
end Go.Proofs.YtnigadeohmlpiaaGreatDoor
