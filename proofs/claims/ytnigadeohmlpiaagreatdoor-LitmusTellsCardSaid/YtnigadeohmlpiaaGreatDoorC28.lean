/- Plain law: chapter 13's example. No program in sight but the words of the contracts. -/
import Derived.Test.YtnigadeohmlpiaaGreatDoorC27
set_option maxHeartbeats 32000000
set_option maxRecDepth 100000
namespace Go.Proofs.YtnigadeohmlpiaaGreatDoor
def lAw:List Ev:=[⟨0,2,0,1⟩,⟨0,1,1,0⟩,⟨1,2,1,1⟩,⟨1,1,0,0⟩]
theorem lAw_prog:Prog lAw:=by
 refine⟨by decide,fun e he=>?_,fun e he hk=>?_⟩
 ·simp only[lAw,List.mem_cons,List.not_mem_nil,or_false] at he;rcases he with rfl|rfl|rfl|rfl<;>exact⟨⟨by decide,by decide⟩,⟨by decide,by decide⟩,⟨by decide,by decide⟩,⟨by decide,by decide⟩,fun h=>absurd h (by decide)⟩
 simp only[lAw,List.mem_cons,List.not_mem_nil,or_false] at he;rcases he with rfl|rfl|rfl|rfl
 ·exact absurd hk (by decide)
 ·rfl
 ·exact absurd hk (by decide)
 rfl
def outAw:List (List Int):=[[0,0],[0,1],[1,0],[1,1]]
theorem lAw_outs(z:List Int):(∃xs,playP lAw xs=some z)↔z∈outAw:=by
 constructor
 ·intro h;have h1:=(same_outs lAw_prog z).1 h;obtain⟨m,hm,rfl⟩:=List.mem_map.1 h1;have h2:loadsOf m∈(axAll lAw lAw.length).map loadsOf:=List.mem_map.2 ⟨m,(List.mem_filter.1 hm).1,rfl⟩;have h3:(axAll lAw lAw.length).map loadsOf=outAw:=by rfl
  rw[h3] at h2;exact h2
 intro h;simp only[outAw,List.mem_cons,List.not_mem_nil,or_false] at h;rcases h with rfl|rfl|rfl|rfl
 ·exact⟨[⟨0,false,0⟩,⟨0,false,0⟩,⟨1,false,0⟩,⟨1,false,0⟩],by rfl⟩
 ·exact⟨[⟨0,false,0⟩,⟨0,true,0⟩,⟨0,false,0⟩,⟨1,false,0⟩,⟨1,false,0⟩],by rfl⟩
 ·exact⟨[⟨1,false,0⟩,⟨1,true,0⟩,⟨1,false,0⟩,⟨0,false,0⟩,⟨0,false,0⟩],by rfl⟩
 exact⟨[⟨0,false,0⟩,⟨0,true,0⟩,⟨1,false,0⟩,⟨1,true,0⟩,⟨0,false,0⟩,⟨1,false,0⟩],by rfl⟩
theorem lAw_nil:playP lAw []=none:=by rfl
end Go.Proofs.YtnigadeohmlpiaaGreatDoor
