/- Events that came in, as plain data. No condition of ours. -/
import Derived.Test.YtnigadeohmlpiaaGreatDoorC30
set_option maxHeartbeats 32000000
set_option maxRecDepth 100000
namespace Go.Proofs.YtnigadeohmlpiaaGreatDoor
open Go.ChangeShapes Go.WideShapes Go.ChangeAt Go.RowKit
noncomputable def rowHas (p:Program) (fits:TypeId->Bool):Nat->TypeId->Bool
 |0,_=>false
 |d+1,e=>fits e||match p.underlying e with
  |some (.struct fs)=>fs.any fun f=>rowHas p fits d f.type
  |some (.array _ e')=>rowHas p fits d e'
  |_=>false
theorem rowHas_of{p:Program}{fits:TypeId->Bool}:∀{d:Nat} {e:TypeId} {count off n:Nat},rowAt p fits d e count off n=true->rowHas p fits d e=true
 |0,_,_,_,_,h=>by simp[rowAt] at h
 |d+1,e,count,off,n,h=>by
  unfold rowAt at h;dsimp only at h;split at h
  ·cases h
  unfold rowHas;rw[Bool.or_eq_true] at h⊢;rcases h with h|h
  ·simp only[Bool.and_eq_true] at h;exact .inl h.2
  rw[Bool.and_eq_true] at h;have h:=h.2;right;split at h
  ·rename_i fs hu;rw[Bool.and_eq_true] at h;rw[hu];dsimp only;obtain⟨f,hf,h2⟩:=Array.any_eq_true'.1 h.2;simp only[Bool.and_eq_true] at h2;exact Array.any_eq_true'.2 ⟨f,hf,rowHas_of h2.2⟩
  ·rename_i m e' hu;rw[hu];exact rowHas_of h
  cases h
noncomputable def hasEv (t:TypeId):Bool:=rowHas Tryz.prog (sameLayout Tryz.prog Tryz.prog.depth · 44) Tryz.prog.depth t
theorem evOut_no:(evOut.all fun t=>!hasEv t)=true:=by kernel_rfl
theorem lies_ev{e:TypeId}{count off n:Nat}(h:liesAt Tryz.prog Tryz.prog.depth e count off 44 n=true):e∉evOut:=by
 have h1:hasEv e=true:=by
  obtain⟨d,hd⟩:∃d,Tryz.prog.depth=d+1:=⟨2*(Tryz.prog.types.size+Made.depth)+1,rfl⟩;rw[hd] at h;unfold liesAt at h;rw[Bool.or_eq_true] at h;rcases h with h|h
  ·exact rowHas_of h
  rw[Tryz.underlying44] at h;cases h
 intro he;have h2:=List.all_eq_true.1 evOut_no e he;rw[h1] at h2;cases h2
theorem cells44:Tryz.prog.cellsOf 44=4:=by kernel_rfl
section
variable {H : Type} {enc : TypeId × Value -> H}
theorem ev_in{W:World}{base:Nat}{sp:Nat->Bool}{hd:Bool}{fuel:Nat}{cs:List Value}{x:DataW H×List MemPlace}(h:DataW.trod enc Tryz.prog W base sp hd fuel 44 cs=some x):
  ∃e:Ev,cs=[.int .i64 e.h,.int .i64 e.k,.int .i64 e.a,.int .i64 e.n]:=by
 obtain⟨xs,m,_,_,hl,hxl,hx⟩:=DataW.trod_struct Tryz.underlying44 h;rw[cells44] at hl;have key:∀(i:Nat) (f:Field),#[({name:= "Hart",type:=3,offset:=0,embedded:=false,tag:= "",pkgPath:= "",byteOffset:=0}:Field),
    {name:= "Kind",type:=3,offset:=1,embedded:=false,tag:= "",pkgPath:= "",byteOffset:=8},
    {name:= "At",type:=3,offset:=2,embedded:=false,tag:= "",pkgPath:= "",byteOffset:=16},
    {name:= "N",type:=3,offset:=3,embedded:=false,tag:= "",pkgPath:= "",byteOffset:=24}][i]?=some f->f.type=3->f.offset=i->i<4->∃z:Int,cs[i]?=some (.int .i64 z):=fun i f hf h3 ho hi=>by
  have h1:=hx i f hf;rw[h3,ho,cells3',List.getElem?_eq_getElem (by rw[hxl];exact hi)] at h1;obtain⟨z,e1,_,w1⟩:=DataW.trod_int Tryz.underlying3 h1;refine⟨z,?_⟩;have hil:i<cs.length:=by omega
  rw[List.drop_eq_getElem_cons hil] at e1;rw[List.getElem?_eq_getElem hil];have e2:cs[i]::List.take 0 (List.drop (i+1) cs)=[Value.int .i64 z]:=e1;injection e2 with e2
  rw[e2]
 obtain⟨a,ha⟩:=key 0 _ rfl rfl rfl (by omega);obtain⟨b,hb⟩:=key 1 _ rfl rfl rfl (by omega);obtain⟨c,hc⟩:=key 2 _ rfl rfl rfl (by omega);obtain⟨d,hd⟩:=key 3 _ rfl rfl rfl (by omega);refine⟨⟨a,b,c,d⟩,?_⟩
 match cs,hl with
 |[x0,x1,x2,x3],_=>simp at ha hb hc hd;rw[ha,hb,hc,hd]
theorem evs_in{W:World}{base:Nat}{v:Value}{d:DataW H}{p:List MemPlace}(hv:Value.okWide Tryz.prog W .any base 22 v)(h:DataW.Trod enc Tryz.prog W 0 (fun _=>true) true 22 v d p):
  ∃A n c l,v=.slice A n c/\IsEvs W A n c l/\n<=9223372036854775807:=by
 obtain⟨a,n,c,rfl⟩:=okWide_slice Tryz.underlying22 hv;obtain⟨fuel,h⟩:=h;rcases Deep.open_slice Tryz.underlying22 h with⟨e,_⟩|⟨a',len,cap,m,q,D,Pl,e,_,hl,hc,hm,_,hx⟩
 ·have e:[Value.slice a n c]=[.slice none 0 0]:=e;injection e with e
  injection e with e1 e2 e3
  subst e1 e2 e3;exact⟨none,0,0,[],rfl,⟨rfl,Nat.le_refl _,44,by decide,Row.nil_ _ _ _ _⟩,by omega⟩
 have e:[Value.slice a n c]=[.slice (some a') len cap]:=e;injection e with e
 injection e with e1 e2 e3
 subst e1 e2 e3;simp only[if_true] at hm;have hm:=hm.symm;subst hm;unfold maxLen at hc;rw[cells44] at hx;simp only[Value.okWide,Tryz.underlying22,Cell.okWide,Cell.ok] at hv;obtain⟨hlc,_,_,hspot,row,cells,hsh,hlie⟩:=hv;have hrow:=lies_ev hlie;obtain⟨cur,fz,hblk⟩:∃cur fz,W.heap[a'.block]?=some (.cells cur row fz):=by
  unfold World.shape? at hsh;split at hsh
  ·rename_i cs el fz hb;obtain⟨rfl,_⟩:=Prod.mk.inj (Option.some.inj hsh);exact⟨cs,fz,hb⟩
  cases hsh
 have hel:∀i,i<n->∃x:Ev,W.cell? (a'.add (i*4))=some (.int .i64 x.h)/\W.cell? ((a'.add (i*4)).add 1)=some (.int .i64 x.k)/\W.cell? ((a'.add (i*4)).add 2)=some (.int .i64 x.a)/\W.cell? ((a'.add (i*4)).add 3)=some (.int .i64 x.n):=fun i hi=>by
  obtain⟨cs',h1,h2⟩:=hx i (by omega);obtain⟨_,hlen,hcell⟩:=World.cells?_some h1;obtain⟨x,hcs⟩:=ev_in h2;subst hcs;refine⟨x,?_,(hcell 1 (by omega)).trans rfl,(hcell 2 (by omega)).trans rfl,(hcell 3 (by omega)).trans rfl⟩;have:=(hcell 0 (by omega)).trans rfl;simpa[Addr.add] using this
 obtain⟨f,hf⟩:=Classical.axiomOfChoice (show∀i,∃x:Ev,i<n->W.cell? (a'.add (i*4))=some (.int .i64 x.h)/\W.cell? ((a'.add (i*4)).add 1)=some (.int .i64 x.k)/\W.cell? ((a'.add (i*4)).add 2)=some (.int .i64 x.a)/\W.cell? ((a'.add (i*4)).add 3)=some (.int .i64 x.n) from fun i=>by
  by_cases hi:i<n
  ·obtain⟨x,hx⟩:=hel i hi;exact⟨x,fun _=>hx⟩
  exact⟨⟨0,0,0,0⟩,fun h=>absurd h hi⟩)
 refine⟨some a',n,c,(List.range n).map f,rfl,⟨by simp,hlc,row,hrow,by rw[evCells_len];simp,fun hn=>?_⟩,by omega⟩;obtain⟨b,off,spot⟩:=a';have hspot:spot=none:=hspot;subst hspot;refine⟨b,off,cur,fz,rfl,hblk,fun j u hu=>?_⟩;rw[<-cell_of_row W b (off+j) cur row fz hblk];have hj:j<n*4:=by have:=(List.getElem?_eq_some_iff.1 hu).1;rw[evCells_len] at this;simpa using this
 have hi:j/4<n:=by omega
 obtain⟨k0,k1,k2,k3⟩:=hf (j/4) hi;have hl':((List.range n).map f)[j/4]?=some (f (j/4)):=by rw[List.getElem?_map,List.getElem?_range hi];rfl
 obtain⟨q0,q1,q2,q3⟩:=ev_at _ _ _ hl';rw[add_at] at k0 k1 k2 k3;rw[add_at] at k1 k2 k3;have hm4:j%4=0\/j%4=1\/j%4=2\/j%4=3:=by omega
 rcases hm4 with e|e|e|e
 ·have ej:j/4*4=j:=by omega
  rw[ej] at q0 k0;rw[hu] at q0;rw[Option.some.inj q0];exact k0
 ·have ej:j/4*4+1=j:=by omega
  rw[ej] at q1;rw[Nat.add_assoc,ej] at k1;rw[hu] at q1;rw[Option.some.inj q1];exact k1
 ·have ej:j/4*4+2=j:=by omega
  rw[ej] at q2;rw[Nat.add_assoc,ej] at k2;rw[hu] at q2;rw[Option.some.inj q2];exact k2
 have ej:j/4*4+3=j:=by omega
 rw[ej] at q3;rw[Nat.add_assoc,ej] at k3;rw[hu] at q3;rw[Option.some.inj q3];exact k3
end
end Go.Proofs.YtnigadeohmlpiaaGreatDoor
