/-
  Sizes of types.
-/
import Derived.Test.YtdbbmffachgajaaGreatCSmall
import Derived.Test.YtdbbmffachgajaaGreatGM
set_option maxHeartbeats 4000000
set_option maxRecDepth 100000
open List(getElem_mem map_append sum_append)
set_option linter.unusedVariables false
set_option linter.unusedSimpArgs false
namespace Go.Ab
mutual
def ai.dZ:ai->Nat
 | .mk _ _ _ kids=>1+ai.ajY kids
def ai.ajY:List ai->Nat
 | []=>0
 |x::l=>x.dZ+ai.ajY l
end
theorem ai.yz:∀l:List ai,ai.ajY l=(l.map ai.dZ).sum
 | []=>rfl
 |x::l=>by rw[ai.ajY,ai.yz l];rfl
theorem ai.jV(x:ai):x.dZ=1+(x.Kids.map ai.dZ).sum:=by cases x;rw[ai.dZ,ai.yz];rfl
theorem ai.xn(x:ai):x.dZ<=x.wt+1:=by
 have h1:=x.jV;have h2:=x.dY
 have h3:∀l:List ai,(∀y∈l,y.dZ<=y.wt+1)->(l.map ai.dZ).sum<=l.length+(l.map ai.wt).sum:=by
  intro l
  induction l with
  |nil=>intro _;simp
  |cons y l ih=>
   intro h;have:=h y (by simp);have:=ih λ z hz=>h z (by simp[hz])
   simp only[List.map_cons,List.sum_cons,List.length_cons];omega
 have:=h3 x.Kids λ y hy=>ai.xn y
 omega
termination_by SizeOf.sizeOf x
decreasing_by all_goals exact ai.cT hy
end Go.Ab
namespace Go.Proofs.Ab
open Go.Ab
theorem wP(x:ai)(hb:x.wt<=1048576):aW Tryz.prog F.mg [x.av] (aD x.dZ):=by
 have hw:=x.dY;have hv:=x.jV;have hvl:=x.xn;refine T.acH rfl (by simp[AV.ae,ai.ag]) ?_;simp only[T.mg,ai.B,WA,seval];refine aG [aD x.dZ] rfl ?_ ?_
 ·simp only[ai.cells,WA,seval];refine sV x.Kids.length (λ i=>[aD ((1+((x.Kids.take i).map ai.dZ).sum:Nat):Int),aD i]) rfl λ i hi=> ?_
  simp only[WA,seval];refine aC (λ h=> ?_) (λ h=> ?_)
  ·have aK:i<x.Kids.length:=by omega
   have hkw:=eH ai.wt (getElem_mem aK);simp only[ai.cells,WA,seval];refine fS ai.av aK (ai.width _) ?_;simp only[ai.B,WA,seval];refine aJ (wP x.Kids[i] (by omega)) ?_
   have hs:((x.Kids.take (i+1)).map ai.dZ).sum=((x.Kids.take i).map ai.dZ).sum+(x.Kids[i]).dZ:=by
    rw[List.take_succ_eq_append_getElem aK,map_append,sum_append];simp
   have hle:((x.Kids.take (i+1)).map ai.dZ).sum<=(x.Kids.map ai.dZ).sum:=by
    conv=>rhs;rw[←List.take_append_drop (i+1) x.Kids,map_append,sum_append]
    omega
   have hw2:IntKind.i64.wrap (((1+((x.Kids.take i).map ai.dZ).sum:Nat):Int)+((x.Kids[i]).dZ:Int))=((1+((x.Kids.take (i+1)).map ai.dZ).sum:Nat):Int):=by
    rw[cE (by omega) (by omega)];omega
   simp(disch:=omega) only[hw2,aI,WA,seval]
   first|exact aK|exact⟨aK,rfl⟩
  ·have he:i=x.Kids.length:=by omega
   subst he;rw[List.take_length];simp only[WA,seval];simp only[←hv,seval]
 ·simp only[WA,seval]
termination_by SizeOf.sizeOf x
decreasing_by all_goals exact ai.cT (getElem_mem aK)
theorem wK(x:ai)(hb:x.wt<=1048576):aW Tryz.prog F.mc [x.av] (aD x.dZ):=by
 have hw:=x.dY;have hv:=x.jV;have hvl:=x.xn;refine T.acn rfl (by simp[AV.ae,ai.ag]) ?_;simp only[T.mc,ai.B,WA,seval];refine aG [aD x.dZ] rfl ?_ ?_
 ·simp only[WA,seval];refine sV x.Kids.length (λ i=>[aD ((1+((x.Kids.take i).map ai.dZ).sum:Nat):Int),aD i]) rfl λ i hi=> ?_
  simp only[ai.cells,List.length_map,WA,seval];refine aC (λ h=> ?_) (λ h=> ?_)
  ·have aK:i<x.Kids.length:=by omega
   have hkw:=eH ai.wt (getElem_mem aK);simp only[ai.cells,WA,seval];refine fS ai.av aK (ai.width _) ?_;simp only[ai.B,WA,seval];refine aJ (wK x.Kids[i] (by omega)) ?_
   have hs:((x.Kids.take (i+1)).map ai.dZ).sum=((x.Kids.take i).map ai.dZ).sum+(x.Kids[i]).dZ:=by
    rw[List.take_succ_eq_append_getElem aK,map_append,sum_append];simp
   have hle:((x.Kids.take (i+1)).map ai.dZ).sum<=(x.Kids.map ai.dZ).sum:=by
    conv=>rhs;rw[←List.take_append_drop (i+1) x.Kids,map_append,sum_append]
    omega
   have hw2:IntKind.i64.wrap (((1+((x.Kids.take i).map ai.dZ).sum:Nat):Int)+((x.Kids[i]).dZ:Int))=((1+((x.Kids.take (i+1)).map ai.dZ).sum:Nat):Int):=by
    rw[cE (by omega) (by omega)];omega
   simp(disch:=omega) only[hw2,aI,WA,seval]
   first|exact aK|exact⟨aK,rfl⟩
  ·have he:i=x.Kids.length:=by omega
   subst he;rw[List.take_length];simp only[WA,seval];simp only[←hv,seval]
 ·simp only[WA,seval]
termination_by SizeOf.sizeOf x
decreasing_by all_goals exact ai.cT (getElem_mem aK)
end Go.Proofs.Ab
