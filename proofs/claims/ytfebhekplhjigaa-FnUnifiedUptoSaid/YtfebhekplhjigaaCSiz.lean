/-
  Sizes of types.
-/
import Derived.Test.YtfebhekplhjigaaCSmall
import Derived.Test.YtfebhekplhjigaaGM
open List(getElem_mem map_append sum_append)
set_option linter.unusedSimpArgs false
set_option linter.unusedVariables false
namespace Go.Ab
set_option maxRecDepth 100000
set_option maxHeartbeats 4000000
mutual
def aa.dw:aa->Nat
 | .mk _ _ _ kids=>1+aa.aqj kids
def aa.aqj:List aa->Nat
 | []=>0
 |x::l=>x.dw+aa.aqj l
end
theorem aa.aiX:∀l:List aa,aa.aqj l=(l.map aa.dw).sum
 | []=>rfl
 |x::l=>by rw[aa.aqj,aa.aiX l];rfl
theorem aa.lA(x:aa):x.dw=1+(x.Kids.map aa.dw).sum:=by cases x;rw[aa.dw,aa.aiX];rfl
theorem aa.ahb(x:aa):x.dw<=x.wt+1:=by
 have h1:=x.lA;have h2:=x.dH
 have h3:∀l:List aa,(∀y∈l,y.dw<=y.wt+1)->(l.map aa.dw).sum<=l.length+(l.map aa.wt).sum:=by
  intro l
  induction l with
  |nil=>intro _;simp
  |cons y l ih=>
   intro h;have:=h y (by simp);have:=ih λ z hz=>h z (by simp[hz])
   simp only[List.map_cons,List.sum_cons,List.length_cons];omega
 have:=h3 x.Kids λ y hy=>aa.ahb y
 omega
termination_by SizeOf.sizeOf x
decreasing_by all_goals exact aa.cW hy
end Go.Ab
namespace Go.Proofs.Ab
open Go.Ab
set_option maxRecDepth 100000
set_option maxHeartbeats 4000000
set_option maxHeartbeats 4000000
theorem rU(x:aa)(hb:x.wt<=1048576):a7 Try.prog F.gd [x.av] (au x.dw):=by
 have hw:=x.dH;have hv:=x.lA;have hvl:=x.ahb;refine T.wY rfl (by simp[AV.ae,aa.ag]) ?_;simp only[T.gd,aa.cells,aa.isAgg,aa.storable,WA,Nat.reduceAdd];refine cu [au x.dw] rfl ?_ ?_
 ·simp only[aa.cells,WA];refine adl x.Kids.length (λ i=>[au ((1+((x.Kids.take i).map aa.dw).sum:Nat):Int),au i]) rfl λ i hi=> ?_
  simp only[WA];refine aG (λ h=> ?_) (λ h=> ?_)
  ·have aF:i<x.Kids.length:=by omega
   have hkw:=cY aa.wt (getElem_mem aF);simp only[aa.cells,WA];refine lR aa.av aF (aa.width _) ?_;simp only[aa.cells,aa.isAgg,aa.storable,WA,Nat.reduceAdd];refine bu (rU x.Kids[i] (by omega)) ?_
   have hs:((x.Kids.take (i+1)).map aa.dw).sum=((x.Kids.take i).map aa.dw).sum+(x.Kids[i]).dw:=by
    rw[List.take_succ_eq_append_getElem aF,map_append,sum_append];simp
   have hle:((x.Kids.take (i+1)).map aa.dw).sum<=(x.Kids.map aa.dw).sum:=by
    conv=>rhs;rw[←List.take_append_drop (i+1) x.Kids,map_append,sum_append]
    omega
   have hw2:IntKind.i64.wrap (((1+((x.Kids.take i).map aa.dw).sum:Nat):Int)+((x.Kids[i]).dw:Int))=((1+((x.Kids.take (i+1)).map aa.dw).sum:Nat):Int):=by
    rw[bh (by omega) (by omega)];omega
   simp(disch:=omega) only[hw2,aH,WA]
   first|exact aF|exact⟨aF,rfl⟩
  ·have he:i=x.Kids.length:=by omega
   subst he;rw[List.take_length];simp only[WA];simp only[←hv]
 ·simp only[WA]
termination_by SizeOf.sizeOf x
decreasing_by all_goals exact aa.cW (getElem_mem aF)
theorem rN(x:aa)(hb:x.wt<=1048576):a7 Try.prog F.fX [x.av] (au x.dw):=by
 have hw:=x.dH;have hv:=x.lA;have hvl:=x.ahb;refine T.wH rfl (by simp[AV.ae,aa.ag]) ?_;simp only[T.fX,aa.cells,aa.isAgg,aa.storable,WA,Nat.reduceAdd];refine cu [au x.dw] rfl ?_ ?_
 ·simp only[WA];refine adl x.Kids.length (λ i=>[au ((1+((x.Kids.take i).map aa.dw).sum:Nat):Int),au i]) rfl λ i hi=> ?_
  simp only[aa.cells,List.length_map,WA];refine aG (λ h=> ?_) (λ h=> ?_)
  ·have aF:i<x.Kids.length:=by omega
   have hkw:=cY aa.wt (getElem_mem aF);simp only[aa.cells,WA];refine lR aa.av aF (aa.width _) ?_;simp only[aa.cells,aa.isAgg,aa.storable,WA,Nat.reduceAdd];refine bu (rN x.Kids[i] (by omega)) ?_
   have hs:((x.Kids.take (i+1)).map aa.dw).sum=((x.Kids.take i).map aa.dw).sum+(x.Kids[i]).dw:=by
    rw[List.take_succ_eq_append_getElem aF,map_append,sum_append];simp
   have hle:((x.Kids.take (i+1)).map aa.dw).sum<=(x.Kids.map aa.dw).sum:=by
    conv=>rhs;rw[←List.take_append_drop (i+1) x.Kids,map_append,sum_append]
    omega
   have hw2:IntKind.i64.wrap (((1+((x.Kids.take i).map aa.dw).sum:Nat):Int)+((x.Kids[i]).dw:Int))=((1+((x.Kids.take (i+1)).map aa.dw).sum:Nat):Int):=by
    rw[bh (by omega) (by omega)];omega
   simp(disch:=omega) only[hw2,aH,WA]
   first|exact aF|exact⟨aF,rfl⟩
  ·have he:i=x.Kids.length:=by omega
   subst he;rw[List.take_length];simp only[WA];simp only[←hv]
 ·simp only[WA]
termination_by SizeOf.sizeOf x
decreasing_by all_goals exact aa.cW (getElem_mem aF)
end Go.Proofs.Ab
