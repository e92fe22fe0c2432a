/-
  BYTES, NAMES, WORDS: what the lexer's small tests compute.
-/
import Derived.Test.YtkinchcjijhmgaaGreatDoorH
import Derived.Test.YtkinchcjijhmgaaGreatDoorSL
open Nat(reduceEqDiff reduceLeDiff reduceAdd reduceLT reduceMul)
set_option linter.unusedVariables false
set_option linter.unusedSimpArgs false
namespace Go.Ab
set_option maxRecDepth 100000
set_option maxHeartbeats 4000000
def jJ(n lo hi:Int):Bool:=decide (lo<=n)&&decide (n<=hi)
def xb(s:ByteArray):Bool:=(bs s).all λ c=>jJ c 32 126||decide (c=10)
end Go.Ab
namespace Go.Proofs.Ab
open Go.Ab
set_option maxRecDepth 100000
set_option maxHeartbeats 4000000
theorem gL(n lo hi:Int):aI Tryz.prog F.cF [br n,br lo,br hi] (.v (.bool (jJ n lo hi))):=by
 refine T.yN rfl rfl ?_;simp only[T.cF,WA,reduceEqDiff,reduceAdd,reduceLT,reduceLeDiff,reduceMul,reduceIte,reduceCtorEq,Int.reduceEq,Int.reduceLT,Int.reduceLE,Int.reduceNe]
 repeat' (first|(simp(disch:=omega) only[WA,reduceEqDiff,reduceAdd,reduceLT,reduceLeDiff,reduceMul,reduceIte,reduceCtorEq,Int.reduceEq,Int.reduceLT,Int.reduceLE,Int.reduceNe])|(refine aq (λ _=> ?_) (λ _=> ?_))|(refine cn (λ _=> ?_) (λ _=> ?_))|(refine bH (λ _=> ?_) (λ _=> ?_))|(refine aB ?_))
 all_goals simp[jJ, *]
theorem fm(n lo hi:Int):aI Tryz.prog F.b5 [br n,br lo,br hi] (.v (.bool (jJ n lo hi))):=by
 refine T.vz rfl rfl ?_;simp only[T.b5,WA,reduceEqDiff,reduceAdd,reduceLT,reduceLeDiff,reduceMul,reduceIte,reduceCtorEq,Int.reduceEq,Int.reduceLT,Int.reduceLE,Int.reduceNe]
 repeat' (first|(simp(disch:=omega) only[WA,reduceEqDiff,reduceAdd,reduceLT,reduceLeDiff,reduceMul,reduceIte,reduceCtorEq,Int.reduceEq,Int.reduceLT,Int.reduceLE,Int.reduceNe])|(refine aq (λ _=> ?_) (λ _=> ?_))|(refine cn (λ _=> ?_) (λ _=> ?_))|(refine bH (λ _=> ?_) (λ _=> ?_))|(refine aB ?_))
 all_goals simp[jJ, *]
theorem aaK(c:Int):aI Tryz.prog F.iG [br c] (.v (.bool (jJ c 48 57))):=by
 refine T.wB rfl rfl ?_;simp only[T.iG,WA,reduceEqDiff,reduceAdd,reduceLT,reduceLeDiff,reduceMul,reduceIte,reduceCtorEq,Int.reduceEq,Int.reduceLT,Int.reduceLE,Int.reduceNe]
 repeat' (first|(simp(disch:=omega) only[WA,reduceEqDiff,reduceAdd,reduceLT,reduceLeDiff,reduceMul,reduceIte,reduceCtorEq,Int.reduceEq,Int.reduceLT,Int.reduceLE,Int.reduceNe])|(refine aq (λ _=> ?_) (λ _=> ?_))|(refine cn (λ _=> ?_) (λ _=> ?_))|(refine bH (λ _=> ?_) (λ _=> ?_))|(refine aB ?_)|(refine bj (gL _ _ _) ?_))
theorem abo(s:ByteArray)(hs:s.size<=1048576):aI Tryz.prog F.iL [bE s] (.v (.bool (xb s))):=by
 have hl:=ep s;refine T.xP rfl rfl ?_;simp only[T.iL,WA,reduceEqDiff,reduceAdd,reduceLT,reduceLeDiff,reduceMul,reduceIte,reduceCtorEq,Int.reduceEq,Int.reduceLT,Int.reduceLE,Int.reduceNe];refine aB ?_;simp only[WA,reduceEqDiff,reduceAdd,reduceLT,reduceLeDiff,reduceMul,reduceIte,reduceCtorEq,Int.reduceEq,Int.reduceLT,Int.reduceLE,Int.reduceNe];refine rL (bs s).length (λ i=>xb s=((bs s).drop i).all λ c=>jJ c 32 126||decide (c=10)) (λ i=>[br i]) rfl rfl λ i hi hI=> ?_
 simp only[WA,reduceEqDiff,reduceAdd,reduceLT,reduceLeDiff,reduceMul,reduceIte,reduceCtorEq,Int.reduceEq,Int.reduceLT,Int.reduceLE,Int.reduceNe];refine aq (λ h=> ?_) (λ h=> ?_)
 ·have au:i<(bs s).length:=by omega
  obtain⟨c0,c1⟩:=iA (List.getElem_mem au);rw[nJ au,List.all_cons]at hI;simp only[WA,reduceEqDiff,reduceAdd,reduceLT,reduceLeDiff,reduceMul,reduceIte,reduceCtorEq,Int.reduceEq,Int.reduceLT,Int.reduceLE,Int.reduceNe];refine aB ?_;simp only[WA,reduceEqDiff,reduceAdd,reduceLT,reduceLeDiff,reduceMul,reduceIte,reduceCtorEq,Int.reduceEq,Int.reduceLT,Int.reduceLE,Int.reduceNe];refine aB ?_;simp only[WA,reduceEqDiff,reduceAdd,reduceLT,reduceLeDiff,reduceMul,reduceIte,reduceCtorEq,Int.reduceEq,Int.reduceLT,Int.reduceLE,Int.reduceNe];refine alf au ?_;simp only[zi c0 c1,WA,reduceEqDiff,reduceAdd,reduceLT,reduceLeDiff,reduceMul,reduceIte,reduceCtorEq,Int.reduceEq,Int.reduceLT,Int.reduceLE,Int.reduceNe];refine bj (fm _ _ _) ?_;simp only[WA,reduceEqDiff,reduceAdd,reduceLT,reduceLeDiff,reduceMul,reduceIte,reduceCtorEq,Int.reduceEq,Int.reduceLT,Int.reduceLE,Int.reduceNe];refine bH (λ h1=> ?_) (λ h1=> ?_)
  ·simp only[WA,reduceEqDiff,reduceAdd,reduceLT,reduceLeDiff,reduceMul,reduceIte,reduceCtorEq,Int.reduceEq,Int.reduceLT,Int.reduceLE,Int.reduceNe];refine alf au ?_;simp only[WA,reduceEqDiff,reduceAdd,reduceLT,reduceLeDiff,reduceMul,reduceIte,reduceCtorEq,Int.reduceEq,Int.reduceLT,Int.reduceLE,Int.reduceNe];refine cn (λ h2=> ?_) (λ h2=> ?_)
   ·simp only[WA,reduceEqDiff,reduceAdd,reduceLT,reduceLeDiff,reduceMul,reduceIte,reduceCtorEq,Int.reduceEq,Int.reduceLT,Int.reduceLE,Int.reduceNe];rw[hI];simp_all
   ·simp(disch:=omega) only[aD,WA,reduceEqDiff,reduceAdd,reduceLT,reduceLeDiff,reduceMul,reduceIte,reduceCtorEq,Int.reduceEq,Int.reduceLT,Int.reduceLE,Int.reduceNe];exact⟨au,by rw[hI];simp[h2]⟩
  ·simp(disch:=omega) only[aD,WA,reduceEqDiff,reduceAdd,reduceLT,reduceLeDiff,reduceMul,reduceIte,reduceCtorEq,Int.reduceEq,Int.reduceLT,Int.reduceLE,Int.reduceNe];exact⟨au,by rw[hI];simp_all⟩
 ·have he:i=(bs s).length:=by omega
  subst he;rw[adA]at hI;simp[hI,WA,reduceEqDiff,reduceAdd,reduceLT,reduceLeDiff,reduceMul,reduceIte,reduceCtorEq,Int.reduceEq,Int.reduceLT,Int.reduceLE,Int.reduceNe]
theorem wD(s:ByteArray)(hs:s.size<=1048576):aI Tryz.prog F.fV [bE s] (.v (.bool (xb s))):=by
 have hl:=ep s;refine T.sO rfl rfl ?_;simp only[T.fV,WA,reduceEqDiff,reduceAdd,reduceLT,reduceLeDiff,reduceMul,reduceIte,reduceCtorEq,Int.reduceEq,Int.reduceLT,Int.reduceLE,Int.reduceNe];refine aB ?_;simp only[WA,reduceEqDiff,reduceAdd,reduceLT,reduceLeDiff,reduceMul,reduceIte,reduceCtorEq,Int.reduceEq,Int.reduceLT,Int.reduceLE,Int.reduceNe];refine rL (bs s).length (λ i=>xb s=((bs s).drop i).all λ c=>jJ c 32 126||decide (c=10)) (λ i=>[br i]) rfl rfl λ i hi hI=> ?_
 simp only[WA,reduceEqDiff,reduceAdd,reduceLT,reduceLeDiff,reduceMul,reduceIte,reduceCtorEq,Int.reduceEq,Int.reduceLT,Int.reduceLE,Int.reduceNe];refine aq (λ h=> ?_) (λ h=> ?_)
 ·have au:i<(bs s).length:=by omega
  obtain⟨c0,c1⟩:=iA (List.getElem_mem au);rw[nJ au,List.all_cons]at hI;simp only[WA,reduceEqDiff,reduceAdd,reduceLT,reduceLeDiff,reduceMul,reduceIte,reduceCtorEq,Int.reduceEq,Int.reduceLT,Int.reduceLE,Int.reduceNe];refine aB ?_;simp only[WA,reduceEqDiff,reduceAdd,reduceLT,reduceLeDiff,reduceMul,reduceIte,reduceCtorEq,Int.reduceEq,Int.reduceLT,Int.reduceLE,Int.reduceNe];refine aB ?_;simp only[WA,reduceEqDiff,reduceAdd,reduceLT,reduceLeDiff,reduceMul,reduceIte,reduceCtorEq,Int.reduceEq,Int.reduceLT,Int.reduceLE,Int.reduceNe];refine alf au ?_;simp only[WA,reduceEqDiff,reduceAdd,reduceLT,reduceLeDiff,reduceMul,reduceIte,reduceCtorEq,Int.reduceEq,Int.reduceLT,Int.reduceLE,Int.reduceNe];refine cn (λ h2=> ?_) (λ h2=> ?_)
  ·simp only[WA,reduceEqDiff,reduceAdd,reduceLT,reduceLeDiff,reduceMul,reduceIte,reduceCtorEq,Int.reduceEq,Int.reduceLT,Int.reduceLE,Int.reduceNe];refine alf au ?_;simp only[zi c0 c1,WA,reduceEqDiff,reduceAdd,reduceLT,reduceLeDiff,reduceMul,reduceIte,reduceCtorEq,Int.reduceEq,Int.reduceLT,Int.reduceLE,Int.reduceNe];refine bj (gL _ _ _) ?_;simp only[WA,reduceEqDiff,reduceAdd,reduceLT,reduceLeDiff,reduceMul,reduceIte,reduceCtorEq,Int.reduceEq,Int.reduceLT,Int.reduceLE,Int.reduceNe];refine bH (λ h1=> ?_) (λ h1=> ?_)
   ·simp only[WA,reduceEqDiff,reduceAdd,reduceLT,reduceLeDiff,reduceMul,reduceIte,reduceCtorEq,Int.reduceEq,Int.reduceLT,Int.reduceLE,Int.reduceNe];rw[hI];simp_all
   ·simp(disch:=omega) only[aD,WA,reduceEqDiff,reduceAdd,reduceLT,reduceLeDiff,reduceMul,reduceIte,reduceCtorEq,Int.reduceEq,Int.reduceLT,Int.reduceLE,Int.reduceNe];exact⟨au,by rw[hI];simp_all⟩
  ·simp(disch:=omega) only[aD,WA,reduceEqDiff,reduceAdd,reduceLT,reduceLeDiff,reduceMul,reduceIte,reduceCtorEq,Int.reduceEq,Int.reduceLT,Int.reduceLE,Int.reduceNe];exact⟨au,by rw[hI];simp[h2]⟩
 ·have he:i=(bs s).length:=by omega
  subst he;rw[adA]at hI;simp[hI,WA,reduceEqDiff,reduceAdd,reduceLT,reduceLeDiff,reduceMul,reduceIte,reduceCtorEq,Int.reduceEq,Int.reduceLT,Int.reduceLE,Int.reduceNe]
end Go.Proofs.Ab
