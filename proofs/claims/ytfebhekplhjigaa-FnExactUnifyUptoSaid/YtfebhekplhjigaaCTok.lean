/-
  TOKENS, TYPES, CONSTRUCTORS: what TokenOk, TyOk and FindCtor compute.
-/
import Derived.Test.YtfebhekplhjigaaCLex
open Nat(reduceEqDiff reduceLeDiff reduceAdd reduceLT reduceMul)
set_option linter.unusedVariables false
set_option linter.unusedSimpArgs false
namespace Go.Ab
def emp:ByteArray:=⟨#[]⟩
end Go.Ab
namespace Go.Proofs.Ab
open Go.Ab
set_option maxRecDepth 100000
set_option maxHeartbeats 4000000
theorem alw(s:ByteArray)(hs:s.size<=1048576):a7 Try.prog F.fK [cv s,.v (.bool false)] (.v (.bool (lV (λ c=>oa c 97 122) s))):=by
 have:=acH s false hs;simpa using this
theorem aeD(s:ByteArray):a7 Try.prog F.jw [cv s] (.v (.bool (ae7 s))):=by
 refine T.aaq rfl rfl ?_;simp only[T.jw,AV.cells,AV.bO,awL,asC,ath,e_c,asN,awN,true_and,List.length_cons,List.length_nil,Nat.zero_add];have hk:eJ (List.replicate 19 (AV.v (.string ⟨#[]⟩))) [(0,cv ⟨#[116,121,112,101]⟩),(1,cv ⟨#[111,102]⟩),(2,cv ⟨#[108,101,116]⟩),(3,cv ⟨#[114,101,99]⟩),(4,cv ⟨#[105,110]⟩),(5,cv ⟨#[102,117,110]⟩),(6,cv ⟨#[105,102]⟩),(7,cv ⟨#[116,104,101,110]⟩),(8,cv ⟨#[101,108,115,101]⟩),(9,cv ⟨#[109,97,116,99,104]⟩),(10,cv ⟨#[119,105,116,104]⟩),(11,cv ⟨#[101,110,100]⟩),(12,cv ⟨#[116,114,117,101]⟩),(13,cv ⟨#[102,97,108,115,101]⟩),(14,cv ⟨#[114,101,102]⟩),(15,cv ⟨#[114,101,97,100]⟩),(16,cv ⟨#[112,114,105,110,116]⟩),(17,cv ⟨#[101,120,105,116]⟩),(18,cv ⟨#[115,105,122,101]⟩)]=rS.map cv:=rfl;have hk2:([cv s]++ [AV.sl (rS.map cv)]:List AV)= [cv s,.sl (rS.map cv)]:=rfl;simp only[List.map_cons,List.map_nil,e_c];rw[hk,hk2];simp only[am3];refine aN ?_;simp only[WA,reduceEqDiff,reduceAdd,reduceLT,reduceLeDiff,reduceMul,reduceIte,reduceCtorEq,Int.reduceEq,Int.reduceLT,Int.reduceLE,Int.reduceNe];refine sT rS.length (λ i=>ae7 s=((rS.drop i).any λ y=>decide (s=y))) (λ i=>[aO i]) rfl rfl λ i hi hI=> ?_
 simp only[WA,reduceEqDiff,reduceAdd,reduceLT,reduceLeDiff,reduceMul,reduceIte,reduceCtorEq,Int.reduceEq,Int.reduceLT,Int.reduceLE,Int.reduceNe];refine ba (λ h=> ?_) (λ h=> ?_)
 ·have aw:i<rS.length:=by omega
  have hn:rS.length=19:=rfl;rw[ab6 aw,List.any_cons]at hI;have hg:(rS.map cv).getD i .top=cv rS[i]:=by simp[List.getD,aw]
  simp only[hg,dt,AV.cells,WA,reduceEqDiff,reduceAdd,reduceLT,reduceLeDiff,reduceMul,reduceIte,reduceCtorEq,Int.reduceEq,Int.reduceLT,Int.reduceLE,Int.reduceNe];refine⟨by omega,aw,?_⟩;refine ba (λ h=> ?_) (λ h=> ?_)
  ·rw[decide_eq_true h.symm]at hI;simp[hI,WA,reduceEqDiff,reduceAdd,reduceLT,reduceLeDiff,reduceMul,reduceIte,reduceCtorEq,Int.reduceEq,Int.reduceLT,Int.reduceLE,Int.reduceNe]
  ·rw[decide_eq_false (λ q=>h q.symm)]at hI;simp(disch:=omega) only[aG,WA,reduceEqDiff,reduceAdd,reduceLT,reduceLeDiff,reduceMul,reduceIte,reduceCtorEq,Int.reduceEq,Int.reduceLT,Int.reduceLE,Int.reduceNe];exact⟨aw,by simpa using hI⟩
 ·have he:i=rS.length:=by omega
  subst he;rw[aea]at hI;simp[hI,WA,reduceEqDiff,reduceAdd,reduceLT,reduceLeDiff,reduceMul,reduceIte,reduceCtorEq,Int.reduceEq,Int.reduceLT,Int.reduceLE,Int.reduceNe]
theorem aeB(s:ByteArray)(hs:s.size<=1048576):a7 Try.prog F.jv [cv s] (.v (.bool (alF s))):=by
 refine T.aap rfl rfl ?_;simp only[T.jv,WA,reduceEqDiff,reduceAdd,reduceLT,reduceLeDiff,reduceMul,reduceIte,reduceCtorEq,Int.reduceEq,Int.reduceLT,Int.reduceLE,Int.reduceNe]
 repeat' (first|(simp(disch:=omega) only[WA,reduceEqDiff,reduceAdd,reduceLT,reduceLeDiff,reduceMul,reduceIte,reduceCtorEq,Int.reduceEq,Int.reduceLT,Int.reduceLE,Int.reduceNe])|(refine ba (λ _=> ?_) (λ _=> ?_))|(refine bC (λ _=> ?_) (λ _=> ?_))|(refine aS (λ _=> ?_) (λ _=> ?_))|(refine aN ?_)|(refine bo (alw _ hs) ?_)|(refine bo (aeD _) ?_))
 all_goals simp_all [alF]
theorem afe(s:ByteArray)(hs:s.size<=1048576):a7 Try.prog F.jH [cv s] (.v (.bool (alF s))):=by
 refine T.abt rfl rfl ?_;simp only[T.jH,WA,reduceEqDiff,reduceAdd,reduceLT,reduceLeDiff,reduceMul,reduceIte,reduceCtorEq,Int.reduceEq,Int.reduceLT,Int.reduceLE,Int.reduceNe]
 repeat' (first|(simp(disch:=omega) only[WA,reduceEqDiff,reduceAdd,reduceLT,reduceLeDiff,reduceMul,reduceIte,reduceCtorEq,Int.reduceEq,Int.reduceLT,Int.reduceLE,Int.reduceNe])|(refine ba (λ _=> ?_) (λ _=> ?_))|(refine bC (λ _=> ?_) (λ _=> ?_))|(refine aS (λ _=> ?_) (λ _=> ?_))|(refine aN ?_)|(refine bo (acY _ _ _ (λ c _ _=>wL c) hs) ?_)|(refine bo (afh _) ?_))
 all_goals simp_all [alF]
end Go.Proofs.Ab
