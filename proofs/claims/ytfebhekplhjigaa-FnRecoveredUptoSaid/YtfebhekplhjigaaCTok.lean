/-
  TOKENS, TYPES, CONSTRUCTORS: what TokenOk, TyOk and FindCtor compute.
-/
import Derived.Test.YtfebhekplhjigaaCLex
open Nat(reduceEqDiff reduceLeDiff reduceAdd reduceLT reduceMul)
set_option linter.unusedVariables false
set_option linter.unusedSimpArgs false
namespace Go.Ab
def emp:ByteArray:=⟨#[]⟩
end Go.Ab
namespace Go.Proofs.Ab
open Go.Ab
set_option maxRecDepth 100000
set_option maxHeartbeats 4000000
theorem aiM(s:ByteArray)(hs:s.size<=1048576):a7 Try.prog F.fN [ch s,.v (.bool false)] (.v (.bool (kg (λ c=>ld c 97 122) s))):=by
 have:=zk s false hs;simpa using this
theorem abl(s:ByteArray):a7 Try.prog F.iP [ch s] (.v (.bool (abP s))):=by
 refine T.wS rfl rfl ?_;simp only[T.iP,AV.cells,AV.cg,au9,aqr,aq9,e_c,aqC,avc,true_and,List.length_cons,List.length_nil,Nat.zero_add];have hk:eX (List.replicate 19 (AV.v (.string ⟨#[]⟩))) [(0,ch ⟨#[116,121,112,101]⟩),(1,ch ⟨#[111,102]⟩),(2,ch ⟨#[108,101,116]⟩),(3,ch ⟨#[114,101,99]⟩),(4,ch ⟨#[105,110]⟩),(5,ch ⟨#[102,117,110]⟩),(6,ch ⟨#[105,102]⟩),(7,ch ⟨#[116,104,101,110]⟩),(8,ch ⟨#[101,108,115,101]⟩),(9,ch ⟨#[109,97,116,99,104]⟩),(10,ch ⟨#[119,105,116,104]⟩),(11,ch ⟨#[101,110,100]⟩),(12,ch ⟨#[116,114,117,101]⟩),(13,ch ⟨#[102,97,108,115,101]⟩),(14,ch ⟨#[114,101,102]⟩),(15,ch ⟨#[114,101,97,100]⟩),(16,ch ⟨#[112,114,105,110,116]⟩),(17,ch ⟨#[101,120,105,116]⟩),(18,ch ⟨#[115,105,122,101]⟩)]=oR.map ch:=rfl;have hk2:([ch s]++ [AV.sl (oR.map ch)]:List AV)= [ch s,.sl (oR.map ch)]:=rfl;simp only[List.map_cons,List.map_nil,e_c];rw[hk,hk2];simp only[akm];refine aB ?_;simp only[WA,reduceEqDiff,reduceAdd,reduceLT,reduceLeDiff,reduceMul,reduceIte,reduceCtorEq,Int.reduceEq,Int.reduceLT,Int.reduceLE,Int.reduceNe];refine nH oR.length (λ i=>abP s=((oR.drop i).any λ y=>decide (s=y))) (λ i=>[aA i]) rfl rfl λ i hi hI=> ?_
 simp only[WA,reduceEqDiff,reduceAdd,reduceLT,reduceLeDiff,reduceMul,reduceIte,reduceCtorEq,Int.reduceEq,Int.reduceLT,Int.reduceLE,Int.reduceNe];refine aE (λ h=> ?_) (λ h=> ?_)
 ·have aF:i<oR.length:=by omega
  have hn:oR.length=19:=rfl;rw[pO aF,List.any_cons]at hI;have hg:(oR.map ch).getD i .top=ch oR[i]:=by simp[List.getD,aF]
  simp only[hg,dG,AV.cells,WA,reduceEqDiff,reduceAdd,reduceLT,reduceLeDiff,reduceMul,reduceIte,reduceCtorEq,Int.reduceEq,Int.reduceLT,Int.reduceLE,Int.reduceNe];refine⟨by omega,aF,?_⟩;refine aE (λ h=> ?_) (λ h=> ?_)
  ·rw[decide_eq_true h.symm]at hI;simp[hI,WA,reduceEqDiff,reduceAdd,reduceLT,reduceLeDiff,reduceMul,reduceIte,reduceCtorEq,Int.reduceEq,Int.reduceLT,Int.reduceLE,Int.reduceNe]
  ·rw[decide_eq_false (λ q=>h q.symm)]at hI;simp(disch:=omega) only[au,WA,reduceEqDiff,reduceAdd,reduceLT,reduceLeDiff,reduceMul,reduceIte,reduceCtorEq,Int.reduceEq,Int.reduceLT,Int.reduceLE,Int.reduceNe];exact⟨aF,by simpa using hI⟩
 ·have he:i=oR.length:=by omega
  subst he;rw[qV]at hI;simp[hI,WA,reduceEqDiff,reduceAdd,reduceLT,reduceLeDiff,reduceMul,reduceIte,reduceCtorEq,Int.reduceEq,Int.reduceLT,Int.reduceLE,Int.reduceNe]
theorem abj(s:ByteArray)(hs:s.size<=1048576):a7 Try.prog F.iO [ch s] (.v (.bool (afX s))):=by
 refine T.wR rfl rfl ?_;simp only[T.iO,WA,reduceEqDiff,reduceAdd,reduceLT,reduceLeDiff,reduceMul,reduceIte,reduceCtorEq,Int.reduceEq,Int.reduceLT,Int.reduceLE,Int.reduceNe]
 repeat' (first|(simp(disch:=omega) only[WA,reduceEqDiff,reduceAdd,reduceLT,reduceLeDiff,reduceMul,reduceIte,reduceCtorEq,Int.reduceEq,Int.reduceLT,Int.reduceLE,Int.reduceNe])|(refine aE (λ _=> ?_) (λ _=> ?_))|(refine a8 (λ _=> ?_) (λ _=> ?_))|(refine aD (λ _=> ?_) (λ _=> ?_))|(refine aB ?_)|(refine bn (aiM _ hs) ?_)|(refine bn (abl _) ?_))
 all_goals simp_all [afX]
theorem abX(s:ByteArray)(hs:s.size<=1048576):a7 Try.prog F.iW [ch s] (.v (.bool (afX s))):=by
 refine T.x6 rfl rfl ?_;simp only[T.iW,WA,reduceEqDiff,reduceAdd,reduceLT,reduceLeDiff,reduceMul,reduceIte,reduceCtorEq,Int.reduceEq,Int.reduceLT,Int.reduceLE,Int.reduceNe]
 repeat' (first|(simp(disch:=omega) only[WA,reduceEqDiff,reduceAdd,reduceLT,reduceLeDiff,reduceMul,reduceIte,reduceCtorEq,Int.reduceEq,Int.reduceLT,Int.reduceLE,Int.reduceNe])|(refine aE (λ _=> ?_) (λ _=> ?_))|(refine a8 (λ _=> ?_) (λ _=> ?_))|(refine aD (λ _=> ?_) (λ _=> ?_))|(refine aB ?_)|(refine bn (zA _ _ _ (λ c _ _=>sP c) hs) ?_)|(refine bn (ab0 _) ?_))
 all_goals simp_all [afX]
end Go.Proofs.Ab
