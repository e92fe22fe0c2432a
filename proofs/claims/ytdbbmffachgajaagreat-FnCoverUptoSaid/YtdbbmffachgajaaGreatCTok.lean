/-
  TOKENS, TYPES, CONSTRUCTORS: what TokenOk, TyOk and FindCtor compute.
-/
import Derived.Test.YtdbbmffachgajaaGreatCLex
set_option maxHeartbeats 4000000
set_option maxRecDepth 100000
set_option linter.unusedVariables false
set_option linter.unusedSimpArgs false
namespace Go.Ab
def emp:ByteArray:=⟨#[]⟩
end Go.Ab
namespace Go.Proofs.Ab
open Go.Ab
theorem atC(s:ByteArray)(hs:s.size<=1048576):aW Tryz.prog F.dL [oJ s,.v (.bool false)] (.v (.bool (py (λ c=>my c 97 122) s))):=by
 have:=ag2 s false hs;simpa using this
theorem ajU(s:ByteArray):aW Tryz.prog F.ij [oJ s] (.v (.bool (akw s))):=by
 refine T.aei rfl rfl ?_;simp only[T.ij,AV.cells,AV.cB,aLE,aFk,aFM,e_c,aFq,w_go,true_and,List.length_cons,List.length_nil,Nat.zero_add];have hk:kl (List.replicate 19 (AV.v (.string ⟨#[]⟩))) [(0,oJ ⟨#[116,121,112,101]⟩),(1,oJ ⟨#[111,102]⟩),(2,oJ ⟨#[108,101,116]⟩),(3,oJ ⟨#[114,101,99]⟩),(4,oJ ⟨#[105,110]⟩),(5,oJ ⟨#[102,117,110]⟩),(6,oJ ⟨#[105,102]⟩),(7,oJ ⟨#[116,104,101,110]⟩),(8,oJ ⟨#[101,108,115,101]⟩),(9,oJ ⟨#[109,97,116,99,104]⟩),(10,oJ ⟨#[119,105,116,104]⟩),(11,oJ ⟨#[101,110,100]⟩),(12,oJ ⟨#[116,114,117,101]⟩),(13,oJ ⟨#[102,97,108,115,101]⟩),(14,oJ ⟨#[114,101,102]⟩),(15,oJ ⟨#[114,101,97,100]⟩),(16,oJ ⟨#[112,114,105,110,116]⟩),(17,oJ ⟨#[101,120,105,116]⟩),(18,oJ ⟨#[115,105,122,101]⟩)]=tN.map oJ:=rfl;have hk2:([oJ s]++ [AV.sl (tN.map oJ)]:List AV)= [oJ s,.sl (tN.map oJ)]:=rfl;simp only[List.map_cons,List.map_nil,e_c];rw[hk,hk2];simp only[awX];refine aw ?_;simp only[WA,seval];refine sj tN.length (λ i=>akw s=((tN.drop i).any λ y=>decide (s=y))) (λ i=>[aD i]) rfl rfl λ i hi hI=> ?_
 simp only[WA,seval];refine aC (λ h=> ?_) (λ h=> ?_)
 ·have aK:i<tN.length:=by omega
  have hn:tN.length=19:=rfl;rw[vi aK,List.any_cons]at hI;have hg:(tN.map oJ).getD i .top=oJ tN[i]:=by simp[List.getD,aK]
  simp only[hg,cA,AV.cells,WA,seval];refine⟨by omega,aK,?_⟩;refine aC (λ h=> ?_) (λ h=> ?_)
  ·rw[decide_eq_true h.symm]at hI;simp[hI,WA,seval]
  ·rw[decide_eq_false (λ q=>h q.symm)]at hI;simp(disch:=omega) only[aI,WA,seval];exact⟨aK,by simpa using hI⟩
 ·have he:i=tN.length:=by omega
  subst he;rw[wX]at hI;simp[hI,WA,seval]
theorem ajT(s:ByteArray)(hs:s.size<=1048576):aW Tryz.prog F.gB [oJ s] (.v (.bool (ayc s))):=by
 refine T.aeh rfl rfl ?_;simp only[T.gB,WA,seval]
 repeat' (first|(simp(disch:=omega) only[WA,seval])|(refine aC (λ _=> ?_) (λ _=> ?_))|(refine aP (λ _=> ?_) (λ _=> ?_))|(refine aA (λ _=> ?_) (λ _=> ?_))|(refine aw ?_)|(refine aJ (atC _ hs) ?_)|(refine aJ (ajU _) ?_))
 all_goals simp_all [ayc]
theorem akF(s:ByteArray)(hs:s.size<=1048576):aW Tryz.prog F.ql [oJ s] (.v (.bool (ayc s))):=by
 refine T.afo rfl rfl ?_;simp only[T.ql,WA,seval]
 repeat' (first|(simp(disch:=omega) only[WA,seval])|(refine aC (λ _=> ?_) (λ _=> ?_))|(refine aP (λ _=> ?_) (λ _=> ?_))|(refine aA (λ _=> ?_) (λ _=> ?_))|(refine aw ?_)|(refine aJ (ahp _ _ _ (λ c _ _=>y7 c) hs) ?_)|(refine aJ (akH _) ?_))
 all_goals simp_all [ayc]
end Go.Proofs.Ab
