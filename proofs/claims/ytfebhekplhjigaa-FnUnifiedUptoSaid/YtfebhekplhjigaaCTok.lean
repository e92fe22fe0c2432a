/-
  TOKENS, TYPES, CONSTRUCTORS: what TokenOk, TyOk and FindCtor compute.
-/
import Derived.Test.YtfebhekplhjigaaCLex
set_option linter.unusedSimpArgs false
set_option linter.unusedVariables false
namespace Go.Ab
def emp:ByteArray:=⟨#[]⟩
end Go.Ab
namespace Go.Proofs.Ab
open Go.Ab
set_option maxRecDepth 100000
set_option maxHeartbeats 4000000
theorem akD(s:ByteArray)(hs:s.size<=1048576):a7 Try.prog F.fW [bZ s,.v (.bool false)] (.v (.bool (kS (λ c=>l9 c 97 122) s))):=by
 have:=aaT s false hs;simpa using this
theorem acU(s:ByteArray):a7 Try.prog F.jh [bZ s] (.v (.bool (adr s))):=by
 refine T.yk rfl rfl ?_;simp only[T.jh,AV.cells,AV.cg,aw0,asw,atb,e_c,asE,aw2,true_and,List.length_cons,List.length_nil,Nat.zero_add];have hk:eX (List.replicate 19 (AV.v (.string ⟨#[]⟩))) [(0,bZ ⟨#[116,121,112,101]⟩),(1,bZ ⟨#[111,102]⟩),(2,bZ ⟨#[108,101,116]⟩),(3,bZ ⟨#[114,101,99]⟩),(4,bZ ⟨#[105,110]⟩),(5,bZ ⟨#[102,117,110]⟩),(6,bZ ⟨#[105,102]⟩),(7,bZ ⟨#[116,104,101,110]⟩),(8,bZ ⟨#[101,108,115,101]⟩),(9,bZ ⟨#[109,97,116,99,104]⟩),(10,bZ ⟨#[119,105,116,104]⟩),(11,bZ ⟨#[101,110,100]⟩),(12,bZ ⟨#[116,114,117,101]⟩),(13,bZ ⟨#[102,97,108,115,101]⟩),(14,bZ ⟨#[114,101,102]⟩),(15,bZ ⟨#[114,101,97,100]⟩),(16,bZ ⟨#[112,114,105,110,116]⟩),(17,bZ ⟨#[101,120,105,116]⟩),(18,bZ ⟨#[115,105,122,101]⟩)]=px.map bZ:=rfl;have hk2:([bZ s]++ [AV.sl (px.map bZ)]:List AV)= [bZ s,.sl (px.map bZ)]:=rfl;simp only[List.map_cons,List.map_nil,e_c];rw[hk,hk2];simp only[ame];refine aB ?_;simp only[WA];refine oo px.length (λ i=>adr s=((px.drop i).any λ y=>decide (s=y))) (λ i=>[au i]) rfl rfl λ i hi hI=> ?_
 simp only[WA];refine aG (λ h=> ?_) (λ h=> ?_)
 ·have aF:i<px.length:=by omega
  have hn:px.length=19:=rfl;rw[qD aF,List.any_cons]at hI;have hg:(px.map bZ).getD i .top=bZ px[i]:=by simp[List.getD,aF]
  simp only[hg,dI,AV.cells,WA];refine⟨by omega,aF,?_⟩;refine aG (λ h=> ?_) (λ h=> ?_)
  ·rw[decide_eq_true h.symm]at hI;simp[hI,WA]
  ·rw[decide_eq_false (λ q=>h q.symm)]at hI;simp(disch:=omega) only[aH,WA];exact⟨aF,by simpa using hI⟩
 ·have he:i=px.length:=by omega
  subst he;rw[sa]at hI;simp[hI,WA]
theorem acS(s:ByteArray)(hs:s.size<=1048576):a7 Try.prog F.jg [bZ s] (.v (.bool (ahJ s))):=by
 refine T.yj rfl rfl ?_;simp only[T.jg,WA]
 repeat' (first|(simp(disch:=omega) only[WA])|(refine aG (λ _=> ?_) (λ _=> ?_))|(refine aZ (λ _=> ?_) (λ _=> ?_))|(refine aE (λ _=> ?_) (λ _=> ?_))|(refine aB ?_)|(refine bu (akD _ hs) ?_)|(refine bu (acU _) ?_))
 all_goals simp_all [ahJ]
theorem adz(s:ByteArray)(hs:s.size<=1048576):a7 Try.prog F.jr [bZ s] (.v (.bool (ahJ s))):=by
 refine T.zt rfl rfl ?_;simp only[T.jr,WA]
 repeat' (first|(simp(disch:=omega) only[WA])|(refine aG (λ _=> ?_) (λ _=> ?_))|(refine aZ (λ _=> ?_) (λ _=> ?_))|(refine aE (λ _=> ?_) (λ _=> ?_))|(refine aB ?_)|(refine bu (abb _ _ _ (λ c _ _=>tP c) hs) ?_)|(refine bu (adC _) ?_))
 all_goals simp_all [ahJ]
end Go.Proofs.Ab
