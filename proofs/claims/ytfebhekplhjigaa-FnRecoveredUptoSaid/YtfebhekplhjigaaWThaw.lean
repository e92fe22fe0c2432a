/-
  A CALL THAT MAKES A TREE OF ONE's OWN, as one that gives what nobody writes any more.
-/
import Derived.Test.YtfebhekplhjigaaGM
set_option linter.unusedVariables false
set_option linter.unusedSimpArgs false
namespace Go.Ab
set_option maxRecDepth 100000
inductive auu(O:List ae):AV->AV->Prop
 |iF (a b:AV):Frz O a b->auu O a b
 |ba (as bs:List AV):as.length=bs.length->(∀(i:Nat) a b,as[i]? =some a->bs[i]? =some b->Frz O a b)->auu O (.ba as) (.ba bs)
theorem alG{I:dv}{L:Nat->Loc}{O:List ae}{w:World}:xM I L O w=allI I L O w:=by
 funext b o;unfold xM allI;rfl
theorem hD.ayX{P:Program}{f:FuncId}{args:List AV}{a b:AV}{O1:List ae}(h:hD P f args [] a O1)(ht:auu O1 a b):a7 P f args b:=by
 refine⟨h.1,λ I L w vs hi hr=> ?_⟩;refine(h.2 I L w vs hi hr).mono ?_;rintro e w' ⟨y,I',L',rfl,hy,hg⟩;refine⟨y,_,L',rfl,?_,hg.all⟩;rw[←alG];cases ht with
 |iF _ _ hf=>exact hf.sound hg.inv hy
 |ba as bs hl hf=>
  cases hy with
  |ba _ vs h1 h2=>
   exact .ba _ vs (by omega) λ i b x hb hx=>by
    have aF:=(List.getElem?_eq_some_iff.1 hb).1;obtain⟨a,ha⟩:∃a,as[i]? =some a:=⟨as[i]'(by omega),by simp<;>omega⟩;exact(hf i a b ha hb).sound hg.inv (h2 i a x ha hx)
end Go.Ab
