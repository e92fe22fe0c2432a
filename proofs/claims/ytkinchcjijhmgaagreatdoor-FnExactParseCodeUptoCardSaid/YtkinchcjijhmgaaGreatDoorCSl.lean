/-
  LISTS OF STRINGS AND NUMBERS, searched and compared.
-/
import Derived.Test.YtkinchcjijhmgaaGreatDoorSL
open List(length_cons length_nil)
open Nat(reduceEqDiff reduceLeDiff reduceAdd reduceLT reduceMul)
set_option linter.unusedVariables false
set_option linter.unusedSimpArgs false
namespace Go.Proofs.Ab
open Go.Ab
set_option maxRecDepth 100000
set_option maxHeartbeats 4000000
theorem td(l:List Int):AV.ad (l.map br)=true:=bu (f:=br) (λ _=>rfl)
theorem aik(l:List Int)(g:FuncId)(aX:List AV)(p:Int->Bool)(hl:l.length<=1073741824)(so:AV.ad aX=true)(hc:∀x∈l,aI Tryz.prog g (br x::aX) (.v (.bool (p x)))):
  aI Tryz.prog F.bL [.sl (l.map br),.fn g aX] (br (lr p l 0)):=by
 refine T.jW rfl (by simp[AV.ad,AV.ag,td,so]) ?_;simp only[T.bL,WA,reduceEqDiff,reduceAdd,reduceLT,reduceLeDiff,reduceMul,reduceIte,reduceCtorEq,Int.reduceEq,Int.reduceLT,Int.reduceLE,Int.reduceNe]
 repeat' (first|(simp(disch:=(first|omega|rfl|exact rfl|(simp only[bp,length_cons,length_nil];done))) only[kJ,avv,hd,hdy,cR,dM,aD,lh,WA,reduceEqDiff,reduceAdd,reduceLT,reduceLeDiff,reduceMul,reduceIte,reduceCtorEq,Int.reduceEq,Int.reduceLT,Int.reduceLE,Int.reduceNe])|(simp(disch:=(first|omega|rfl|exact rfl|(simp only[bp,length_cons,length_nil];done))) only[kJ,hd,cR,dM,aD,lh,WA,reduceEqDiff,reduceAdd,reduceLT,reduceLeDiff,reduceMul,reduceIte,reduceCtorEq,Int.reduceEq,Int.reduceLT,Int.reduceLE,Int.reduceNe])|(simp(disch:=(first|omega|rfl|exact rfl|(simp only[bp,length_cons,length_nil];done))) only[hd,hdy,cR,dM,aD,lh,WA,reduceEqDiff,reduceAdd,reduceLT,reduceLeDiff,reduceMul,reduceIte,reduceCtorEq,Int.reduceEq,Int.reduceLT,Int.reduceLE,Int.reduceNe])|(simp(disch:=(first|omega|rfl|exact rfl|(simp only[bp,length_cons,length_nil];done))) only[mD,hd,cR,dM,aD,lh,WA,reduceEqDiff,reduceAdd,reduceLT,reduceLeDiff,reduceMul,reduceIte,reduceCtorEq,Int.reduceEq,Int.reduceLT,Int.reduceLE,Int.reduceNe])|(simp(disch:=(first|omega|rfl|exact rfl|(simp only[bp,length_cons,length_nil];done))) only[hd,cR,dM,aD,lh,WA,reduceEqDiff,reduceAdd,reduceLT,reduceLeDiff,reduceMul,reduceIte,reduceCtorEq,Int.reduceEq,Int.reduceLT,Int.reduceLE,Int.reduceNe])|(simp(disch:=(first|omega|rfl|exact rfl|(simp only[bp,length_cons,length_nil];done))) only[cR,dM,aD,lh,WA,reduceEqDiff,reduceAdd,reduceLT,reduceLeDiff,reduceMul,reduceIte,reduceCtorEq,Int.reduceEq,Int.reduceLT,Int.reduceLE,Int.reduceNe])|(refine aq (λ hq=> ?_) (λ hq=> ?_)<;>(try simp only[hq,decide_true,decide_false,Bool.not_true,Bool.not_false,Bool.not_eq_true',Bool.not_eq_false']))|(refine cn (λ hq=> ?_) (λ hq=> ?_)<;>(try simp only[hq,decide_true,decide_false,Bool.not_true,Bool.not_false,Bool.not_eq_true',Bool.not_eq_false']))|(refine bH (λ hq=> ?_) (λ hq=> ?_)<;>(try simp only[hq,decide_true,decide_false,Bool.not_true,Bool.not_false,Bool.not_eq_true',Bool.not_eq_false']))|(refine aB ?_)|(refine kH l (λ i (_:Unit)=>[br i]) (λ i rest _=>lr p l 0=lr p rest i) () rfl ?_ (λ i k rest b hi hx hm kJ hd hg=> ?_) (λ b hd hg=> ?_))|(refine bj (hc k hm) ?_))
 all_goals first|(have uN:=hg;clear hv;simp_all [lr];done)|(have uN:=hg;simp_all [lr];done)|(have uN:=hg;clear hv;simp_all [lr,-List.all_eq_true,-List.any_eq_true,-List.all_eq_false,-List.any_eq_false];done)|(simp_all [lr];done)|(simp_all [lr,-List.all_eq_true,-List.any_eq_true,-List.all_eq_false,-List.any_eq_false];done)|(refine avb ?_;(try clear hv);simp_all [lr]<;>(intros;omega))|(refine avb ?_;simp_all [lr]<;>(intros;omega))|(simp_all [lr]<;>(intros;omega))|omega
theorem aje(l:List Int)(g:FuncId)(aX:List AV)(p:Int->Bool)(hl:l.length<=1073741824)(so:AV.ad aX=true)(hc:∀x∈l,aI Tryz.prog g (br x::aX) (.v (.bool (p x)))):
  aI Tryz.prog F.bM [.sl (l.map br),.fn g aX] (.v (.bool (l.any p))):=
 T.jc rfl (by simp[AV.ad,AV.ag,td,so]) (amT (aik l g aX p hl so hc))
end Go.Proofs.Ab
