/-
  TYPES THAT ARE THE SAME.
-/
import Derived.Test.YtfebhekplhjigaaSL
open Bool(not_eq_true' not_eq_false')
open List(length_cons length_nil all_eq_true any_eq_true all_eq_false any_eq_false)
open Nat(reduceEqDiff reduceLeDiff reduceAdd reduceLT reduceMul)
set_option linter.unusedVariables false
set_option linter.unusedSimpArgs false
namespace Go.Ab
set_option maxRecDepth 100000
set_option maxHeartbeats 4000000
mutual
def aa.same:aa->aa->Bool
 | .mk k n m kids,y=>decide (k=y.Kind)&&decide (n=y.N)&&decide (m=y.Name)&&aa.xa kids y.Kids
def aa.xa:List aa->List aa->Bool
 | [],[]=>true
 |x::l,y::m=>x.same y&&aa.xa l m
 |_,_=>false
end
theorem aa.ac3:∀(l m:List aa),aa.xa l m=kX aa.same l m
 | [],[]=>by simp[aa.xa,kX]
 | [],_::_=>by simp[aa.xa,kX]
 |_::_,[]=>by simp[aa.xa,kX]
 |x::l,y::m=>by simp[aa.xa,kX,aa.ac3 l m]
theorem aa.abu(x y:aa):x.same y=(decide (x.Kind=y.Kind)&&decide (x.N=y.N)&&decide (x.Name=y.Name)&&kX aa.same x.Kids y.Kids):=by
 cases x;rw[aa.same,aa.ac3];rfl
end Go.Ab
namespace Go.Proofs.Ab
open Go.Ab
set_option maxRecDepth 100000
set_option maxHeartbeats 4000000
theorem zq(x y:aa)(hb:x.wt<=1048576):a7 Try.prog F.gM [x.av,y.av] (.v (.bool (x.same y))):=by
 have hw:=x.bg;have hv:=x.abu y;refine T.vr rfl (by simp[AV.ad,AV.ag,aa.ag]) ?_;simp only[T.gM,aa.cells,aa.isAgg,aa.storable,WA,reduceEqDiff,reduceAdd,reduceLT,reduceLeDiff,reduceMul,reduceIte,reduceCtorEq,Int.reduceEq,Int.reduceLT,Int.reduceLE,Int.reduceNe]
 repeat' (first|(simp(disch:=(first|omega|rfl|exact rfl|(simp only[aq,length_cons,length_nil];done)|exact aa.width _)) only[fw,tZ,hd,ub,aa.cells,aa.isAgg,aa.storable,aa.eta,aK,aS,au,dJ,WA,reduceEqDiff,reduceAdd,reduceLT,reduceLeDiff,reduceMul,reduceIte,reduceCtorEq,Int.reduceEq,Int.reduceLT,Int.reduceLE,Int.reduceNe])|(simp(disch:=(first|omega|rfl|exact rfl|(simp only[aq,length_cons,length_nil];done)|exact aa.width _)) only[fw,hd,aa.cells,aa.isAgg,aa.storable,aa.eta,aK,aS,au,dJ,WA,reduceEqDiff,reduceAdd,reduceLT,reduceLeDiff,reduceMul,reduceIte,reduceCtorEq,Int.reduceEq,Int.reduceLT,Int.reduceLE,Int.reduceNe])|(simp(disch:=(first|omega|rfl|exact rfl|(simp only[aq,length_cons,length_nil];done)|exact aa.width _)) only[hd,ub,aa.cells,aa.isAgg,aa.storable,aa.eta,aK,aS,au,dJ,WA,reduceEqDiff,reduceAdd,reduceLT,reduceLeDiff,reduceMul,reduceIte,reduceCtorEq,Int.reduceEq,Int.reduceLT,Int.reduceLE,Int.reduceNe])|(simp(disch:=(first|omega|rfl|exact rfl|(simp only[aq,length_cons,length_nil];done)|exact aa.width _)) only[hix,hd,aa.cells,aa.isAgg,aa.storable,aa.eta,aK,aS,au,dJ,WA,reduceEqDiff,reduceAdd,reduceLT,reduceLeDiff,reduceMul,reduceIte,reduceCtorEq,Int.reduceEq,Int.reduceLT,Int.reduceLE,Int.reduceNe])|(simp(disch:=(first|omega|rfl|exact rfl|(simp only[aq,length_cons,length_nil];done)|exact aa.width _)) only[hd,aa.cells,aa.isAgg,aa.storable,aa.eta,aK,aS,au,dJ,WA,reduceEqDiff,reduceAdd,reduceLT,reduceLeDiff,reduceMul,reduceIte,reduceCtorEq,Int.reduceEq,Int.reduceLT,Int.reduceLE,Int.reduceNe])|(simp(disch:=(first|omega|rfl|exact rfl|(simp only[aq,length_cons,length_nil];done)|exact aa.width _)) only[aa.cells,aa.isAgg,aa.storable,aa.eta,aK,aS,au,dJ,WA,reduceEqDiff,reduceAdd,reduceLT,reduceLeDiff,reduceMul,reduceIte,reduceCtorEq,Int.reduceEq,Int.reduceLT,Int.reduceLE,Int.reduceNe])|(refine aE (λ hq=> ?_) (λ hq=> ?_)<;>(try simp only[hq,decide_true,decide_false,Bool.not_true,Bool.not_false,not_eq_true',not_eq_false']))|(refine a8 (λ hq=> ?_) (λ hq=> ?_)<;>(try simp only[hq,decide_true,decide_false,Bool.not_true,Bool.not_false,not_eq_true',not_eq_false']))|(refine aD (λ hq=> ?_) (λ hq=> ?_)<;>(try simp only[hq,decide_true,decide_false,Bool.not_true,Bool.not_false,not_eq_true',not_eq_false']))|(refine aB ?_)|(refine alz x.Kids y.Kids (by omega) (λ i (_:Unit)=>[aA i]) (λ _ rest ac7 _=>kX aa.same x.Kids y.Kids=kX aa.same rest ac7) () rfl ?_ (λ i k y rest ac7 b hi hm hmy fw tZ hd ub hg=> ?_) (λ b hd ub hg=> ?_))|(refine bn (zq k _ (by have:=ca aa.wt hm;omega)) ?_))
 all_goals first|(first|(simp_all [kX];done)|(simp_all [kX,-all_eq_true,-any_eq_true,-all_eq_false,-any_eq_false];done)|(simp_all [kX]<;>(intros;omega))|(simp_all [kX,-all_eq_true,-any_eq_true,-all_eq_false,-any_eq_false]<;>(intros;omega))|(refine avb ?_;simp_all [kX]<;>(intros;omega))|(refine avb ?_;simp_all [kX,-all_eq_true,-any_eq_true,-all_eq_false,-any_eq_false]<;>(intros;omega)))|(rw[hv,yW _ _ _ (by omega)];simp)
termination_by SizeOf.sizeOf x
decreasing_by all_goals exact aa.cP hm
theorem qQ(x y:aa)(hb:x.wt<=1048576):a7 Try.prog F.fk [x.av,y.av] (.v (.bool (x.same y))):=by
 have hw:=x.bg;have hv:=x.abu y;refine T.vM rfl (by simp[AV.ad,AV.ag,aa.ag]) ?_;simp only[T.fk,aa.cells,aa.isAgg,aa.storable,WA,reduceEqDiff,reduceAdd,reduceLT,reduceLeDiff,reduceMul,reduceIte,reduceCtorEq,Int.reduceEq,Int.reduceLT,Int.reduceLE,Int.reduceNe]
 repeat' (first|(simp(disch:=(first|omega|rfl|exact rfl|(simp only[aq,length_cons,length_nil];done)|exact aa.width _)) only[aa.cells,aa.isAgg,aa.storable,aa.eta,aK,aS,au,dJ,WA,reduceEqDiff,reduceAdd,reduceLT,reduceLeDiff,reduceMul,reduceIte,reduceCtorEq,Int.reduceEq,Int.reduceLT,Int.reduceLE,Int.reduceNe])|(refine aE (λ hq=> ?_) (λ hq=> ?_)<;>(try simp only[hq,decide_true,decide_false,Bool.not_true,Bool.not_false,not_eq_true',not_eq_false']))|(refine a8 (λ hq=> ?_) (λ hq=> ?_)<;>(try simp only[hq,decide_true,decide_false,Bool.not_true,Bool.not_false,not_eq_true',not_eq_false']))|(refine aD (λ hq=> ?_) (λ hq=> ?_)<;>(try simp only[hq,decide_true,decide_false,Bool.not_true,Bool.not_false,not_eq_true',not_eq_false']))|(refine aB ?_)|(refine bn (atX x.Kids y.Kids _ [] aa.same (by omega) rfl (λ k hm z _=>qQ k z (by have:=ca aa.wt hm;omega))) ?_))
 all_goals (first|(simp_all;done)|(simp_all [-all_eq_true,-any_eq_true,-all_eq_false,-any_eq_false];done)|(simp_all<;>(intros;omega))|(simp_all [-all_eq_true,-any_eq_true,-all_eq_false,-any_eq_false]<;>(intros;omega))|(refine avb ?_;simp_all<;>(intros;omega))|(refine avb ?_;simp_all [-all_eq_true,-any_eq_true,-all_eq_false,-any_eq_false]<;>(intros;omega)))
termination_by SizeOf.sizeOf x
decreasing_by all_goals exact aa.cP hm
end Go.Proofs.Ab
