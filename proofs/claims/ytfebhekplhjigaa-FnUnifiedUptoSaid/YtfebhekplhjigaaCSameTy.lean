/-
  TYPES THAT ARE THE SAME.
-/
import Derived.Test.YtfebhekplhjigaaSL
open List(length_cons length_nil all_eq_true any_eq_true all_eq_false any_eq_false)
open Nat(reduceEqDiff reduceLeDiff reduceAdd reduceLT reduceMul)
set_option linter.unusedSimpArgs false
set_option linter.unusedVariables false
namespace Go.Ab
set_option maxRecDepth 100000
set_option maxHeartbeats 4000000
mutual
def aa.same:aa->aa->Bool
 | .mk k n m kids,y=>decide (k=y.Kind)&&decide (n=y.N)&&decide (m=y.Name)&&aa.yu kids y.Kids
def aa.yu:List aa->List aa->Bool
 | [],[]=>true
 |x::l,y::m=>x.same y&&aa.yu l m
 |_,_=>false
end
theorem aa.aeK:∀(l m:List aa),aa.yu l m=oE aa.same l m
 | [],[]=>by simp[aa.yu,oE]
 | [],_::_=>by simp[aa.yu,oE]
 |_::_,[]=>by simp[aa.yu,oE]
 |x::l,y::m=>by simp[aa.yu,oE,aa.aeK l m]
theorem aa.ac3(x y:aa):x.same y=(decide (x.Kind=y.Kind)&&decide (x.N=y.N)&&decide (x.Name=y.Name)&&oE aa.same x.Kids y.Kids):=by
 cases x;rw[aa.same,aa.aeK];rfl
end Go.Ab
namespace Go.Proofs.Ab
open Go.Ab
set_option maxRecDepth 100000
set_option maxHeartbeats 4000000
theorem aa0(x y:aa)(hb:x.wt<=1048576):a7 Try.prog F.hZ [x.av,y.av] (.v (.bool (x.same y))):=by
 have hw:=x.dH;have hv:=x.ac3 y;refine T.wI rfl (by simp[AV.ae,aa.ag]) ?_;simp only[T.hZ,aa.cells,aa.isAgg,aa.storable,WA,reduceAdd]
 repeat' (first|(simp(disch:=(first|omega|rfl|exact rfl|(simp only[an,length_cons,length_nil];done)|exact aa.width _)) only[fu,tW,hd,aa.cells,aa.isAgg,aa.storable,aH,WA,reduceAdd])|(simp(disch:=(first|omega|rfl|exact rfl|(simp only[an,length_cons,length_nil];done)|exact aa.width _)) only[fu,hd,aa.cells,aa.isAgg,aa.storable,aa.eta,bW,bR,aH,fZ,WA,reduceEqDiff,reduceAdd,reduceLT,reduceLeDiff,reduceMul,reduceIte,reduceCtorEq,Int.reduceEq,Int.reduceLT,Int.reduceLE,Int.reduceNe])|(simp(disch:=(first|omega|rfl|exact rfl|(simp only[an,length_cons,length_nil];done)|exact aa.width _)) only[hd,aa.cells,WA])|(simp(disch:=(first|omega|rfl|exact rfl|(simp only[an,length_cons,length_nil];done)|exact aa.width _)) only[hix,hd,aa.cells,aa.isAgg,aa.storable,aa.eta,bW,bR,aH,fZ,WA,reduceEqDiff,reduceAdd,reduceLT,reduceLeDiff,reduceMul,reduceIte,reduceCtorEq,Int.reduceEq,Int.reduceLT,Int.reduceLE,Int.reduceNe])|(simp(disch:=(first|omega|rfl|exact rfl|(simp only[an,length_cons,length_nil];done)|exact aa.width _)) only[hd,aa.cells,aa.isAgg,aa.storable,aa.eta,bW,bR,aH,fZ,WA,reduceEqDiff,reduceAdd,reduceLT,reduceLeDiff,reduceMul,reduceIte,reduceCtorEq,Int.reduceEq,Int.reduceLT,Int.reduceLE,Int.reduceNe])|(simp(disch:=(first|omega|rfl|exact rfl|(simp only[an,length_cons,length_nil];done)|exact aa.width _)) only[aa.cells,WA])|(refine aG (λ hq=> ?_) (λ hq=> ?_)<;>(try simp only[hq,decide_true,decide_false,Bool.not_true,Bool.not_false,Bool.not_eq_true',Bool.not_eq_false']))|(refine aZ (λ hq=> ?_) (λ hq=> ?_)<;>(try simp only[hq,decide_true,decide_false,Bool.not_true,Bool.not_false]))|(refine aE (λ hq=> ?_) (λ hq=> ?_)<;>(try simp only[hq]))|(refine aB ?_)|(refine anr x.Kids y.Kids (by omega) (λ i (_:Unit)=>[au i]) (λ _ rest aeP _=>oE aa.same x.Kids y.Kids=oE aa.same rest aeP) () rfl ?_ (λ i k y rest aeP b hi hm hmy fu tW hd vn hg=> ?_) (λ b hd vn hg=> ?_))|(refine bu (aa0 k _ (by have:=cY aa.wt hm;omega)) ?_))
 all_goals first|(first|(simp_all [oE];done)|(simp_all [-all_eq_true,-any_eq_true,-all_eq_false,-any_eq_false];done)|(simp_all []<;>(intros;omega))|(simp_all [-all_eq_true,-any_eq_true,-all_eq_false,-any_eq_false]<;>(intros;omega))|(refine avb ?_;simp_all []<;>(intros;omega))|(refine avb ?_;simp_all [-all_eq_true,-any_eq_true,-all_eq_false,-any_eq_false]<;>(intros;omega)))|(rw[hv,aar _ _ _ (by omega)];simp)
termination_by SizeOf.sizeOf x
decreasing_by all_goals exact aa.cW hm
theorem nP(x y:aa)(hb:x.wt<=1048576):a7 Try.prog F.fp [x.av,y.av] (.v (.bool (x.same y))):=by
 have hw:=x.dH;have hv:=x.ac3 y;refine T.xa rfl (by simp[AV.ae,aa.ag]) ?_;simp only[T.fp,aa.cells,aa.isAgg,aa.storable,WA,reduceAdd]
 repeat' (first|(simp(disch:=(first|omega|rfl|exact rfl|(simp only[an,length_cons,length_nil];done)|exact aa.width _)) only[aa.cells,WA])|(refine aG (λ hq=> ?_) (λ hq=> ?_)<;>(try simp only[hq,decide_true,decide_false]))|(refine aZ (λ hq=> ?_) (λ hq=> ?_)<;>(try simp only[hq,decide_true,decide_false,Bool.not_true,Bool.not_false,Bool.not_eq_true',Bool.not_eq_false']))|(refine aE (λ hq=> ?_) (λ hq=> ?_)<;>(try simp only[hq,decide_true,decide_false,Bool.not_true,Bool.not_false,Bool.not_eq_true',Bool.not_eq_false']))|(refine aB ?_)|(refine bu (avY x.Kids y.Kids _ [] aa.same (by omega) rfl (λ k hm z _=>nP k z (by have:=cY aa.wt hm;omega))) ?_))
 all_goals (first|(simp_all;done)|(simp_all [-all_eq_true,-any_eq_true,-all_eq_false,-any_eq_false];done)|(simp_all<;>(intros;omega))|(simp_all [-all_eq_true,-any_eq_true,-all_eq_false,-any_eq_false]<;>(intros;omega))|(refine avb ?_;simp_all<;>(intros;omega))|(refine avb ?_;simp_all [-all_eq_true,-any_eq_true,-all_eq_false,-any_eq_false]<;>(intros;omega)))
termination_by SizeOf.sizeOf x
decreasing_by all_goals exact aa.cW hm
end Go.Proofs.Ab
