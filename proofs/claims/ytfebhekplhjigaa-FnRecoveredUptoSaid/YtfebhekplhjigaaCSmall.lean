/-
  TYPES AND CORES THAT ARE RIGHT OR VALUES; THE PLACE OF A CONSTRUCTOR.
-/
import Derived.Test.YtfebhekplhjigaaCTok
import Derived.Test.YtfebhekplhjigaaSL
open Bool(not_eq_true' not_eq_false')
open List(length_cons length_nil all_eq_true any_eq_true all_eq_false any_eq_false)
open Nat(reduceEqDiff reduceLeDiff reduceAdd reduceLT reduceMul)
set_option linter.unusedVariables false
set_option linter.unusedSimpArgs false
namespace Go.Ab
set_option maxRecDepth 100000
set_option maxHeartbeats 4000000
def aa.eT(t:aa):Bool:=
 (decide (t.Kind=7)||decide (t.Name=emp))&&(decide (9<=t.Kind)||decide (t.N=0))&&
  (if t.Kind=1∨t.Kind=2∨t.Kind=3∨t.Kind=4 then decide (t.Kids.length=0)else if t.Kind=5 then decide (t.Kids.length=2)else if t.Kind=6 then decide (2<=t.Kids.length)
   else if t.Kind=7 then afX t.Name else if t.Kind=8 then decide (t.Kids.length=1)else if t.Kind=9∨t.Kind=10∨t.Kind=11 then decide (t.Kids.length=0)&&decide (0<=t.N)else false)
mutual
def aa.iU:aa->Bool
 | .mk k n name kids=>(aa.mk k n name kids).eT&&aa.ahU kids
def aa.ahU:List aa->Bool
 | []=>true
 |x::l=>x.iU&&aa.ahU l
end
theorem aa.anL(l:List aa):aa.ahU l=l.all aa.iU:=by
 induction l with
 |nil=>rfl
 |cons x l ih=>simp only[aa.ahU,ih,List.all_cons]
theorem aa.iw(x:aa):x.iU=(x.eT&&x.Kids.all aa.iU):=by
 cases x;simp only[aa.iU,aa.anL,aa.Kids]
end Go.Ab
namespace Go.Proofs.Ab
open Go.Ab
set_option maxRecDepth 100000
set_option maxHeartbeats 4000000
theorem zc(t:aa)(hb:t.wt<=1048576):a7 Try.prog F.gL [t.av] (.v (.bool t.eT)):=by
 have hw:=t.bg;refine T.vj rfl (by simp[AV.ad,AV.ag,aa.ag]) ?_;simp only[T.gL,aa.cells,aa.isAgg,aa.storable,WA,reduceEqDiff,reduceAdd,reduceLT,reduceLeDiff,reduceMul,reduceIte,reduceCtorEq,Int.reduceEq,Int.reduceLT,Int.reduceLE,Int.reduceNe]
 repeat' (first|(simp(disch:=(first|omega|rfl|exact rfl|(simp only[aq,length_cons,length_nil];done)|exact aa.width _)) only[aa.cells,aa.isAgg,aa.storable,aa.eta,aK,aS,au,dJ,WA,reduceEqDiff,reduceAdd,reduceLT,reduceLeDiff,reduceMul,reduceIte,reduceCtorEq,Int.reduceEq,Int.reduceLT,Int.reduceLE,Int.reduceNe])|(refine aE (λ hq=> ?_) (λ hq=> ?_)<;>(try simp only[hq,decide_true,decide_false,Bool.not_true,Bool.not_false,not_eq_true',not_eq_false']))|(refine a8 (λ hq=> ?_) (λ hq=> ?_)<;>(try simp only[hq,decide_true,decide_false,Bool.not_true,Bool.not_false,not_eq_true',not_eq_false']))|(refine aD (λ hq=> ?_) (λ hq=> ?_)<;>(try simp only[hq,decide_true,decide_false,Bool.not_true,Bool.not_false,not_eq_true',not_eq_false']))|(refine aB ?_)|(refine bn (abj _ (by omega)) ?_))
 all_goals first|(have qT:=hg;clear hv;simp_all [aa.eT,emp];done)|(have qT:=hg;simp_all [aa.eT,emp];done)|(have qT:=hg;clear hv;simp_all [aa.eT,emp,-all_eq_true,-any_eq_true,-all_eq_false,-any_eq_false];done)|(simp_all [aa.eT,emp];done)|(simp_all [aa.eT,emp,-all_eq_true,-any_eq_true,-all_eq_false,-any_eq_false];done)|(refine avb ?_;(try clear hv);simp_all [aa.eT,emp]<;>(intros;omega))|(refine avb ?_;simp_all [aa.eT,emp]<;>(intros;omega))|(simp_all [aa.eT,emp]<;>(intros;omega))|omega
theorem vA(t:aa)(hb:t.wt<=1048576):a7 Try.prog F.fq [t.av] (.v (.bool t.eT)):=by
 have hw:=t.bg;refine T.sO rfl (by simp[AV.ad,AV.ag,aa.ag]) ?_;simp only[T.fq,aa.cells,aa.isAgg,aa.storable,WA,reduceEqDiff,reduceAdd,reduceLT,reduceLeDiff,reduceMul,reduceIte,reduceCtorEq,Int.reduceEq,Int.reduceLT,Int.reduceLE,Int.reduceNe]
 repeat' (first|(simp(disch:=(first|omega|rfl|exact rfl|(simp only[aq,length_cons,length_nil];done)|exact aa.width _)) only[aa.cells,aa.isAgg,aa.storable,aa.eta,aK,aS,au,dJ,WA,reduceEqDiff,reduceAdd,reduceLT,reduceLeDiff,reduceMul,reduceIte,reduceCtorEq,Int.reduceEq,Int.reduceLT,Int.reduceLE,Int.reduceNe])|(refine aE (λ hq=> ?_) (λ hq=> ?_)<;>(try simp only[hq,decide_true,decide_false,Bool.not_true,Bool.not_false,not_eq_true',not_eq_false']))|(refine a8 (λ hq=> ?_) (λ hq=> ?_)<;>(try simp only[hq,decide_true,decide_false,Bool.not_true,Bool.not_false,not_eq_true',not_eq_false']))|(refine aD (λ hq=> ?_) (λ hq=> ?_)<;>(try simp only[hq,decide_true,decide_false,Bool.not_true,Bool.not_false,not_eq_true',not_eq_false']))|(refine aB ?_)|(refine bn (abX _ (by omega)) ?_))
 all_goals first|(have qT:=hg;clear hv;simp_all [aa.eT,emp];done)|(have qT:=hg;simp_all [aa.eT,emp];done)|(have qT:=hg;clear hv;simp_all [aa.eT,emp,-all_eq_true,-any_eq_true,-all_eq_false,-any_eq_false];done)|(simp_all [aa.eT,emp];done)|(simp_all [aa.eT,emp,-all_eq_true,-any_eq_true,-all_eq_false,-any_eq_false];done)|(refine avb ?_;(try clear hv);simp_all [aa.eT,emp]<;>(intros;omega))|(refine avb ?_;simp_all [aa.eT,emp]<;>(intros;omega))|(simp_all [aa.eT,emp]<;>(intros;omega))|omega
theorem mF(x:aa)(hb:x.wt<=1048576):a7 Try.prog F.hF [x.av] (.v (.bool x.iU)):=by
 have hw:=x.bg;have hv:=x.iw;refine T.zo rfl (by simp[AV.ad,AV.ag,aa.ag]) ?_;simp only[T.hF,aa.cells,aa.isAgg,aa.storable,WA,reduceEqDiff,reduceAdd,reduceLT,reduceLeDiff,reduceMul,reduceIte,reduceCtorEq,Int.reduceEq,Int.reduceLT,Int.reduceLE,Int.reduceNe]
 repeat' (first|(simp(disch:=(first|omega|rfl|exact rfl|(simp only[aq,length_cons,length_nil];done)|exact aa.width _)) only[fw,tZ,hd,ub,aa.cells,aa.isAgg,aa.storable,aa.eta,aK,aS,au,dJ,WA,reduceEqDiff,reduceAdd,reduceLT,reduceLeDiff,reduceMul,reduceIte,reduceCtorEq,Int.reduceEq,Int.reduceLT,Int.reduceLE,Int.reduceNe])|(simp(disch:=(first|omega|rfl|exact rfl|(simp only[aq,length_cons,length_nil];done)|exact aa.width _)) only[fw,hd,aa.cells,aa.isAgg,aa.storable,aa.eta,aK,aS,au,dJ,WA,reduceEqDiff,reduceAdd,reduceLT,reduceLeDiff,reduceMul,reduceIte,reduceCtorEq,Int.reduceEq,Int.reduceLT,Int.reduceLE,Int.reduceNe])|(simp(disch:=(first|omega|rfl|exact rfl|(simp only[aq,length_cons,length_nil];done)|exact aa.width _)) only[hd,ub,aa.cells,aa.isAgg,aa.storable,aa.eta,aK,aS,au,dJ,WA,reduceEqDiff,reduceAdd,reduceLT,reduceLeDiff,reduceMul,reduceIte,reduceCtorEq,Int.reduceEq,Int.reduceLT,Int.reduceLE,Int.reduceNe])|(simp(disch:=(first|omega|rfl|exact rfl|(simp only[aq,length_cons,length_nil];done)|exact aa.width _)) only[hix,hd,aa.cells,aa.isAgg,aa.storable,aa.eta,aK,aS,au,dJ,WA,reduceEqDiff,reduceAdd,reduceLT,reduceLeDiff,reduceMul,reduceIte,reduceCtorEq,Int.reduceEq,Int.reduceLT,Int.reduceLE,Int.reduceNe])|(simp(disch:=(first|omega|rfl|exact rfl|(simp only[aq,length_cons,length_nil];done)|exact aa.width _)) only[hd,aa.cells,aa.isAgg,aa.storable,aa.eta,aK,aS,au,dJ,WA,reduceEqDiff,reduceAdd,reduceLT,reduceLeDiff,reduceMul,reduceIte,reduceCtorEq,Int.reduceEq,Int.reduceLT,Int.reduceLE,Int.reduceNe])|(simp(disch:=(first|omega|rfl|exact rfl|(simp only[aq,length_cons,length_nil];done)|exact aa.width _)) only[aa.cells,aa.isAgg,aa.storable,aa.eta,aK,aS,au,dJ,WA,reduceEqDiff,reduceAdd,reduceLT,reduceLeDiff,reduceMul,reduceIte,reduceCtorEq,Int.reduceEq,Int.reduceLT,Int.reduceLE,Int.reduceNe])|(refine aE (λ hq=> ?_) (λ hq=> ?_)<;>(try simp only[hq,decide_true,decide_false,Bool.not_true,Bool.not_false,not_eq_true',not_eq_false']))|(refine a8 (λ hq=> ?_) (λ hq=> ?_)<;>(try simp only[hq,decide_true,decide_false,Bool.not_true,Bool.not_false,not_eq_true',not_eq_false']))|(refine aD (λ hq=> ?_) (λ hq=> ?_)<;>(try simp only[hq,decide_true,decide_false,Bool.not_true,Bool.not_false,not_eq_true',not_eq_false']))|(refine aB ?_)|(refine eK x.Kids (λ i (_:Unit)=>[aA i]) (λ _ rest _=>x.iU=rest.all aa.iU) () rfl ?_ (λ i k rest b hi hx hm fw hd hg=> ?_) (λ b hd hg=> ?_))|(refine bn (zc x hb) ?_)|(refine bn (mF k (by have:=ca aa.wt hm;omega)) ?_))
 all_goals first|(have qT:=hg;clear hv;simp_all;done)|(have qT:=hg;simp_all;done)|(have qT:=hg;clear hv;simp_all [-all_eq_true,-any_eq_true,-all_eq_false,-any_eq_false];done)|(simp_all;done)|(simp_all [-all_eq_true,-any_eq_true,-all_eq_false,-any_eq_false];done)|(refine avb ?_;(try clear hv);simp_all<;>(intros;omega))|(refine avb ?_;simp_all<;>(intros;omega))|(simp_all<;>(intros;omega))|omega
termination_by SizeOf.sizeOf x
decreasing_by all_goals exact aa.cP hm
theorem mP(x:aa)(hb:x.wt<=1048576):a7 Try.prog F.gC [x.av] (.v (.bool x.iU)):=by
 have hw:=x.bg;have hv:=x.iw
 have h1:∀y∈x.Kids,a7 Try.prog F.gW [y.av] (.v (.bool (!y.iU))):=λ y hm=>by
  refine T.vL rfl (by simp[AV.ad,AV.ag,aa.ag]) ?_;simp only[T.gW,aa.cells,aa.isAgg,aa.storable,WA,reduceEqDiff,reduceAdd,reduceLT,reduceLeDiff,reduceMul,reduceIte,reduceCtorEq,Int.reduceEq,Int.reduceLT,Int.reduceLE,Int.reduceNe]
  repeat' (first|(simp(disch:=(first|omega|rfl|exact rfl|(simp only[aq,length_cons,length_nil];done)|exact aa.width _)) only[aa.cells,aa.isAgg,aa.storable,aa.eta,aK,aS,au,dJ,WA,reduceEqDiff,reduceAdd,reduceLT,reduceLeDiff,reduceMul,reduceIte,reduceCtorEq,Int.reduceEq,Int.reduceLT,Int.reduceLE,Int.reduceNe])|(refine aE (λ hq=> ?_) (λ hq=> ?_)<;>(try simp only[hq,decide_true,decide_false,Bool.not_true,Bool.not_false,not_eq_true',not_eq_false']))|(refine a8 (λ hq=> ?_) (λ hq=> ?_)<;>(try simp only[hq,decide_true,decide_false,Bool.not_true,Bool.not_false,not_eq_true',not_eq_false']))|(refine aD (λ hq=> ?_) (λ hq=> ?_)<;>(try simp only[hq,decide_true,decide_false,Bool.not_true,Bool.not_false,not_eq_true',not_eq_false']))|(refine aB ?_)|(refine bn (mP y (by have:=ca aa.wt hm;omega)) ?_))
 refine T.zE rfl (by simp[AV.ad,AV.ag,aa.ag]) ?_;simp only[T.gC,aa.cells,aa.isAgg,aa.storable,WA,reduceEqDiff,reduceAdd,reduceLT,reduceLeDiff,reduceMul,reduceIte,reduceCtorEq,Int.reduceEq,Int.reduceLT,Int.reduceLE,Int.reduceNe]
 repeat' (first|(simp(disch:=(first|omega|rfl|exact rfl|(simp only[aq,length_cons,length_nil];done)|exact aa.width _)) only[aa.cells,aa.isAgg,aa.storable,aa.eta,ao6,aK,aS,au,dJ,WA,reduceEqDiff,reduceAdd,reduceLT,reduceLeDiff,reduceMul,reduceIte,reduceCtorEq,Int.reduceEq,Int.reduceLT,Int.reduceLE,Int.reduceNe])|(refine aE (λ hq=> ?_) (λ hq=> ?_)<;>(try simp only[hq,decide_true,decide_false,Bool.not_true,Bool.not_false,not_eq_true',not_eq_false']))|(refine a8 (λ hq=> ?_) (λ hq=> ?_)<;>(try simp only[hq,decide_true,decide_false,Bool.not_true,Bool.not_false,not_eq_true',not_eq_false']))|(refine aD (λ hq=> ?_) (λ hq=> ?_)<;>(try simp only[hq,decide_true,decide_false,Bool.not_true,Bool.not_false,not_eq_true',not_eq_false']))|(refine aB ?_)|(refine bn (vA x hb) ?_)|(refine bn (aqo x.Kids _ [] (λ y=> !y.iU) (by omega) rfl h1) ?_))
 all_goals first|(have qT:=hg;clear hv;simp_all;done)|(have qT:=hg;simp_all;done)|(have qT:=hg;clear hv;simp_all [-all_eq_true,-any_eq_true,-all_eq_false,-any_eq_false];done)|(simp_all;done)|(simp_all [-all_eq_true,-any_eq_true,-all_eq_false,-any_eq_false];done)|(refine avb ?_;(try clear hv);simp_all<;>(intros;omega))|(refine avb ?_;simp_all<;>(intros;omega))|(simp_all<;>(intros;omega))|omega
termination_by SizeOf.sizeOf x
decreasing_by all_goals exact aa.cP hm
end Go.Proofs.Ab
