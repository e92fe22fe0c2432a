/-
  TYPES AND CORES THAT ARE RIGHT OR VALUES; THE PLACE OF A CONSTRUCTOR.
-/
import Derived.Test.YtfebhekplhjigaaCTok
import Derived.Test.YtfebhekplhjigaaSL
open Bool(not_eq_true' not_eq_false')
open List(length_cons length_nil all_eq_true any_eq_true all_eq_false any_eq_false)
open Nat(reduceEqDiff reduceLeDiff reduceAdd reduceLT reduceMul)
set_option linter.unusedVariables false
set_option linter.unusedSimpArgs false
namespace Go.Ab
set_option maxRecDepth 100000
set_option maxHeartbeats 4000000
def ad.gL(t:ad):Bool:=
 (decide (t.Kind=7)||decide (t.Name=emp))&&(decide (9<=t.Kind)||decide (t.N=0))&&
  (if t.Kind=1∨t.Kind=2∨t.Kind=3∨t.Kind=4 then decide (t.Kids.length=0)else if t.Kind=5 then decide (t.Kids.length=2)else if t.Kind=6 then decide (2<=t.Kids.length)
   else if t.Kind=7 then alF t.Name else if t.Kind=8 then decide (t.Kids.length=1)else if t.Kind=9∨t.Kind=10∨t.Kind=11 then decide (t.Kids.length=0)&&decide (0<=t.N)else false)
mutual
def ad.mO:ad->Bool
 | .mk k n name kids=>(ad.mk k n name kids).gL&&ad.akJ kids
def ad.akJ:List ad->Bool
 | []=>true
 |x::l=>x.mO&&ad.akJ l
end
theorem ad.aqb(l:List ad):ad.akJ l=l.all ad.mO:=by
 induction l with
 |nil=>rfl
 |cons x l ih=>simp only[ad.akJ,ih,List.all_cons]
theorem ad.qU(x:ad):x.mO=(x.gL&&x.Kids.all ad.mO):=by
 cases x;simp only[ad.mO,ad.aqb,ad.Kids]
end Go.Ab
namespace Go.Proofs.Ab
open Go.Ab
set_option maxRecDepth 100000
set_option maxHeartbeats 4000000
theorem acB(t:ad)(hb:t.wt<=1048576):a7 Try.prog F.gV [t.av] (.v (.bool t.gL)):=by
 have hw:=t.gR;refine T.y4 rfl (by simp[AV.ae,AV.ag,ad.ag]) ?_;simp only[T.gV,ad.cells,ad.isAgg,ad.storable,WA,reduceEqDiff,reduceAdd,reduceLT,reduceLeDiff,reduceMul,reduceIte,reduceCtorEq,Int.reduceEq,Int.reduceLT,Int.reduceLE,Int.reduceNe]
 repeat' (first|(simp(disch:=(first|omega|rfl|exact rfl|(simp only[aF,length_cons,length_nil];done)|exact ad.width _)) only[ad.cells,ad.isAgg,ad.storable,ad.eta,br,bF,aG,dv,WA,reduceEqDiff,reduceAdd,reduceLT,reduceLeDiff,reduceMul,reduceIte,reduceCtorEq,Int.reduceEq,Int.reduceLT,Int.reduceLE,Int.reduceNe])|(refine ba (λ hq=> ?_) (λ hq=> ?_)<;>(try simp only[hq,decide_true,decide_false,Bool.not_true,Bool.not_false,not_eq_true',not_eq_false']))|(refine bC (λ hq=> ?_) (λ hq=> ?_)<;>(try simp only[hq,decide_true,decide_false,Bool.not_true,Bool.not_false,not_eq_true',not_eq_false']))|(refine aS (λ hq=> ?_) (λ hq=> ?_)<;>(try simp only[hq,decide_true,decide_false,Bool.not_true,Bool.not_false,not_eq_true',not_eq_false']))|(refine aN ?_)|(refine bo (aeB _ (by omega)) ?_))
 all_goals first|(have uT:=hg;clear hv;simp_all [ad.gL,emp];done)|(have uT:=hg;simp_all [ad.gL,emp];done)|(have uT:=hg;clear hv;simp_all [ad.gL,emp,-all_eq_true,-any_eq_true,-all_eq_false,-any_eq_false];done)|(simp_all [ad.gL,emp];done)|(simp_all [ad.gL,emp,-all_eq_true,-any_eq_true,-all_eq_false,-any_eq_false];done)|(refine avb ?_;(try clear hv);simp_all [ad.gL,emp]<;>(intros;omega))|(refine avb ?_;simp_all [ad.gL,emp]<;>(intros;omega))|(simp_all [ad.gL,emp]<;>(intros;omega))|omega
theorem ze(t:ad)(hb:t.wt<=1048576):a7 Try.prog F.fm [t.av] (.v (.bool t.gL)):=by
 have hw:=t.gR;refine T.wK rfl (by simp[AV.ae,AV.ag,ad.ag]) ?_;simp only[T.fm,ad.cells,ad.isAgg,ad.storable,WA,reduceEqDiff,reduceAdd,reduceLT,reduceLeDiff,reduceMul,reduceIte,reduceCtorEq,Int.reduceEq,Int.reduceLT,Int.reduceLE,Int.reduceNe]
 repeat' (first|(simp(disch:=(first|omega|rfl|exact rfl|(simp only[aF,length_cons,length_nil];done)|exact ad.width _)) only[ad.cells,ad.isAgg,ad.storable,ad.eta,br,bF,aG,dv,WA,reduceEqDiff,reduceAdd,reduceLT,reduceLeDiff,reduceMul,reduceIte,reduceCtorEq,Int.reduceEq,Int.reduceLT,Int.reduceLE,Int.reduceNe])|(refine ba (λ hq=> ?_) (λ hq=> ?_)<;>(try simp only[hq,decide_true,decide_false,Bool.not_true,Bool.not_false,not_eq_true',not_eq_false']))|(refine bC (λ hq=> ?_) (λ hq=> ?_)<;>(try simp only[hq,decide_true,decide_false,Bool.not_true,Bool.not_false,not_eq_true',not_eq_false']))|(refine aS (λ hq=> ?_) (λ hq=> ?_)<;>(try simp only[hq,decide_true,decide_false,Bool.not_true,Bool.not_false,not_eq_true',not_eq_false']))|(refine aN ?_)|(refine bo (afe _ (by omega)) ?_))
 all_goals first|(have uT:=hg;clear hv;simp_all [ad.gL,emp];done)|(have uT:=hg;simp_all [ad.gL,emp];done)|(have uT:=hg;clear hv;simp_all [ad.gL,emp,-all_eq_true,-any_eq_true,-all_eq_false,-any_eq_false];done)|(simp_all [ad.gL,emp];done)|(simp_all [ad.gL,emp,-all_eq_true,-any_eq_true,-all_eq_false,-any_eq_false];done)|(refine avb ?_;(try clear hv);simp_all [ad.gL,emp]<;>(intros;omega))|(refine avb ?_;simp_all [ad.gL,emp]<;>(intros;omega))|(simp_all [ad.gL,emp]<;>(intros;omega))|omega
theorem sJ(x:ad)(hb:x.wt<=1048576):a7 Try.prog F.iG [x.av] (.v (.bool x.mO)):=by
 have hw:=x.gR;have hv:=x.qU;refine T.acL rfl (by simp[AV.ae,AV.ag,ad.ag]) ?_;simp only[T.iG,ad.cells,ad.isAgg,ad.storable,WA,reduceEqDiff,reduceAdd,reduceLT,reduceLeDiff,reduceMul,reduceIte,reduceCtorEq,Int.reduceEq,Int.reduceLT,Int.reduceLE,Int.reduceNe]
 repeat' (first|(simp(disch:=(first|omega|rfl|exact rfl|(simp only[aF,length_cons,length_nil];done)|exact ad.width _)) only[ji,arW,hd,hdy,ad.cells,ad.isAgg,ad.storable,ad.eta,br,bF,aG,dv,WA,reduceEqDiff,reduceAdd,reduceLT,reduceLeDiff,reduceMul,reduceIte,reduceCtorEq,Int.reduceEq,Int.reduceLT,Int.reduceLE,Int.reduceNe])|(simp(disch:=(first|omega|rfl|exact rfl|(simp only[aF,length_cons,length_nil];done)|exact ad.width _)) only[ji,hd,ad.cells,ad.isAgg,ad.storable,ad.eta,br,bF,aG,dv,WA,reduceEqDiff,reduceAdd,reduceLT,reduceLeDiff,reduceMul,reduceIte,reduceCtorEq,Int.reduceEq,Int.reduceLT,Int.reduceLE,Int.reduceNe])|(simp(disch:=(first|omega|rfl|exact rfl|(simp only[aF,length_cons,length_nil];done)|exact ad.width _)) only[hd,hdy,ad.cells,ad.isAgg,ad.storable,ad.eta,br,bF,aG,dv,WA,reduceEqDiff,reduceAdd,reduceLT,reduceLeDiff,reduceMul,reduceIte,reduceCtorEq,Int.reduceEq,Int.reduceLT,Int.reduceLE,Int.reduceNe])|(simp(disch:=(first|omega|rfl|exact rfl|(simp only[aF,length_cons,length_nil];done)|exact ad.width _)) only[hix,hd,ad.cells,ad.isAgg,ad.storable,ad.eta,br,bF,aG,dv,WA,reduceEqDiff,reduceAdd,reduceLT,reduceLeDiff,reduceMul,reduceIte,reduceCtorEq,Int.reduceEq,Int.reduceLT,Int.reduceLE,Int.reduceNe])|(simp(disch:=(first|omega|rfl|exact rfl|(simp only[aF,length_cons,length_nil];done)|exact ad.width _)) only[hd,ad.cells,ad.isAgg,ad.storable,ad.eta,br,bF,aG,dv,WA,reduceEqDiff,reduceAdd,reduceLT,reduceLeDiff,reduceMul,reduceIte,reduceCtorEq,Int.reduceEq,Int.reduceLT,Int.reduceLE,Int.reduceNe])|(simp(disch:=(first|omega|rfl|exact rfl|(simp only[aF,length_cons,length_nil];done)|exact ad.width _)) only[ad.cells,ad.isAgg,ad.storable,ad.eta,br,bF,aG,dv,WA,reduceEqDiff,reduceAdd,reduceLT,reduceLeDiff,reduceMul,reduceIte,reduceCtorEq,Int.reduceEq,Int.reduceLT,Int.reduceLE,Int.reduceNe])|(refine ba (λ hq=> ?_) (λ hq=> ?_)<;>(try simp only[hq,decide_true,decide_false,Bool.not_true,Bool.not_false,not_eq_true',not_eq_false']))|(refine bC (λ hq=> ?_) (λ hq=> ?_)<;>(try simp only[hq,decide_true,decide_false,Bool.not_true,Bool.not_false,not_eq_true',not_eq_false']))|(refine aS (λ hq=> ?_) (λ hq=> ?_)<;>(try simp only[hq,decide_true,decide_false,Bool.not_true,Bool.not_false,not_eq_true',not_eq_false']))|(refine aN ?_)|(refine eQ x.Kids (λ i (_:Unit)=>[aO i]) (λ _ rest _=>x.mO=rest.all ad.mO) () rfl ?_ (λ i k rest b hi hx hm ji hd hg=> ?_) (λ b hd hg=> ?_))|(refine bo (acB x hb) ?_)|(refine bo (sJ k (by have:=de ad.wt hm;omega)) ?_))
 all_goals first|(have uT:=hg;clear hv;simp_all;done)|(have uT:=hg;simp_all;done)|(have uT:=hg;clear hv;simp_all [-all_eq_true,-any_eq_true,-all_eq_false,-any_eq_false];done)|(simp_all;done)|(simp_all [-all_eq_true,-any_eq_true,-all_eq_false,-any_eq_false];done)|(refine avb ?_;(try clear hv);simp_all<;>(intros;omega))|(refine avb ?_;simp_all<;>(intros;omega))|(simp_all<;>(intros;omega))|omega
termination_by SizeOf.sizeOf x
decreasing_by all_goals exact ad.fg hm
theorem sY(x:ad)(hb:x.wt<=1048576):a7 Try.prog F.iO [x.av] (.v (.bool x.mO)):=by
 have hw:=x.gR;have hv:=x.qU
 have h1:∀y∈x.Kids,a7 Try.prog F.iv [y.av] (.v (.bool (!y.mO))):=λ y hm=>by
  refine T.zo rfl (by simp[AV.ae,AV.ag,ad.ag]) ?_;simp only[T.iv,ad.cells,ad.isAgg,ad.storable,WA,reduceEqDiff,reduceAdd,reduceLT,reduceLeDiff,reduceMul,reduceIte,reduceCtorEq,Int.reduceEq,Int.reduceLT,Int.reduceLE,Int.reduceNe]
  repeat' (first|(simp(disch:=(first|omega|rfl|exact rfl|(simp only[aF,length_cons,length_nil];done)|exact ad.width _)) only[ad.cells,ad.isAgg,ad.storable,ad.eta,br,bF,aG,dv,WA,reduceEqDiff,reduceAdd,reduceLT,reduceLeDiff,reduceMul,reduceIte,reduceCtorEq,Int.reduceEq,Int.reduceLT,Int.reduceLE,Int.reduceNe])|(refine ba (λ hq=> ?_) (λ hq=> ?_)<;>(try simp only[hq,decide_true,decide_false,Bool.not_true,Bool.not_false,not_eq_true',not_eq_false']))|(refine bC (λ hq=> ?_) (λ hq=> ?_)<;>(try simp only[hq,decide_true,decide_false,Bool.not_true,Bool.not_false,not_eq_true',not_eq_false']))|(refine aS (λ hq=> ?_) (λ hq=> ?_)<;>(try simp only[hq,decide_true,decide_false,Bool.not_true,Bool.not_false,not_eq_true',not_eq_false']))|(refine aN ?_)|(refine bo (sY y (by have:=de ad.wt hm;omega)) ?_))
 refine T.ac1 rfl (by simp[AV.ae,AV.ag,ad.ag]) ?_;simp only[T.iO,ad.cells,ad.isAgg,ad.storable,WA,reduceEqDiff,reduceAdd,reduceLT,reduceLeDiff,reduceMul,reduceIte,reduceCtorEq,Int.reduceEq,Int.reduceLT,Int.reduceLE,Int.reduceNe]
 repeat' (first|(simp(disch:=(first|omega|rfl|exact rfl|(simp only[aF,length_cons,length_nil];done)|exact ad.width _)) only[ad.cells,ad.isAgg,ad.storable,ad.eta,arl,br,bF,aG,dv,WA,reduceEqDiff,reduceAdd,reduceLT,reduceLeDiff,reduceMul,reduceIte,reduceCtorEq,Int.reduceEq,Int.reduceLT,Int.reduceLE,Int.reduceNe])|(refine ba (λ hq=> ?_) (λ hq=> ?_)<;>(try simp only[hq,decide_true,decide_false,Bool.not_true,Bool.not_false,not_eq_true',not_eq_false']))|(refine bC (λ hq=> ?_) (λ hq=> ?_)<;>(try simp only[hq,decide_true,decide_false,Bool.not_true,Bool.not_false,not_eq_true',not_eq_false']))|(refine aS (λ hq=> ?_) (λ hq=> ?_)<;>(try simp only[hq,decide_true,decide_false,Bool.not_true,Bool.not_false,not_eq_true',not_eq_false']))|(refine aN ?_)|(refine bo (ze x hb) ?_)|(refine bo (asy x.Kids _ [] (λ y=> !y.mO) (by omega) rfl h1) ?_))
 all_goals first|(have uT:=hg;clear hv;simp_all;done)|(have uT:=hg;simp_all;done)|(have uT:=hg;clear hv;simp_all [-all_eq_true,-any_eq_true,-all_eq_false,-any_eq_false];done)|(simp_all;done)|(simp_all [-all_eq_true,-any_eq_true,-all_eq_false,-any_eq_false];done)|(refine avb ?_;(try clear hv);simp_all<;>(intros;omega))|(refine avb ?_;simp_all<;>(intros;omega))|(simp_all<;>(intros;omega))|omega
termination_by SizeOf.sizeOf x
decreasing_by all_goals exact ad.fg hm
end Go.Proofs.Ab
