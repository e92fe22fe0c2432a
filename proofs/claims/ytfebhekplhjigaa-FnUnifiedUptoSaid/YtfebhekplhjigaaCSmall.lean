/-
  TYPES AND CORES THAT ARE RIGHT OR VALUES; THE PLACE OF A CONSTRUCTOR.
-/
import Derived.Test.YtfebhekplhjigaaCTok
import Derived.Test.YtfebhekplhjigaaSL
open Bool(not_eq_true' not_eq_false')
open List(length_cons length_nil all_eq_true any_eq_true all_eq_false any_eq_false)
open Nat(reduceEqDiff reduceLeDiff reduceAdd reduceLT reduceMul)
set_option linter.unusedSimpArgs false
set_option linter.unusedVariables false
namespace Go.Ab
set_option maxRecDepth 100000
set_option maxHeartbeats 4000000
def aa.eU(t:aa):Bool:=
 (decide (t.Kind=7)||decide (t.Name=emp))&&(decide (9<=t.Kind)||decide (t.N=0))&&
  (if t.Kind=1∨t.Kind=2∨t.Kind=3∨t.Kind=4 then decide (t.Kids.length=0)else if t.Kind=5 then decide (t.Kids.length=2)else if t.Kind=6 then decide (2<=t.Kids.length)
   else if t.Kind=7 then ahJ t.Name else if t.Kind=8 then decide (t.Kids.length=1)else if t.Kind=9∨t.Kind=10∨t.Kind=11 then decide (t.Kids.length=0)&&decide (0<=t.N)else false)
mutual
def aa.jn:aa->Bool
 | .mk k n name kids=>(aa.mk k n name kids).eU&&aa.ajN kids
def aa.ajN:List aa->Bool
 | []=>true
 |x::l=>x.jn&&aa.ajN l
end
theorem aa.apE(l:List aa):aa.ajN l=l.all aa.jn:=by
 induction l with
 |nil=>rfl
 |cons x l ih=>simp only[aa.ajN,ih,List.all_cons]
theorem aa.jW(x:aa):x.jn=(x.eU&&x.Kids.all aa.jn):=by
 cases x;simp only[aa.jn,aa.apE,aa.Kids]
end Go.Ab
namespace Go.Proofs.Ab
open Go.Ab
set_option maxRecDepth 100000
set_option maxHeartbeats 4000000
theorem aaI(t:aa)(hb:t.wt<=1048576):a7 Try.prog F.hF [t.av] (.v (.bool t.eU)):=by
 have hw:=t.dH;refine T.wA rfl (by simp[AV.ae,aa.ag]) ?_;simp only[T.hF,aa.cells,aa.isAgg,aa.storable,WA,reduceAdd]
 repeat' (first|(simp(disch:=(first|omega|rfl|exact rfl|(simp only[an,length_cons,length_nil];done)|exact aa.width _)) only[aa.cells,WA])|(refine aG (λ hq=> ?_) (λ hq=> ?_)<;>(try simp only[hq,decide_true,decide_false]))|(refine aZ (λ hq=> ?_) (λ hq=> ?_)<;>(try simp only[hq,decide_true,decide_false,Bool.not_true,Bool.not_false]))|(refine aE (λ hq=> ?_) (λ hq=> ?_)<;>(try simp only[hq,decide_true,decide_false,Bool.not_true,Bool.not_false,not_eq_true',not_eq_false']))|(refine aB ?_)|(refine bu (acS _ (by omega)) ?_))
 all_goals first|(have rX:=hg;clear hv;simp_all [aa.eU,emp];done)|(have rX:=hg;simp_all [aa.eU,emp];done)|(have rX:=hg;clear hv;simp_all [aa.eU,emp,-all_eq_true,-any_eq_true,-all_eq_false,-any_eq_false];done)|(simp_all [aa.eU,emp];done)|(simp_all [aa.eU,emp,-all_eq_true,-any_eq_true,-all_eq_false,-any_eq_false];done)|(refine avb ?_;(try clear hv);simp_all [aa.eU,emp]<;>(intros;omega))|(refine avb ?_;simp_all [aa.eU,emp]<;>(intros;omega))|(simp_all [aa.eU,emp]<;>(intros;omega))|omega
theorem wO(t:aa)(hb:t.wt<=1048576):a7 Try.prog F.fy [t.av] (.v (.bool t.eU)):=by
 have hw:=t.dH;refine T.tO rfl (by simp[AV.ae,aa.ag]) ?_;simp only[T.fy,aa.cells,aa.isAgg,aa.storable,WA,reduceAdd]
 repeat' (first|(simp(disch:=(first|omega|rfl|exact rfl|(simp only[an,length_cons,length_nil];done)|exact aa.width _)) only[aa.cells,WA,Int.reduceEq])|(refine aG (λ hq=> ?_) (λ hq=> ?_)<;>(try simp only[hq,decide_true,decide_false]))|(refine aZ (λ hq=> ?_) (λ hq=> ?_)<;>(try simp only[hq,decide_true,decide_false,Bool.not_true,Bool.not_false,not_eq_true',not_eq_false']))|(refine aE (λ hq=> ?_) (λ hq=> ?_)<;>(try simp only[hq]))|(refine aB ?_)|(refine bu (adz _ (by omega)) ?_))
 all_goals first|(have rX:=hg;clear hv;simp_all [aa.eU,emp];done)|(have rX:=hg;simp_all [aa.eU,emp];done)|(have rX:=hg;clear hv;simp_all [aa.eU,emp,-all_eq_true,-any_eq_true,-all_eq_false,-any_eq_false];done)|(simp_all [aa.eU,emp];done)|(simp_all [aa.eU,emp,-all_eq_true,-any_eq_true,-all_eq_false,-any_eq_false];done)|(refine avb ?_;(try clear hv);simp_all [aa.eU,emp]<;>(intros;omega))|(refine avb ?_;simp_all [aa.eU,emp]<;>(intros;omega))|(simp_all [aa.eU,emp]<;>(intros;omega))|omega
theorem qd(x:aa)(hb:x.wt<=1048576):a7 Try.prog F.iy [x.av] (.v (.bool x.jn)):=by
 have hw:=x.dH;have hv:=x.jW;refine T.aaY rfl (by simp[AV.ae,aa.ag]) ?_;simp only[T.iy,aa.cells,aa.isAgg,aa.storable,WA,reduceAdd]
 repeat' (first|(simp(disch:=(first|omega|rfl|exact rfl|(simp only[an,length_cons,length_nil];done)|exact aa.width _)) only[fu,tW,hd,vn,aa.cells,aa.isAgg,aa.storable,aa.eta,bW,bR,aH,fZ,WA,reduceEqDiff,reduceAdd,reduceLT,reduceLeDiff,reduceMul,reduceIte,reduceCtorEq,Int.reduceEq,Int.reduceLT,Int.reduceLE,Int.reduceNe])|(simp(disch:=(first|omega|rfl|exact rfl|(simp only[an,length_cons,length_nil];done)|exact aa.width _)) only[fu,hd,aa.cells,aa.isAgg,aa.storable,aH,WA,reduceAdd])|(simp(disch:=(first|omega|rfl|exact rfl|(simp only[an,length_cons,length_nil];done)|exact aa.width _)) only[hd,vn,aa.cells,aa.isAgg,aa.storable,aa.eta,bW,bR,aH,fZ,WA,reduceEqDiff,reduceAdd,reduceLT,reduceLeDiff,reduceMul,reduceIte,reduceCtorEq,Int.reduceEq,Int.reduceLT,Int.reduceLE,Int.reduceNe])|(simp(disch:=(first|omega|rfl|exact rfl|(simp only[an,length_cons,length_nil];done)|exact aa.width _)) only[hix,hd,aa.cells,aa.isAgg,aa.storable,aa.eta,bW,bR,aH,fZ,WA,reduceEqDiff,reduceAdd,reduceLT,reduceLeDiff,reduceMul,reduceIte,reduceCtorEq,Int.reduceEq,Int.reduceLT,Int.reduceLE,Int.reduceNe])|(simp(disch:=(first|omega|rfl|exact rfl|(simp only[an,length_cons,length_nil];done)|exact aa.width _)) only[hd,aa.cells,WA])|(simp(disch:=(first|omega|rfl|exact rfl|(simp only[an,length_cons,length_nil];done)|exact aa.width _)) only[WA])|(refine aG (λ hq=> ?_) (λ hq=> ?_)<;>(try simp only[hq,decide_true,decide_false,Bool.not_true,Bool.not_false,not_eq_true',not_eq_false']))|(refine aZ (λ hq=> ?_) (λ hq=> ?_)<;>(try simp only[hq,decide_true,decide_false,Bool.not_true,Bool.not_false,not_eq_true',not_eq_false']))|(refine aE (λ hq=> ?_) (λ hq=> ?_)<;>(try simp only[hq]))|(refine aB ?_)|(refine dD x.Kids (λ i (_:Unit)=>[au i]) (λ _ rest _=>x.jn=rest.all aa.jn) () rfl ?_ (λ i k rest b hi hx hm fu hd hg=> ?_) (λ b hd hg=> ?_))|(refine bu (aaI x hb) ?_)|(refine bu (qd k (by have:=cY aa.wt hm;omega)) ?_))
 all_goals first|(have rX:=hg;clear hv;simp_all;done)|(have rX:=hg;simp_all;done)|(have rX:=hg;clear hv;simp_all [-all_eq_true,-any_eq_true,-all_eq_false,-any_eq_false];done)|(simp_all;done)|(simp_all [-all_eq_true,-any_eq_true,-all_eq_false,-any_eq_false];done)|(refine avb ?_;(try clear hv);simp_all<;>(intros;omega))|(refine avb ?_;simp_all<;>(intros;omega))|(simp_all<;>(intros;omega))|omega
termination_by SizeOf.sizeOf x
decreasing_by all_goals exact aa.cW hm
theorem nG(x:aa)(hb:x.wt<=1048576):a7 Try.prog F.gS [x.av] (.v (.bool x.jn)):=by
 have hw:=x.dH;have hv:=x.jW
 have h1:∀y∈x.Kids,a7 Try.prog F.iq [y.av] (.v (.bool (!y.jn))):=λ y hm=>by
  refine T.wZ rfl (by simp[AV.ae,aa.ag]) ?_;simp only[T.iq,aa.cells,aa.isAgg,aa.storable,WA,reduceAdd]
  repeat' (first|(simp(disch:=(first|omega|rfl|exact rfl|(simp only[an,length_cons,length_nil];done)|exact aa.width _)) only[WA])|(refine aG (λ hq=> ?_) (λ hq=> ?_)<;>(try simp only[hq,decide_true,decide_false,Bool.not_true,Bool.not_false,not_eq_true',not_eq_false']))|(refine aZ (λ hq=> ?_) (λ hq=> ?_)<;>(try simp only[hq,decide_true,decide_false,Bool.not_true,Bool.not_false,not_eq_true',not_eq_false']))|(refine aE (λ hq=> ?_) (λ hq=> ?_)<;>(try simp only[hq,decide_true,decide_false,Bool.not_true,Bool.not_false,not_eq_true',not_eq_false']))|(refine aB ?_)|(refine bu (nG y (by have:=cY aa.wt hm;omega)) ?_))
 refine T.abf rfl (by simp[AV.ae,aa.ag]) ?_;simp only[T.gS,aa.cells,aa.isAgg,aa.storable,WA,reduceAdd]
 repeat' (first|(simp(disch:=(first|omega|rfl|exact rfl|(simp only[an,length_cons,length_nil];done)|exact aa.width _)) only[aa.cells,aa.isAgg,aa.storable,aq0,WA,reduceAdd])|(refine aG (λ hq=> ?_) (λ hq=> ?_)<;>(try simp only[hq,decide_true,decide_false,Bool.not_true,Bool.not_false,not_eq_true',not_eq_false']))|(refine aZ (λ hq=> ?_) (λ hq=> ?_)<;>(try simp only[hq,decide_true,decide_false,Bool.not_true,Bool.not_false,not_eq_true',not_eq_false']))|(refine aE (λ hq=> ?_) (λ hq=> ?_)<;>(try simp only[hq]))|(refine aB ?_)|(refine bu (wO x hb) ?_)|(refine bu (asq x.Kids _ [] (λ y=> !y.jn) (by omega) rfl h1) ?_))
 all_goals first|(have rX:=hg;clear hv;simp_all;done)|(have rX:=hg;simp_all;done)|(have rX:=hg;clear hv;simp_all [-all_eq_true,-any_eq_true,-all_eq_false,-any_eq_false];done)|(simp_all;done)|(simp_all [-all_eq_true,-any_eq_true,-all_eq_false,-any_eq_false];done)|(refine avb ?_;(try clear hv);simp_all<;>(intros;omega))|(refine avb ?_;simp_all<;>(intros;omega))|(simp_all<;>(intros;omega))|omega
termination_by SizeOf.sizeOf x
decreasing_by all_goals exact aa.cW hm
end Go.Proofs.Ab
