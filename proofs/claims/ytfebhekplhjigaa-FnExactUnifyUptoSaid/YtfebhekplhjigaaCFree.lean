/-
  Free: what is free in a type.
-/
import Derived.Test.YtfebhekplhjigaaCSmall
open Bool(not_eq_true' not_eq_false')
open List(length_cons map_cons sum_cons length_nil all_eq_true any_eq_true all_eq_false any_eq_false length_map)
open Nat(reduceEqDiff reduceLeDiff reduceAdd reduceLT reduceMul)
set_option linter.unusedVariables false
set_option linter.unusedSimpArgs false
namespace Go.Ab
set_option maxRecDepth 100000
set_option maxHeartbeats 4000000
def wS(n:Int)(l:List Int):Bool:=l.any λ y=>decide (n=y)
def pI(o:List Int)(n:Int):List Int:=if wS n o=true then o else o++ [n]
def a6(o l:List Int):List Int:=l.foldl pI o
theorem abU(n:Int)(l:List Int):wS n l=true↔n∈l:=by simp[wS]
theorem aqe(o:List Int)(n x:Int):x∈pI o n↔x∈o∨x=n:=by
 unfold pI
 split
 ·rename_i h;rw[abU]at h;exact⟨.inl,λ h'=>h'.elim id λ e=>by rw[e];exact h⟩
 ·simp
theorem rP:∀(l o:List Int) (x:Int),x∈a6 o l↔x∈o∨x∈l
 | [],o,x=>by simp[a6]
 |n::l,o,x=>by
  have:a6 o (n::l)=a6 (pI o n) l:=rfl;rw[this,rP,aqe];simp only[List.mem_cons];exact or_assoc
theorem pJ(o l m:List Int):a6 o (l++m)=a6 (a6 o l) m:=by simp[a6,List.foldl_append]
theorem ahS(o:List Int)(n:Int):(pI o n).length<=o.length+1:=by
 unfold pI;split
 ·omega
 ·simp
theorem jQ:∀(l o:List Int),(a6 o l).length<=o.length+l.length
 | [],o=>by simp[a6]
 |n::l,o=>by
  have:a6 o (n::l)=a6 (pI o n) l:=rfl;have h1:=jQ l (pI o n);have h2:=ahS o n;rw[this,length_cons];omega
theorem ahT{o:List Int}{n:Int}(h:n∈o):pI o n=o:=by unfold pI;rw[if_pos ((abU _ _).2 h)]
theorem aqd{o:List Int}{n:Int}(h:n∉o):pI o n=o++ [n]:=by unfold pI;rw[if_neg (λ h'=>h ((abU _ _).1 h'))]
theorem uX:∀(l p o:List Int),a6 o (a6 p l)=a6 (a6 o p) l
 | [],p,o=>rfl
 |n::l,p,o=>by
  have e1:∀q,a6 q (n::l)=a6 (pI q n) l:=λ _=>rfl
  rw[e1,e1,uX l (pI p n) o];congr 1;by_cases h:n∈p
  ·rw[ahT h,ahT ((rP p o n).2 (.inr h))]
  ·rw[aqd h,pJ];rfl
theorem ajD(l o:List Int):a6 o (a6 [] l)=a6 o l:=uX l [] o
mutual
def ad.cV:ad->Int->List Int
 | .mk kd n _ kids,k=>(if kd=k then [n]else [])++ad.kE kids k
def ad.kE:List ad->Int->List Int
 | [],_=>[]
 |x::l,k=>x.cV k++ad.kE l k
end
theorem ad.ab0(x:ad)(k:Int):x.cV k=(if x.Kind=k then [x.N]else [])++ad.kE x.Kids k:=by cases x;rw[ad.cV];rfl
mutual
theorem ad.nz:∀(x:ad) (k:Int),(x.cV k).length<=x.wt+1
 | .mk kd n s kids,k=>by
   have:=ad.ab1 kids k;have hw:=ad.gR (.mk kd n s kids);simp only[ad.Kids,ad.Name]at hw;rw[ad.cV,List.length_append,hw]
   split<;>simp<;>omega
theorem ad.ab1:∀(l:List ad) (k:Int),(ad.kE l k).length<=l.length+(l.map ad.wt).sum
 | [],k=>by simp[ad.kE]
 |x::l,k=>by
  have:=ad.nz x k;have:=ad.ab1 l k;simp only[ad.kE,List.length_append,length_cons,map_cons,sum_cons];omega
end
end Go.Ab
namespace Go.Proofs.Ab
open Go.Ab
set_option maxRecDepth 100000
set_option maxHeartbeats 4000000
theorem aex(l:List Int)(n:Int)(hl:l.length<=1073741824):a7 Try.prog F.jt [.sl (l.map aO),aO n] (.v (.bool (wS n l))):=by
 refine T.aak rfl (by simp only[AV.ae,AV.ag,Bool.and_true];exact bt (f:=aO) λ _=>rfl) ?_;have e:∀m:List Int,wS n m=m.any λ y=>decide (y=n):=λ m=>by simp only[wS,eq_comm]
 have hv:wS n l=l.any λ y=>decide (y=n):=e l
 simp only[T.jt,WA,reduceEqDiff,reduceAdd,reduceLT,reduceLeDiff,reduceMul,reduceIte,reduceCtorEq,Int.reduceEq,Int.reduceLT,Int.reduceLE,Int.reduceNe]
 repeat' (first|(simp(disch:=(first|omega|rfl|exact rfl|(simp only[aF,length_cons,length_nil];done))) only[ji,arW,hd,hdy,br,bF,aG,dv,WA,reduceEqDiff,reduceAdd,reduceLT,reduceLeDiff,reduceMul,reduceIte,reduceCtorEq,Int.reduceEq,Int.reduceLT,Int.reduceLE,Int.reduceNe])|(simp(disch:=(first|omega|rfl|exact rfl|(simp only[aF,length_cons,length_nil];done))) only[ji,hd,br,bF,aG,dv,WA,reduceEqDiff,reduceAdd,reduceLT,reduceLeDiff,reduceMul,reduceIte,reduceCtorEq,Int.reduceEq,Int.reduceLT,Int.reduceLE,Int.reduceNe])|(simp(disch:=(first|omega|rfl|exact rfl|(simp only[aF,length_cons,length_nil];done))) only[hd,hdy,br,bF,aG,dv,WA,reduceEqDiff,reduceAdd,reduceLT,reduceLeDiff,reduceMul,reduceIte,reduceCtorEq,Int.reduceEq,Int.reduceLT,Int.reduceLE,Int.reduceNe])|(simp(disch:=(first|omega|rfl|exact rfl|(simp only[aF,length_cons,length_nil];done))) only[hix,hd,br,bF,aG,dv,WA,reduceEqDiff,reduceAdd,reduceLT,reduceLeDiff,reduceMul,reduceIte,reduceCtorEq,Int.reduceEq,Int.reduceLT,Int.reduceLE,Int.reduceNe])|(simp(disch:=(first|omega|rfl|exact rfl|(simp only[aF,length_cons,length_nil];done))) only[hd,br,bF,aG,dv,WA,reduceEqDiff,reduceAdd,reduceLT,reduceLeDiff,reduceMul,reduceIte,reduceCtorEq,Int.reduceEq,Int.reduceLT,Int.reduceLE,Int.reduceNe])|(simp(disch:=(first|omega|rfl|exact rfl|(simp only[aF,length_cons,length_nil];done))) only[br,bF,aG,dv,WA,reduceEqDiff,reduceAdd,reduceLT,reduceLeDiff,reduceMul,reduceIte,reduceCtorEq,Int.reduceEq,Int.reduceLT,Int.reduceLE,Int.reduceNe])|(refine ba (λ hq=> ?_) (λ hq=> ?_)<;>(try simp only[hq,decide_true,decide_false,Bool.not_true,Bool.not_false,not_eq_true',not_eq_false']))|(refine bC (λ hq=> ?_) (λ hq=> ?_)<;>(try simp only[hq,decide_true,decide_false,Bool.not_true,Bool.not_false,not_eq_true',not_eq_false']))|(refine aS (λ hq=> ?_) (λ hq=> ?_)<;>(try simp only[hq,decide_true,decide_false,Bool.not_true,Bool.not_false,not_eq_true',not_eq_false']))|(refine aN ?_)|(refine eQ l (λ i (_:Unit)=>[aO i]) (λ _ rest _=>wS n l=rest.any λ y=>decide (y=n)) () rfl ?_ (λ i k rest b hi hx hm ji hd hg=> ?_) (λ b hd hg=> ?_)))
 all_goals first|(have uT:=hg;clear hv;simp_all;done)|(have uT:=hg;simp_all;done)|(have uT:=hg;clear hv;simp_all [-all_eq_true,-any_eq_true,-all_eq_false,-any_eq_false];done)|(simp_all;done)|(simp_all [-all_eq_true,-any_eq_true,-all_eq_false,-any_eq_false];done)|(refine avb ?_;(try clear hv);simp_all<;>(intros;omega))|(refine avb ?_;simp_all<;>(intros;omega))|(simp_all<;>(intros;omega))|omega
theorem aiN(l:List Int):AV.ae (l.map aO)=true:=bt (f:=aO) λ _=>rfl
theorem ad3{x:ad}{kd:Int}{o b:List Int}{y:ad}{rest:List ad}(hg:a6 b (ad.kE (y::rest) kd)=a6 o (x.cV kd)/\b.length+((y::rest).length+((y::rest).map ad.wt).sum)<=4194304):
  a6 (a6 b (y.cV kd)) (ad.kE rest kd)=a6 o (x.cV kd)/\(a6 b (y.cV kd)).length+(rest.length+(rest.map ad.wt).sum)<=4194304:=by
 have h1:=jQ (y.cV kd) b;have h2:=y.nz kd;simp only[ad.kE,pJ,length_cons,map_cons,sum_cons]at hg;exact⟨hg.1,by omega⟩
theorem ad4{x:ad}{kd:Int}{o:List Int}(ho:o.length+(x.wt+1)<=4194304):a6 (a6 o (if x.Kind=kd then [x.N]else [])) (ad.kE x.Kids kd)=a6 o (x.cV kd)/\
  (a6 o (if x.Kind=kd then [x.N]else [])).length+(x.Kids.length+(x.Kids.map ad.wt).sum)<=4194304:=by
 have hw:=x.gR;have h1:=jQ (if x.Kind=kd then [x.N]else []) o;have h2:(if x.Kind=kd then [x.N]else []).length<=1:=by split<;>simp
 refine⟨by rw[x.ab0,pJ],by omega⟩
theorem uI(x:ad)(kd:Int)(o:List Int)(hb:x.wt<=1048576)(ho:o.length+(x.wt+1)<=4194304):zE Try.prog F.bZ G.bZ [x.av,aO kd,.sl (o.map aO)] [.sl ((a6 o (x.cV kd)).map aO)]:=by
 have hw:=x.gR;refine T.xq rfl rfl (by simp only[AV.ae,AV.ag,ad.ag,Bool.and_true,Bool.true_and];exact aiN _) ?_;simp only[T.bZ,ad.cells,ad.isAgg,ad.storable,WA,reduceEqDiff,reduceAdd,reduceLT,reduceLeDiff,reduceMul,reduceIte,reduceCtorEq,Int.reduceEq,Int.reduceLT,Int.reduceLE,Int.reduceNe];refine fe [.sl ((a6 o (if x.Kind=kd then [x.N]else [])).map aO)] rfl ?_ ?_
 ·repeat' (first|(simp(disch:=(first|omega|rfl|exact rfl|(simp only[aF,length_cons,length_nil];done)|exact ad.width _)) only[ad.cells,ad.isAgg,ad.storable,ad.eta,length_map,br,bF,aG,dv,WA,reduceEqDiff,reduceAdd,reduceLT,reduceLeDiff,reduceMul,reduceIte,reduceCtorEq,Int.reduceEq,Int.reduceLT,Int.reduceLE,Int.reduceNe])|(refine ba (λ hq=> ?_) (λ hq=> ?_)<;>(try simp only[hq,decide_true,decide_false,Bool.not_true,Bool.not_false,not_eq_true',not_eq_false']))|(refine bC (λ hq=> ?_) (λ hq=> ?_)<;>(try simp only[hq,decide_true,decide_false,Bool.not_true,Bool.not_false,not_eq_true',not_eq_false']))|(refine aS (λ hq=> ?_) (λ hq=> ?_)<;>(try simp only[hq,decide_true,decide_false,Bool.not_true,Bool.not_false,not_eq_true',not_eq_false']))|(refine aN ?_)|(refine bo (aex o _ (by omega)) ?_))
  ·refine⟨λ y hy=>by rw[hy];rfl,by omega,by omega,?_⟩;have:wS x.N o≠true:=by simpa using hq
   simp[a6,pI,this]
  ·have:wS x.N o=true:=by simpa using hq
   simp[a6,pI,this]
  ·rfl
 ·repeat' (first|(simp(disch:=(first|omega|rfl|exact rfl|(simp only[aF,length_cons,length_nil];done)|exact ad.width _)) only[ji,arW,hd,hdy,ad.cells,ad.isAgg,ad.storable,ad.eta,br,bF,aG,dv,WA,reduceEqDiff,reduceAdd,reduceLT,reduceLeDiff,reduceMul,reduceIte,reduceCtorEq,Int.reduceEq,Int.reduceLT,Int.reduceLE,Int.reduceNe])|(simp(disch:=(first|omega|rfl|exact rfl|(simp only[aF,length_cons,length_nil];done)|exact ad.width _)) only[ji,hd,ad.cells,ad.isAgg,ad.storable,ad.eta,br,bF,aG,dv,WA,reduceEqDiff,reduceAdd,reduceLT,reduceLeDiff,reduceMul,reduceIte,reduceCtorEq,Int.reduceEq,Int.reduceLT,Int.reduceLE,Int.reduceNe])|(simp(disch:=(first|omega|rfl|exact rfl|(simp only[aF,length_cons,length_nil];done)|exact ad.width _)) only[hd,hdy,ad.cells,ad.isAgg,ad.storable,ad.eta,br,bF,aG,dv,WA,reduceEqDiff,reduceAdd,reduceLT,reduceLeDiff,reduceMul,reduceIte,reduceCtorEq,Int.reduceEq,Int.reduceLT,Int.reduceLE,Int.reduceNe])|(simp(disch:=(first|omega|rfl|exact rfl|(simp only[aF,length_cons,length_nil];done)|exact ad.width _)) only[hix,hd,ad.cells,ad.isAgg,ad.storable,ad.eta,br,bF,aG,dv,WA,reduceEqDiff,reduceAdd,reduceLT,reduceLeDiff,reduceMul,reduceIte,reduceCtorEq,Int.reduceEq,Int.reduceLT,Int.reduceLE,Int.reduceNe])|(simp(disch:=(first|omega|rfl|exact rfl|(simp only[aF,length_cons,length_nil];done)|exact ad.width _)) only[hd,ad.cells,ad.isAgg,ad.storable,ad.eta,br,bF,aG,dv,WA,reduceEqDiff,reduceAdd,reduceLT,reduceLeDiff,reduceMul,reduceIte,reduceCtorEq,Int.reduceEq,Int.reduceLT,Int.reduceLE,Int.reduceNe])|(simp(disch:=(first|omega|rfl|exact rfl|(simp only[aF,length_cons,length_nil];done)|exact ad.width _)) only[ad.cells,ad.isAgg,ad.storable,ad.eta,br,bF,aG,dv,WA,reduceEqDiff,reduceAdd,reduceLT,reduceLeDiff,reduceMul,reduceIte,reduceCtorEq,Int.reduceEq,Int.reduceLT,Int.reduceLE,Int.reduceNe])|(refine ba (λ hq=> ?_) (λ hq=> ?_)<;>(try simp only[hq,decide_true,decide_false,Bool.not_true,Bool.not_false,not_eq_true',not_eq_false']))|(refine bC (λ hq=> ?_) (λ hq=> ?_)<;>(try simp only[hq,decide_true,decide_false,Bool.not_true,Bool.not_false,not_eq_true',not_eq_false']))|(refine aS (λ hq=> ?_) (λ hq=> ?_)<;>(try simp only[hq,decide_true,decide_false,Bool.not_true,Bool.not_false,not_eq_true',not_eq_false']))|(refine aN ?_)|(refine eQ x.Kids (λ i (q:List Int)=>[.sl (q.map aO),aO i]) (λ _ rest q=>a6 q (ad.kE rest kd)=a6 o (x.cV kd)/\q.length+(rest.length+(rest.map ad.wt).sum)<=4194304) (a6 o (if x.Kind=kd then [x.N]else [])) rfl ?_ (λ i k rest b hi hx hm ji hd hg=> ?_) (λ b hd hg=> ?_))|(refine zK (uI k kd b (by have:=de ad.wt hm;omega) (by simp only[length_cons,map_cons,sum_cons]at hg;omega)) rfl (by simp only[AV.ae,AV.ag,Bool.and_true];exact aiN _) ?_))
  ·exact ad4 ho
  ·exact⟨hi,_,ad3 hg,rfl⟩
  ·rw[←hg.1];rfl
termination_by SizeOf.sizeOf x
decreasing_by all_goals exact ad.fg hm
theorem ago(x:ad)(kd:Int)(hb:x.wt<=1048576):xh Try.prog F.jT [x.av,aO kd] false 3 1 ((if x.mO&&oa kd 9 11 then a6 [] (x.cV kd)else []).map aO):=by
 refine T.aas rfl (by simp[AV.ae,AV.ag,ad.ag]) ?_;simp only[T.jT,ad.cells,ad.isAgg,ad.storable,WA,reduceEqDiff,reduceAdd,reduceLT,reduceLeDiff,reduceMul,reduceIte,reduceCtorEq,Int.reduceEq,Int.reduceLT,Int.reduceLE,Int.reduceNe]
 repeat' (first|(simp(disch:=(first|omega|rfl|exact rfl|(simp only[aF,length_cons,length_nil];done)|exact ad.width _)) only[ad.cells,ad.isAgg,ad.storable,ad.eta,length_map,br,bF,aG,dv,WA,reduceEqDiff,reduceAdd,reduceLT,reduceLeDiff,reduceMul,reduceIte,reduceCtorEq,Int.reduceEq,Int.reduceLT,Int.reduceLE,Int.reduceNe])|(refine ba (λ hq=> ?_) (λ hq=> ?_)<;>(try simp only[hq,decide_true,decide_false,Bool.not_true,Bool.not_false,not_eq_true',not_eq_false']))|(refine bC (λ hq=> ?_) (λ hq=> ?_)<;>(try simp only[hq,decide_true,decide_false,Bool.not_true,Bool.not_false,not_eq_true',not_eq_false']))|(refine aS (λ hq=> ?_) (λ hq=> ?_)<;>(try simp only[hq,decide_true,decide_false,Bool.not_true,Bool.not_false,not_eq_true',not_eq_false']))|(refine aN ?_)|(refine bo (sJ x hb) ?_)|(refine bo (jS _ _ _) ?_)|(refine zK (uI x kd [] hb (by simp;omega)) rfl (by simp only[AV.ae,AV.ag,Bool.and_true];exact aiN _) ?_))
 all_goals first|(have uT:=hg;clear hv;simp_all;done)|(have uT:=hg;simp_all;done)|(have uT:=hg;clear hv;simp_all [-all_eq_true,-any_eq_true,-all_eq_false,-any_eq_false];done)|(simp_all;done)|(simp_all [-all_eq_true,-any_eq_true,-all_eq_false,-any_eq_false];done)|(refine avb ?_;(try clear hv);simp_all<;>(intros;omega))|(refine avb ?_;simp_all<;>(intros;omega))|(simp_all<;>(intros;omega))|omega
theorem ar4{l:List Int}{i:Nat}{n:Int}(h:l[i]? =some n):(l.map aO).getD i .top=aO n:=by simp[List.getD,h]
theorem wN(x:ad)(kd:Int)(hb:x.wt<=1048576):xh Try.prog F.iu [x.av,aO kd] true 3 1 ((a6 [] (x.cV kd)).map aO):=by
 have hw:=x.gR;refine T.zj rfl (by simp[AV.ae,AV.ag,ad.ag]) ?_;simp only[T.iu,ad.cells,ad.isAgg,ad.storable,WA,reduceEqDiff,reduceAdd,reduceLT,reduceLeDiff,reduceMul,reduceIte,reduceCtorEq,Int.reduceEq,Int.reduceLT,Int.reduceLE,Int.reduceNe];refine fe [.sl ((a6 [] (if x.Kind=kd then [x.N]else [])).map aO)] rfl ?_ ?_
 ·repeat' (first|(simp(disch:=(first|omega|rfl|exact rfl|(simp only[aF,length_cons,length_nil];done)|exact ad.width _)) only[ad.cells,ad.isAgg,ad.storable,ad.eta,length_map,br,bF,aG,dv,WA,reduceEqDiff,reduceAdd,reduceLT,reduceLeDiff,reduceMul,reduceIte,reduceCtorEq,Int.reduceEq,Int.reduceLT,Int.reduceLE,Int.reduceNe])|(refine ba (λ hq=> ?_) (λ hq=> ?_)<;>(try simp only[hq,decide_true,decide_false,Bool.not_true,Bool.not_false,not_eq_true',not_eq_false']))|(refine bC (λ hq=> ?_) (λ hq=> ?_)<;>(try simp only[hq,decide_true,decide_false,Bool.not_true,Bool.not_false,not_eq_true',not_eq_false']))|(refine aS (λ hq=> ?_) (λ hq=> ?_)<;>(try simp only[hq,decide_true,decide_false,Bool.not_true,Bool.not_false,not_eq_true',not_eq_false']))|(refine aN ?_))
  ·refine⟨λ y hy=>by rw[hy];rfl,?_⟩;rfl
  ·rfl
 ·simp only[ad.cells,ad.isAgg,ad.storable,WA,reduceEqDiff,reduceAdd,reduceLT,reduceLeDiff,reduceMul,reduceIte,reduceCtorEq,Int.reduceEq,Int.reduceLT,Int.reduceLE,Int.reduceNe]
  repeat' (first|(simp(disch:=(first|omega|rfl|exact rfl|(simp only[aF,length_cons,length_nil];done)|exact ad.width _)) only[avj,hd2,ji,hd,ad.cells,ad.isAgg,ad.storable,ad.eta,length_map,br,bF,aG,dv,WA,reduceEqDiff,reduceAdd,reduceLT,reduceLeDiff,reduceMul,reduceIte,reduceCtorEq,Int.reduceEq,Int.reduceLT,Int.reduceLE,Int.reduceNe])|(simp(disch:=(first|omega|rfl|exact rfl|(simp only[aF,length_cons,length_nil];done)|exact ad.width _)) only[au9,hd2,ji,hd,ad.cells,ad.isAgg,ad.storable,ad.eta,length_map,br,bF,aG,dv,WA,reduceEqDiff,reduceAdd,reduceLT,reduceLeDiff,reduceMul,reduceIte,reduceCtorEq,Int.reduceEq,Int.reduceLT,Int.reduceLE,Int.reduceNe])|(simp(disch:=(first|omega|rfl|exact rfl|(simp only[aF,length_cons,length_nil];done)|exact ad.width _)) only[au9,hd2,ad.cells,ad.isAgg,ad.storable,ad.eta,length_map,br,bF,aG,dv,WA,reduceEqDiff,reduceAdd,reduceLT,reduceLeDiff,reduceMul,reduceIte,reduceCtorEq,Int.reduceEq,Int.reduceLT,Int.reduceLE,Int.reduceNe])|(simp(disch:=(first|omega|rfl|exact rfl|(simp only[aF,length_cons,length_nil];done)|exact ad.width _)) only[hd2,ji,hd,ad.cells,ad.isAgg,ad.storable,ad.eta,length_map,br,bF,aG,dv,WA,reduceEqDiff,reduceAdd,reduceLT,reduceLeDiff,reduceMul,reduceIte,reduceCtorEq,Int.reduceEq,Int.reduceLT,Int.reduceLE,Int.reduceNe])|(simp(disch:=(first|omega|rfl|exact rfl|(simp only[aF,length_cons,length_nil];done)|exact ad.width _)) only[hd2,ad.cells,ad.isAgg,ad.storable,ad.eta,length_map,br,bF,aG,dv,WA,reduceEqDiff,reduceAdd,reduceLT,reduceLeDiff,reduceMul,reduceIte,reduceCtorEq,Int.reduceEq,Int.reduceLT,Int.reduceLE,Int.reduceNe])|(simp(disch:=(first|omega|rfl|exact rfl|(simp only[aF,length_cons,length_nil];done)|exact ad.width _)) only[ji,arW,hd,hdy,ad.cells,ad.isAgg,ad.storable,ad.eta,length_map,br,bF,aG,dv,WA,reduceEqDiff,reduceAdd,reduceLT,reduceLeDiff,reduceMul,reduceIte,reduceCtorEq,Int.reduceEq,Int.reduceLT,Int.reduceLE,Int.reduceNe])|(simp(disch:=(first|omega|rfl|exact rfl|(simp only[aF,length_cons,length_nil];done)|exact ad.width _)) only[ji,hd,ad.cells,ad.isAgg,ad.storable,ad.eta,length_map,br,bF,aG,dv,WA,reduceEqDiff,reduceAdd,reduceLT,reduceLeDiff,reduceMul,reduceIte,reduceCtorEq,Int.reduceEq,Int.reduceLT,Int.reduceLE,Int.reduceNe])|(simp(disch:=(first|omega|rfl|exact rfl|(simp only[aF,length_cons,length_nil];done)|exact ad.width _)) only[hd,hdy,ad.cells,ad.isAgg,ad.storable,ad.eta,length_map,br,bF,aG,dv,WA,reduceEqDiff,reduceAdd,reduceLT,reduceLeDiff,reduceMul,reduceIte,reduceCtorEq,Int.reduceEq,Int.reduceLT,Int.reduceLE,Int.reduceNe])|(simp(disch:=(first|omega|rfl|exact rfl|(simp only[aF,length_cons,length_nil];done)|exact ad.width _)) only[hix,hd,ad.cells,ad.isAgg,ad.storable,ad.eta,length_map,br,bF,aG,dv,WA,reduceEqDiff,reduceAdd,reduceLT,reduceLeDiff,reduceMul,reduceIte,reduceCtorEq,Int.reduceEq,Int.reduceLT,Int.reduceLE,Int.reduceNe])|(simp(disch:=(first|omega|rfl|exact rfl|(simp only[aF,length_cons,length_nil];done)|exact ad.width _)) only[hd,ad.cells,ad.isAgg,ad.storable,ad.eta,length_map,br,bF,aG,dv,WA,reduceEqDiff,reduceAdd,reduceLT,reduceLeDiff,reduceMul,reduceIte,reduceCtorEq,Int.reduceEq,Int.reduceLT,Int.reduceLE,Int.reduceNe])|(simp(disch:=(first|omega|rfl|exact rfl|(simp only[aF,length_cons,length_nil];done)|exact ad.width _)) only[ad.cells,ad.isAgg,ad.storable,ad.eta,length_map,br,bF,aG,dv,WA,reduceEqDiff,reduceAdd,reduceLT,reduceLeDiff,reduceMul,reduceIte,reduceCtorEq,Int.reduceEq,Int.reduceLT,Int.reduceLE,Int.reduceNe])|(refine ba (λ hq=> ?_) (λ hq=> ?_)<;>(try simp only[hq,decide_true,decide_false,Bool.not_true,Bool.not_false,not_eq_true',not_eq_false']))|(refine bC (λ hq=> ?_) (λ hq=> ?_)<;>(try simp only[hq,decide_true,decide_false,Bool.not_true,Bool.not_false,not_eq_true',not_eq_false']))|(refine aS (λ hq=> ?_) (λ hq=> ?_)<;>(try simp only[hq,decide_true,decide_false,Bool.not_true,Bool.not_false,not_eq_true',not_eq_false']))|(refine aN ?_)|(refine eQ (a6 [] (k.cV kd)) (λ i (q:List Int)=>[.sl (q.map aO),aO i]) (λ _ rest q=>a6 q rest=a6 b (a6 [] (k.cV kd))/\q.length+rest.length<=4194304) b rfl ?_ (λ i2 k2 aj2 b2 hi2 hx2 hm2 avj hd2 hg2=> ?_) (λ b2 hd2 hg2=> ?_))|(refine eQ x.Kids (λ i (q:List Int)=>[.sl (q.map aO),aO i]) (λ _ rest q=>a6 q (ad.kE rest kd)=a6 [] (x.cV kd)/\q.length+(rest.length+(rest.map ad.wt).sum)<=4194304) (a6 [] (if x.Kind=kd then [x.N]else [])) rfl ?_ (λ i k rest b hi hx hm ji hd hg=> ?_) (λ b hd hg=> ?_))|(refine fe [.sl ((a6 b (a6 [] (k.cV kd))).map aO),aO k.Kind,aO k.N,cv k.Name,.sl (k.Kids.map ad.av),.sl ((a6 [] (k.cV kd)).map aO)] rfl ?_ ?_)|(refine afC (wN k kd (by have:=de ad.wt hm;omega)) (aiN _) ?_))
  ·exact ad4 (by simp;omega)
  ·have h1:=jQ (k.cV kd) [];have h2:=k.nz kd;have:=hg.2;simp only[length_cons,map_cons,sum_cons,length_nil]at this h1;omega
  ·have h3:=hg2.2;simp only[length_cons]at h3;refine⟨by omega,hi2,by rw[ar4 hx2];exact Nat.le_refl _,?_⟩;rw[ar4 hx2];refine bo (amm b2 k2 (by omega)) ?_;have e1:a6 (pI b2 k2) aj2=a6 b (a6 [] (k.cV kd)):=hg2.1;have e2:=ahS b2 k2;have e3:=jQ (k.cV kd) [];have e4:=k.nz kd;have e5:=de ad.wt hm;simp only[length_nil]at e3
   repeat' (first|(simp(disch:=(first|omega|rfl|exact rfl|(simp only[aF,length_cons,length_nil];done))) only[length_map,aF,List.getD_cons_zero,br,bF,aG,dv,WA,reduceEqDiff,reduceAdd,reduceLT,reduceLeDiff,reduceMul,reduceIte,reduceCtorEq,Int.reduceEq,Int.reduceLT,Int.reduceLE,Int.reduceNe])|(refine ba (λ hq=> ?_) (λ hq=> ?_)<;>(try simp only[hq,decide_true,decide_false,Bool.not_true,Bool.not_false,not_eq_true',not_eq_false']))|(refine bC (λ hq=> ?_) (λ hq=> ?_)<;>(try simp only[hq,decide_true,decide_false,Bool.not_true,Bool.not_false,not_eq_true',not_eq_false']))|(refine aS (λ hq=> ?_) (λ hq=> ?_)<;>(try simp only[hq,decide_true,decide_false,Bool.not_true,Bool.not_false,not_eq_true',not_eq_false']))|(refine aN ?_))
   ·have hn:wS k2 b2=false:=by unfold wS;simpa only[not_eq_true']using hq
    refine⟨λ y hy=>by rw[hy];rfl,by omega,by omega,hi2,pI b2 k2,⟨e1,by omega⟩,?_⟩;simp(disch:=omega) only[pI,hn,aG,Bool.false_eq_true,if_false,List.map_append,map_cons,List.map_nil]
   ·have hn:wS k2 b2=true:=by unfold wS;simpa only[not_eq_false']using hq
    refine⟨hi2,pI b2 k2,⟨e1,by omega⟩,?_⟩;simp(disch:=omega) only[pI,hn,aG,if_true]
  ·refine⟨hi,_,ad3 hg,?_⟩;have:b2=a6 b (k.cV kd):=by rw[←ajD];exact hg2.1
   rw[this]
  ·rw[←hg.1];rfl
termination_by SizeOf.sizeOf x
decreasing_by all_goals exact ad.fg hm
theorem ql(kd:Int):a7 Try.prog F.dD [aO kd] (.v (.bool (oa kd 9 11))):=by
 refine T.vD rfl rfl ?_;simp only[T.dD,WA,reduceEqDiff,reduceAdd,reduceLT,reduceLeDiff,reduceMul,reduceIte,reduceCtorEq,Int.reduceEq,Int.reduceLT,Int.reduceLE,Int.reduceNe]
 repeat' (first|(simp(disch:=(first|omega|rfl|exact rfl|(simp only[aF,length_cons,length_nil];done))) only[br,bF,aG,dv,WA,reduceEqDiff,reduceAdd,reduceLT,reduceLeDiff,reduceMul,reduceIte,reduceCtorEq,Int.reduceEq,Int.reduceLT,Int.reduceLE,Int.reduceNe])|(refine ba (λ hq=> ?_) (λ hq=> ?_)<;>(try simp only[hq,decide_true,decide_false,Bool.not_true,Bool.not_false,not_eq_true',not_eq_false']))|(refine bC (λ hq=> ?_) (λ hq=> ?_)<;>(try simp only[hq,decide_true,decide_false,Bool.not_true,Bool.not_false,not_eq_true',not_eq_false']))|(refine aS (λ hq=> ?_) (λ hq=> ?_)<;>(try simp only[hq,decide_true,decide_false,Bool.not_true,Bool.not_false,not_eq_true',not_eq_false']))|(refine aN ?_)|(refine bo (pD _ _ _) ?_))
theorem ahb(x:ad)(kd:Int)(hb:x.wt<=1048576):xh Try.prog F.lG [x.av,aO kd] true 3 1 ((if x.mO&&oa kd 9 11 then a6 [] (x.cV kd)else []).map aO):=by
 refine T.abB rfl (by simp[AV.ae,AV.ag,ad.ag]) ?_;simp only[T.lG,ad.cells,ad.isAgg,ad.storable,WA,reduceEqDiff,reduceAdd,reduceLT,reduceLeDiff,reduceMul,reduceIte,reduceCtorEq,Int.reduceEq,Int.reduceLT,Int.reduceLE,Int.reduceNe]
 repeat' (first|(simp(disch:=(first|omega|rfl|exact rfl|(simp only[aF,length_cons,length_nil];done)|exact ad.width _)) only[ad.cells,ad.isAgg,ad.storable,ad.eta,length_map,br,bF,aG,dv,WA,reduceEqDiff,reduceAdd,reduceLT,reduceLeDiff,reduceMul,reduceIte,reduceCtorEq,Int.reduceEq,Int.reduceLT,Int.reduceLE,Int.reduceNe])|(refine ba (λ hq=> ?_) (λ hq=> ?_)<;>(try simp only[hq,decide_true,decide_false,Bool.not_true,Bool.not_false,not_eq_true',not_eq_false']))|(refine bC (λ hq=> ?_) (λ hq=> ?_)<;>(try simp only[hq,decide_true,decide_false,Bool.not_true,Bool.not_false,not_eq_true',not_eq_false']))|(refine aS (λ hq=> ?_) (λ hq=> ?_)<;>(try simp only[hq,decide_true,decide_false,Bool.not_true,Bool.not_false,not_eq_true',not_eq_false']))|(refine aN ?_)|(refine bo (sY x hb) ?_)|(refine bo (ql _) ?_)|(refine afC (wN x kd hb) (aiN _) ?_))
 all_goals first|(have uT:=hg;clear hv;simp_all;done)|(have uT:=hg;simp_all;done)|(have uT:=hg;clear hv;simp_all [-all_eq_true,-any_eq_true,-all_eq_false,-any_eq_false];done)|(simp_all;done)|(simp_all [-all_eq_true,-any_eq_true,-all_eq_false,-any_eq_false];done)|(refine avb ?_;(try clear hv);simp_all<;>(intros;omega))|(refine avb ?_;simp_all<;>(intros;omega))|(simp_all<;>(intros;omega))|omega
end Go.Proofs.Ab
