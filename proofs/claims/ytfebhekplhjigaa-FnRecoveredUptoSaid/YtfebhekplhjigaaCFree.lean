/-
  Free: what is free in a type.
-/
import Derived.Test.YtfebhekplhjigaaCSmall
open Bool(not_eq_true' not_eq_false')
open List(length_cons map_cons sum_cons length_nil all_eq_true any_eq_true all_eq_false any_eq_false length_map)
open Nat(reduceEqDiff reduceLeDiff reduceAdd reduceLT reduceMul)
set_option linter.unusedVariables false
set_option linter.unusedSimpArgs false
namespace Go.Ab
set_option maxRecDepth 100000
set_option maxHeartbeats 4000000
def sW(n:Int)(l:List Int):Bool:=l.any λ y=>decide (n=y)
def m8(o:List Int)(n:Int):List Int:=if sW n o=true then o else o++ [n]
def aQ(o l:List Int):List Int:=l.foldl m8 o
theorem yw(n:Int)(l:List Int):sW n l=true↔n∈l:=by simp[sW]
theorem anO(o:List Int)(n x:Int):x∈m8 o n↔x∈o∨x=n:=by
 unfold m8
 split
 ·rename_i h;rw[yw]at h;exact⟨.inl,λ h'=>h'.elim id λ e=>by rw[e];exact h⟩
 ·simp
theorem mq:∀(l o:List Int) (x:Int),x∈aQ o l↔x∈o∨x∈l
 | [],o,x=>by simp[aQ]
 |n::l,o,x=>by
  have:aQ o (n::l)=aQ (m8 o n) l:=rfl;rw[this,mq,anO];simp only[List.mem_cons];exact or_assoc
theorem m9(o l m:List Int):aQ o (l++m)=aQ (aQ o l) m:=by simp[aQ,List.foldl_append]
theorem aeQ(o:List Int)(n:Int):(m8 o n).length<=o.length+1:=by
 unfold m8;split
 ·omega
 ·simp
theorem je:∀(l o:List Int),(aQ o l).length<=o.length+l.length
 | [],o=>by simp[aQ]
 |n::l,o=>by
  have:aQ o (n::l)=aQ (m8 o n) l:=rfl;have h1:=je l (m8 o n);have h2:=aeQ o n;rw[this,length_cons];omega
theorem aeR{o:List Int}{n:Int}(h:n∈o):m8 o n=o:=by unfold m8;rw[if_pos ((yw _ _).2 h)]
theorem anN{o:List Int}{n:Int}(h:n∉o):m8 o n=o++ [n]:=by unfold m8;rw[if_neg (λ h'=>h ((yw _ _).1 h'))]
theorem qX:∀(l p o:List Int),aQ o (aQ p l)=aQ (aQ o p) l
 | [],p,o=>rfl
 |n::l,p,o=>by
  have e1:∀q,aQ q (n::l)=aQ (m8 q n) l:=λ _=>rfl
  rw[e1,e1,qX l (m8 p n) o];congr 1;by_cases h:n∈p
  ·rw[aeR h,aeR ((mq p o n).2 (.inr h))]
  ·rw[anN h,m9];rfl
theorem agP(l o:List Int):aQ o (aQ [] l)=aQ o l:=qX l [] o
mutual
def aa.bC:aa->Int->List Int
 | .mk kd n _ kids,k=>(if kd=k then [n]else [])++aa.gH kids k
def aa.gH:List aa->Int->List Int
 | [],_=>[]
 |x::l,k=>x.bC k++aa.gH l k
end
theorem aa.kI(x:aa)(k:Int):x.bC k=(if x.Kind=k then [x.N]else [])++aa.gH x.Kids k:=by cases x;rw[aa.bC];rfl
mutual
theorem aa.lJ:∀(x:aa) (k:Int),(x.bC k).length<=x.wt+1
 | .mk kd n s kids,k=>by
   have:=aa.yA kids k;have hw:=aa.bg (.mk kd n s kids);simp only[aa.Kids,aa.Name]at hw;rw[aa.bC,List.length_append,hw]
   split<;>simp<;>omega
theorem aa.yA:∀(l:List aa) (k:Int),(aa.gH l k).length<=l.length+(l.map aa.wt).sum
 | [],k=>by simp[aa.gH]
 |x::l,k=>by
  have:=aa.lJ x k;have:=aa.yA l k;simp only[aa.gH,List.length_append,length_cons,map_cons,sum_cons];omega
end
end Go.Ab
namespace Go.Proofs.Ab
open Go.Ab
set_option maxRecDepth 100000
set_option maxHeartbeats 4000000
theorem abb(l:List Int)(n:Int)(hl:l.length<=1073741824):a7 Try.prog F.iM [.sl (l.map aA),aA n] (.v (.bool (sW n l))):=by
 refine T.wN rfl (by simp only[AV.ad,AV.ag,Bool.and_true];exact bH (f:=aA) λ _=>rfl) ?_;have e:∀m:List Int,sW n m=m.any λ y=>decide (y=n):=λ m=>by simp only[sW,eq_comm]
 have hv:sW n l=l.any λ y=>decide (y=n):=e l
 simp only[T.iM,WA,reduceEqDiff,reduceAdd,reduceLT,reduceLeDiff,reduceMul,reduceIte,reduceCtorEq,Int.reduceEq,Int.reduceLT,Int.reduceLE,Int.reduceNe]
 repeat' (first|(simp(disch:=(first|omega|rfl|exact rfl|(simp only[aq,length_cons,length_nil];done))) only[fw,tZ,hd,ub,aK,aS,au,dJ,WA,reduceEqDiff,reduceAdd,reduceLT,reduceLeDiff,reduceMul,reduceIte,reduceCtorEq,Int.reduceEq,Int.reduceLT,Int.reduceLE,Int.reduceNe])|(simp(disch:=(first|omega|rfl|exact rfl|(simp only[aq,length_cons,length_nil];done))) only[fw,hd,aK,aS,au,dJ,WA,reduceEqDiff,reduceAdd,reduceLT,reduceLeDiff,reduceMul,reduceIte,reduceCtorEq,Int.reduceEq,Int.reduceLT,Int.reduceLE,Int.reduceNe])|(simp(disch:=(first|omega|rfl|exact rfl|(simp only[aq,length_cons,length_nil];done))) only[hd,ub,aK,aS,au,dJ,WA,reduceEqDiff,reduceAdd,reduceLT,reduceLeDiff,reduceMul,reduceIte,reduceCtorEq,Int.reduceEq,Int.reduceLT,Int.reduceLE,Int.reduceNe])|(simp(disch:=(first|omega|rfl|exact rfl|(simp only[aq,length_cons,length_nil];done))) only[hix,hd,aK,aS,au,dJ,WA,reduceEqDiff,reduceAdd,reduceLT,reduceLeDiff,reduceMul,reduceIte,reduceCtorEq,Int.reduceEq,Int.reduceLT,Int.reduceLE,Int.reduceNe])|(simp(disch:=(first|omega|rfl|exact rfl|(simp only[aq,length_cons,length_nil];done))) only[hd,aK,aS,au,dJ,WA,reduceEqDiff,reduceAdd,reduceLT,reduceLeDiff,reduceMul,reduceIte,reduceCtorEq,Int.reduceEq,Int.reduceLT,Int.reduceLE,Int.reduceNe])|(simp(disch:=(first|omega|rfl|exact rfl|(simp only[aq,length_cons,length_nil];done))) only[aK,aS,au,dJ,WA,reduceEqDiff,reduceAdd,reduceLT,reduceLeDiff,reduceMul,reduceIte,reduceCtorEq,Int.reduceEq,Int.reduceLT,Int.reduceLE,Int.reduceNe])|(refine aE (λ hq=> ?_) (λ hq=> ?_)<;>(try simp only[hq,decide_true,decide_false,Bool.not_true,Bool.not_false,not_eq_true',not_eq_false']))|(refine a8 (λ hq=> ?_) (λ hq=> ?_)<;>(try simp only[hq,decide_true,decide_false,Bool.not_true,Bool.not_false,not_eq_true',not_eq_false']))|(refine aD (λ hq=> ?_) (λ hq=> ?_)<;>(try simp only[hq,decide_true,decide_false,Bool.not_true,Bool.not_false,not_eq_true',not_eq_false']))|(refine aB ?_)|(refine eK l (λ i (_:Unit)=>[aA i]) (λ _ rest _=>sW n l=rest.any λ y=>decide (y=n)) () rfl ?_ (λ i k rest b hi hx hm fw hd hg=> ?_) (λ b hd hg=> ?_)))
 all_goals first|(have qT:=hg;clear hv;simp_all;done)|(have qT:=hg;simp_all;done)|(have qT:=hg;clear hv;simp_all [-all_eq_true,-any_eq_true,-all_eq_false,-any_eq_false];done)|(simp_all;done)|(simp_all [-all_eq_true,-any_eq_true,-all_eq_false,-any_eq_false];done)|(refine avb ?_;(try clear hv);simp_all<;>(intros;omega))|(refine avb ?_;simp_all<;>(intros;omega))|(simp_all<;>(intros;omega))|omega
theorem afQ(l:List Int):AV.ad (l.map aA)=true:=bH (f:=aA) λ _=>rfl
theorem aaG{x:aa}{kd:Int}{o b:List Int}{y:aa}{rest:List aa}(hg:aQ b (aa.gH (y::rest) kd)=aQ o (x.bC kd)/\b.length+((y::rest).length+((y::rest).map aa.wt).sum)<=4194304):
  aQ (aQ b (y.bC kd)) (aa.gH rest kd)=aQ o (x.bC kd)/\(aQ b (y.bC kd)).length+(rest.length+(rest.map aa.wt).sum)<=4194304:=by
 have h1:=je (y.bC kd) b;have h2:=y.lJ kd;simp only[aa.gH,m9,length_cons,map_cons,sum_cons]at hg;exact⟨hg.1,by omega⟩
theorem aaH{x:aa}{kd:Int}{o:List Int}(ho:o.length+(x.wt+1)<=4194304):aQ (aQ o (if x.Kind=kd then [x.N]else [])) (aa.gH x.Kids kd)=aQ o (x.bC kd)/\
  (aQ o (if x.Kind=kd then [x.N]else [])).length+(x.Kids.length+(x.Kids.map aa.wt).sum)<=4194304:=by
 have hw:=x.bg;have h1:=je (if x.Kind=kd then [x.N]else []) o;have h2:(if x.Kind=kd then [x.N]else []).length<=1:=by split<;>simp
 refine⟨by rw[x.kI,m9],by omega⟩
theorem qG(x:aa)(kd:Int)(o:List Int)(hb:x.wt<=1048576)(ho:o.length+(x.wt+1)<=4194304):gA Try.prog F.cw G.cw [x.av,aA kd,.sl (o.map aA)] [.sl ((aQ o (x.bC kd)).map aA)]:=by
 have hw:=x.bg;refine T.tn rfl rfl (by simp only[AV.ad,AV.ag,aa.ag,Bool.and_true,Bool.true_and];exact afQ _) ?_;simp only[T.cw,aa.cells,aa.isAgg,aa.storable,WA,reduceEqDiff,reduceAdd,reduceLT,reduceLeDiff,reduceMul,reduceIte,reduceCtorEq,Int.reduceEq,Int.reduceLT,Int.reduceLE,Int.reduceNe];refine cC [.sl ((aQ o (if x.Kind=kd then [x.N]else [])).map aA)] rfl ?_ ?_
 ·repeat' (first|(simp(disch:=(first|omega|rfl|exact rfl|(simp only[aq,length_cons,length_nil];done)|exact aa.width _)) only[aa.cells,aa.isAgg,aa.storable,aa.eta,length_map,aK,aS,au,dJ,WA,reduceEqDiff,reduceAdd,reduceLT,reduceLeDiff,reduceMul,reduceIte,reduceCtorEq,Int.reduceEq,Int.reduceLT,Int.reduceLE,Int.reduceNe])|(refine aE (λ hq=> ?_) (λ hq=> ?_)<;>(try simp only[hq,decide_true,decide_false,Bool.not_true,Bool.not_false,not_eq_true',not_eq_false']))|(refine a8 (λ hq=> ?_) (λ hq=> ?_)<;>(try simp only[hq,decide_true,decide_false,Bool.not_true,Bool.not_false,not_eq_true',not_eq_false']))|(refine aD (λ hq=> ?_) (λ hq=> ?_)<;>(try simp only[hq,decide_true,decide_false,Bool.not_true,Bool.not_false,not_eq_true',not_eq_false']))|(refine aB ?_)|(refine bn (abb o _ (by omega)) ?_))
  ·refine⟨λ y hy=>by rw[hy];rfl,by omega,by omega,?_⟩;have:sW x.N o≠true:=by simpa using hq
   simp[aQ,m8,this]
  ·have:sW x.N o=true:=by simpa using hq
   simp[aQ,m8,this]
  ·rfl
 ·repeat' (first|(simp(disch:=(first|omega|rfl|exact rfl|(simp only[aq,length_cons,length_nil];done)|exact aa.width _)) only[fw,tZ,hd,ub,aa.cells,aa.isAgg,aa.storable,aa.eta,aK,aS,au,dJ,WA,reduceEqDiff,reduceAdd,reduceLT,reduceLeDiff,reduceMul,reduceIte,reduceCtorEq,Int.reduceEq,Int.reduceLT,Int.reduceLE,Int.reduceNe])|(simp(disch:=(first|omega|rfl|exact rfl|(simp only[aq,length_cons,length_nil];done)|exact aa.width _)) only[fw,hd,aa.cells,aa.isAgg,aa.storable,aa.eta,aK,aS,au,dJ,WA,reduceEqDiff,reduceAdd,reduceLT,reduceLeDiff,reduceMul,reduceIte,reduceCtorEq,Int.reduceEq,Int.reduceLT,Int.reduceLE,Int.reduceNe])|(simp(disch:=(first|omega|rfl|exact rfl|(simp only[aq,length_cons,length_nil];done)|exact aa.width _)) only[hd,ub,aa.cells,aa.isAgg,aa.storable,aa.eta,aK,aS,au,dJ,WA,reduceEqDiff,reduceAdd,reduceLT,reduceLeDiff,reduceMul,reduceIte,reduceCtorEq,Int.reduceEq,Int.reduceLT,Int.reduceLE,Int.reduceNe])|(simp(disch:=(first|omega|rfl|exact rfl|(simp only[aq,length_cons,length_nil];done)|exact aa.width _)) only[hix,hd,aa.cells,aa.isAgg,aa.storable,aa.eta,aK,aS,au,dJ,WA,reduceEqDiff,reduceAdd,reduceLT,reduceLeDiff,reduceMul,reduceIte,reduceCtorEq,Int.reduceEq,Int.reduceLT,Int.reduceLE,Int.reduceNe])|(simp(disch:=(first|omega|rfl|exact rfl|(simp only[aq,length_cons,length_nil];done)|exact aa.width _)) only[hd,aa.cells,aa.isAgg,aa.storable,aa.eta,aK,aS,au,dJ,WA,reduceEqDiff,reduceAdd,reduceLT,reduceLeDiff,reduceMul,reduceIte,reduceCtorEq,Int.reduceEq,Int.reduceLT,Int.reduceLE,Int.reduceNe])|(simp(disch:=(first|omega|rfl|exact rfl|(simp only[aq,length_cons,length_nil];done)|exact aa.width _)) only[aa.cells,aa.isAgg,aa.storable,aa.eta,aK,aS,au,dJ,WA,reduceEqDiff,reduceAdd,reduceLT,reduceLeDiff,reduceMul,reduceIte,reduceCtorEq,Int.reduceEq,Int.reduceLT,Int.reduceLE,Int.reduceNe])|(refine aE (λ hq=> ?_) (λ hq=> ?_)<;>(try simp only[hq,decide_true,decide_false,Bool.not_true,Bool.not_false,not_eq_true',not_eq_false']))|(refine a8 (λ hq=> ?_) (λ hq=> ?_)<;>(try simp only[hq,decide_true,decide_false,Bool.not_true,Bool.not_false,not_eq_true',not_eq_false']))|(refine aD (λ hq=> ?_) (λ hq=> ?_)<;>(try simp only[hq,decide_true,decide_false,Bool.not_true,Bool.not_false,not_eq_true',not_eq_false']))|(refine aB ?_)|(refine eK x.Kids (λ i (q:List Int)=>[.sl (q.map aA),aA i]) (λ _ rest q=>aQ q (aa.gH rest kd)=aQ o (x.bC kd)/\q.length+(rest.length+(rest.map aa.wt).sum)<=4194304) (aQ o (if x.Kind=kd then [x.N]else [])) rfl ?_ (λ i k rest b hi hx hm fw hd hg=> ?_) (λ b hd hg=> ?_))|(refine dT (qG k kd b (by have:=ca aa.wt hm;omega) (by simp only[length_cons,map_cons,sum_cons]at hg;omega)) rfl (by simp only[AV.ad,AV.ag,Bool.and_true];exact afQ _) ?_))
  ·exact aaH ho
  ·exact⟨hi,_,aaG hg,rfl⟩
  ·rw[←hg.1];rfl
termination_by SizeOf.sizeOf x
decreasing_by all_goals exact aa.cP hm
theorem ac0(x:aa)(kd:Int)(hb:x.wt<=1048576):tf Try.prog F.jf [x.av,aA kd] false 3 1 ((if x.iU&&ld kd 9 11 then aQ [] (x.bC kd)else []).map aA):=by
 refine T.wU rfl (by simp[AV.ad,AV.ag,aa.ag]) ?_;simp only[T.jf,aa.cells,aa.isAgg,aa.storable,WA,reduceEqDiff,reduceAdd,reduceLT,reduceLeDiff,reduceMul,reduceIte,reduceCtorEq,Int.reduceEq,Int.reduceLT,Int.reduceLE,Int.reduceNe]
 repeat' (first|(simp(disch:=(first|omega|rfl|exact rfl|(simp only[aq,length_cons,length_nil];done)|exact aa.width _)) only[aa.cells,aa.isAgg,aa.storable,aa.eta,length_map,aK,aS,au,dJ,WA,reduceEqDiff,reduceAdd,reduceLT,reduceLeDiff,reduceMul,reduceIte,reduceCtorEq,Int.reduceEq,Int.reduceLT,Int.reduceLE,Int.reduceNe])|(refine aE (λ hq=> ?_) (λ hq=> ?_)<;>(try simp only[hq,decide_true,decide_false,Bool.not_true,Bool.not_false,not_eq_true',not_eq_false']))|(refine a8 (λ hq=> ?_) (λ hq=> ?_)<;>(try simp only[hq,decide_true,decide_false,Bool.not_true,Bool.not_false,not_eq_true',not_eq_false']))|(refine aD (λ hq=> ?_) (λ hq=> ?_)<;>(try simp only[hq,decide_true,decide_false,Bool.not_true,Bool.not_false,not_eq_true',not_eq_false']))|(refine aB ?_)|(refine bn (mF x hb) ?_)|(refine bn (ky _ _ _) ?_)|(refine dT (qG x kd [] hb (by simp;omega)) rfl (by simp only[AV.ad,AV.ag,Bool.and_true];exact afQ _) ?_))
 all_goals first|(have qT:=hg;clear hv;simp_all;done)|(have qT:=hg;simp_all;done)|(have qT:=hg;clear hv;simp_all [-all_eq_true,-any_eq_true,-all_eq_false,-any_eq_false];done)|(simp_all;done)|(simp_all [-all_eq_true,-any_eq_true,-all_eq_false,-any_eq_false];done)|(refine avb ?_;(try clear hv);simp_all<;>(intros;omega))|(refine avb ?_;simp_all<;>(intros;omega))|(simp_all<;>(intros;omega))|omega
theorem ajj{l:List Int}{i:Nat}{n:Int}(h:l[i]? =some n):(l.map aA).getD i .top=aA n:=by simp[List.getD,h]
theorem sR(x:aa)(kd:Int)(hb:x.wt<=1048576):tf Try.prog F.gV [x.av,aA kd] true 3 1 ((aQ [] (x.bC kd)).map aA):=by
 have hw:=x.bg;refine T.vF rfl (by simp[AV.ad,AV.ag,aa.ag]) ?_;simp only[T.gV,aa.cells,aa.isAgg,aa.storable,WA,reduceEqDiff,reduceAdd,reduceLT,reduceLeDiff,reduceMul,reduceIte,reduceCtorEq,Int.reduceEq,Int.reduceLT,Int.reduceLE,Int.reduceNe];refine cC [.sl ((aQ [] (if x.Kind=kd then [x.N]else [])).map aA)] rfl ?_ ?_
 ·repeat' (first|(simp(disch:=(first|omega|rfl|exact rfl|(simp only[aq,length_cons,length_nil];done)|exact aa.width _)) only[aa.cells,aa.isAgg,aa.storable,aa.eta,length_map,aK,aS,au,dJ,WA,reduceEqDiff,reduceAdd,reduceLT,reduceLeDiff,reduceMul,reduceIte,reduceCtorEq,Int.reduceEq,Int.reduceLT,Int.reduceLE,Int.reduceNe])|(refine aE (λ hq=> ?_) (λ hq=> ?_)<;>(try simp only[hq,decide_true,decide_false,Bool.not_true,Bool.not_false,not_eq_true',not_eq_false']))|(refine a8 (λ hq=> ?_) (λ hq=> ?_)<;>(try simp only[hq,decide_true,decide_false,Bool.not_true,Bool.not_false,not_eq_true',not_eq_false']))|(refine aD (λ hq=> ?_) (λ hq=> ?_)<;>(try simp only[hq,decide_true,decide_false,Bool.not_true,Bool.not_false,not_eq_true',not_eq_false']))|(refine aB ?_))
  ·refine⟨λ y hy=>by rw[hy];rfl,?_⟩;rfl
  ·rfl
 ·simp only[aa.cells,aa.isAgg,aa.storable,WA,reduceEqDiff,reduceAdd,reduceLT,reduceLeDiff,reduceMul,reduceIte,reduceCtorEq,Int.reduceEq,Int.reduceLT,Int.reduceLE,Int.reduceNe]
  repeat' (first|(simp(disch:=(first|omega|rfl|exact rfl|(simp only[aq,length_cons,length_nil];done)|exact aa.width _)) only[az8,hd2,fw,hd,aa.cells,aa.isAgg,aa.storable,aa.eta,length_map,aK,aS,au,dJ,WA,reduceEqDiff,reduceAdd,reduceLT,reduceLeDiff,reduceMul,reduceIte,reduceCtorEq,Int.reduceEq,Int.reduceLT,Int.reduceLE,Int.reduceNe])|(simp(disch:=(first|omega|rfl|exact rfl|(simp only[aq,length_cons,length_nil];done)|exact aa.width _)) only[az1,hd2,fw,hd,aa.cells,aa.isAgg,aa.storable,aa.eta,length_map,aK,aS,au,dJ,WA,reduceEqDiff,reduceAdd,reduceLT,reduceLeDiff,reduceMul,reduceIte,reduceCtorEq,Int.reduceEq,Int.reduceLT,Int.reduceLE,Int.reduceNe])|(simp(disch:=(first|omega|rfl|exact rfl|(simp only[aq,length_cons,length_nil];done)|exact aa.width _)) only[az1,hd2,aa.cells,aa.isAgg,aa.storable,aa.eta,length_map,aK,aS,au,dJ,WA,reduceEqDiff,reduceAdd,reduceLT,reduceLeDiff,reduceMul,reduceIte,reduceCtorEq,Int.reduceEq,Int.reduceLT,Int.reduceLE,Int.reduceNe])|(simp(disch:=(first|omega|rfl|exact rfl|(simp only[aq,length_cons,length_nil];done)|exact aa.width _)) only[hd2,fw,hd,aa.cells,aa.isAgg,aa.storable,aa.eta,length_map,aK,aS,au,dJ,WA,reduceEqDiff,reduceAdd,reduceLT,reduceLeDiff,reduceMul,reduceIte,reduceCtorEq,Int.reduceEq,Int.reduceLT,Int.reduceLE,Int.reduceNe])|(simp(disch:=(first|omega|rfl|exact rfl|(simp only[aq,length_cons,length_nil];done)|exact aa.width _)) only[hd2,aa.cells,aa.isAgg,aa.storable,aa.eta,length_map,aK,aS,au,dJ,WA,reduceEqDiff,reduceAdd,reduceLT,reduceLeDiff,reduceMul,reduceIte,reduceCtorEq,Int.reduceEq,Int.reduceLT,Int.reduceLE,Int.reduceNe])|(simp(disch:=(first|omega|rfl|exact rfl|(simp only[aq,length_cons,length_nil];done)|exact aa.width _)) only[fw,tZ,hd,ub,aa.cells,aa.isAgg,aa.storable,aa.eta,length_map,aK,aS,au,dJ,WA,reduceEqDiff,reduceAdd,reduceLT,reduceLeDiff,reduceMul,reduceIte,reduceCtorEq,Int.reduceEq,Int.reduceLT,Int.reduceLE,Int.reduceNe])|(simp(disch:=(first|omega|rfl|exact rfl|(simp only[aq,length_cons,length_nil];done)|exact aa.width _)) only[fw,hd,aa.cells,aa.isAgg,aa.storable,aa.eta,length_map,aK,aS,au,dJ,WA,reduceEqDiff,reduceAdd,reduceLT,reduceLeDiff,reduceMul,reduceIte,reduceCtorEq,Int.reduceEq,Int.reduceLT,Int.reduceLE,Int.reduceNe])|(simp(disch:=(first|omega|rfl|exact rfl|(simp only[aq,length_cons,length_nil];done)|exact aa.width _)) only[hd,ub,aa.cells,aa.isAgg,aa.storable,aa.eta,length_map,aK,aS,au,dJ,WA,reduceEqDiff,reduceAdd,reduceLT,reduceLeDiff,reduceMul,reduceIte,reduceCtorEq,Int.reduceEq,Int.reduceLT,Int.reduceLE,Int.reduceNe])|(simp(disch:=(first|omega|rfl|exact rfl|(simp only[aq,length_cons,length_nil];done)|exact aa.width _)) only[hix,hd,aa.cells,aa.isAgg,aa.storable,aa.eta,length_map,aK,aS,au,dJ,WA,reduceEqDiff,reduceAdd,reduceLT,reduceLeDiff,reduceMul,reduceIte,reduceCtorEq,Int.reduceEq,Int.reduceLT,Int.reduceLE,Int.reduceNe])|(simp(disch:=(first|omega|rfl|exact rfl|(simp only[aq,length_cons,length_nil];done)|exact aa.width _)) only[hd,aa.cells,aa.isAgg,aa.storable,aa.eta,length_map,aK,aS,au,dJ,WA,reduceEqDiff,reduceAdd,reduceLT,reduceLeDiff,reduceMul,reduceIte,reduceCtorEq,Int.reduceEq,Int.reduceLT,Int.reduceLE,Int.reduceNe])|(simp(disch:=(first|omega|rfl|exact rfl|(simp only[aq,length_cons,length_nil];done)|exact aa.width _)) only[aa.cells,aa.isAgg,aa.storable,aa.eta,length_map,aK,aS,au,dJ,WA,reduceEqDiff,reduceAdd,reduceLT,reduceLeDiff,reduceMul,reduceIte,reduceCtorEq,Int.reduceEq,Int.reduceLT,Int.reduceLE,Int.reduceNe])|(refine aE (λ hq=> ?_) (λ hq=> ?_)<;>(try simp only[hq,decide_true,decide_false,Bool.not_true,Bool.not_false,not_eq_true',not_eq_false']))|(refine a8 (λ hq=> ?_) (λ hq=> ?_)<;>(try simp only[hq,decide_true,decide_false,Bool.not_true,Bool.not_false,not_eq_true',not_eq_false']))|(refine aD (λ hq=> ?_) (λ hq=> ?_)<;>(try simp only[hq,decide_true,decide_false,Bool.not_true,Bool.not_false,not_eq_true',not_eq_false']))|(refine aB ?_)|(refine eK (aQ [] (k.bC kd)) (λ i (q:List Int)=>[.sl (q.map aA),aA i]) (λ _ rest q=>aQ q rest=aQ b (aQ [] (k.bC kd))/\q.length+rest.length<=4194304) b rfl ?_ (λ i2 k2 avv b2 hi2 hx2 hm2 az8 hd2 hg2=> ?_) (λ b2 hd2 hg2=> ?_))|(refine eK x.Kids (λ i (q:List Int)=>[.sl (q.map aA),aA i]) (λ _ rest q=>aQ q (aa.gH rest kd)=aQ [] (x.bC kd)/\q.length+(rest.length+(rest.map aa.wt).sum)<=4194304) (aQ [] (if x.Kind=kd then [x.N]else [])) rfl ?_ (λ i k rest b hi hx hm fw hd hg=> ?_) (λ b hd hg=> ?_))|(refine cC [.sl ((aQ b (aQ [] (k.bC kd))).map aA),aA k.Kind,aA k.N,ch k.Name,.sl (k.Kids.map aa.av),.sl ((aQ [] (k.bC kd)).map aA)] rfl ?_ ?_)|(refine acm (sR k kd (by have:=ca aa.wt hm;omega)) (afQ _) ?_))
  ·exact aaH (by simp;omega)
  ·have h1:=je (k.bC kd) [];have h2:=k.lJ kd;have:=hg.2;simp only[length_cons,map_cons,sum_cons,length_nil]at this h1;omega
  ·have h3:=hg2.2;simp only[length_cons]at h3;refine⟨by omega,hi2,by rw[ajj hx2];exact Nat.le_refl _,?_⟩;rw[ajj hx2];refine bn (ajt b2 k2 (by omega)) ?_;have e1:aQ (m8 b2 k2) avv=aQ b (aQ [] (k.bC kd)):=hg2.1;have e2:=aeQ b2 k2;have e3:=je (k.bC kd) [];have e4:=k.lJ kd;have e5:=ca aa.wt hm;simp only[length_nil]at e3
   repeat' (first|(simp(disch:=(first|omega|rfl|exact rfl|(simp only[aq,length_cons,length_nil];done))) only[length_map,aq,List.getD_cons_zero,aK,aS,au,dJ,WA,reduceEqDiff,reduceAdd,reduceLT,reduceLeDiff,reduceMul,reduceIte,reduceCtorEq,Int.reduceEq,Int.reduceLT,Int.reduceLE,Int.reduceNe])|(refine aE (λ hq=> ?_) (λ hq=> ?_)<;>(try simp only[hq,decide_true,decide_false,Bool.not_true,Bool.not_false,not_eq_true',not_eq_false']))|(refine a8 (λ hq=> ?_) (λ hq=> ?_)<;>(try simp only[hq,decide_true,decide_false,Bool.not_true,Bool.not_false,not_eq_true',not_eq_false']))|(refine aD (λ hq=> ?_) (λ hq=> ?_)<;>(try simp only[hq,decide_true,decide_false,Bool.not_true,Bool.not_false,not_eq_true',not_eq_false']))|(refine aB ?_))
   ·have hn:sW k2 b2=false:=by unfold sW;simpa only[not_eq_true']using hq
    refine⟨λ y hy=>by rw[hy];rfl,by omega,by omega,hi2,m8 b2 k2,⟨e1,by omega⟩,?_⟩;simp(disch:=omega) only[m8,hn,au,Bool.false_eq_true,if_false,List.map_append,map_cons,List.map_nil]
   ·have hn:sW k2 b2=true:=by unfold sW;simpa only[not_eq_false']using hq
    refine⟨hi2,m8 b2 k2,⟨e1,by omega⟩,?_⟩;simp(disch:=omega) only[m8,hn,au,if_true]
  ·refine⟨hi,_,aaG hg,?_⟩;have:b2=aQ b (k.bC kd):=by rw[←agP];exact hg2.1
   rw[this]
  ·rw[←hg.1];rfl
termination_by SizeOf.sizeOf x
decreasing_by all_goals exact aa.cP hm
theorem nJ(kd:Int):a7 Try.prog F.cM [aA kd] (.v (.bool (ld kd 9 11))):=by
 refine T.mb rfl rfl ?_;simp only[T.cM,WA,reduceEqDiff,reduceAdd,reduceLT,reduceLeDiff,reduceMul,reduceIte,reduceCtorEq,Int.reduceEq,Int.reduceLT,Int.reduceLE,Int.reduceNe]
 repeat' (first|(simp(disch:=(first|omega|rfl|exact rfl|(simp only[aq,length_cons,length_nil];done))) only[aK,aS,au,dJ,WA,reduceEqDiff,reduceAdd,reduceLT,reduceLeDiff,reduceMul,reduceIte,reduceCtorEq,Int.reduceEq,Int.reduceLT,Int.reduceLE,Int.reduceNe])|(refine aE (λ hq=> ?_) (λ hq=> ?_)<;>(try simp only[hq,decide_true,decide_false,Bool.not_true,Bool.not_false,not_eq_true',not_eq_false']))|(refine a8 (λ hq=> ?_) (λ hq=> ?_)<;>(try simp only[hq,decide_true,decide_false,Bool.not_true,Bool.not_false,not_eq_true',not_eq_false']))|(refine aD (λ hq=> ?_) (λ hq=> ?_)<;>(try simp only[hq,decide_true,decide_false,Bool.not_true,Bool.not_false,not_eq_true',not_eq_false']))|(refine aB ?_)|(refine bn (kh _ _ _) ?_))
theorem adM(x:aa)(kd:Int)(hb:x.wt<=1048576):tf Try.prog F.j3 [x.av,aA kd] true 3 1 ((if x.iU&&ld kd 9 11 then aQ [] (x.bC kd)else []).map aA):=by
 refine T.yf rfl (by simp[AV.ad,AV.ag,aa.ag]) ?_;simp only[T.j3,aa.cells,aa.isAgg,aa.storable,WA,reduceEqDiff,reduceAdd,reduceLT,reduceLeDiff,reduceMul,reduceIte,reduceCtorEq,Int.reduceEq,Int.reduceLT,Int.reduceLE,Int.reduceNe]
 repeat' (first|(simp(disch:=(first|omega|rfl|exact rfl|(simp only[aq,length_cons,length_nil];done)|exact aa.width _)) only[aa.cells,aa.isAgg,aa.storable,aa.eta,length_map,aK,aS,au,dJ,WA,reduceEqDiff,reduceAdd,reduceLT,reduceLeDiff,reduceMul,reduceIte,reduceCtorEq,Int.reduceEq,Int.reduceLT,Int.reduceLE,Int.reduceNe])|(refine aE (λ hq=> ?_) (λ hq=> ?_)<;>(try simp only[hq,decide_true,decide_false,Bool.not_true,Bool.not_false,not_eq_true',not_eq_false']))|(refine a8 (λ hq=> ?_) (λ hq=> ?_)<;>(try simp only[hq,decide_true,decide_false,Bool.not_true,Bool.not_false,not_eq_true',not_eq_false']))|(refine aD (λ hq=> ?_) (λ hq=> ?_)<;>(try simp only[hq,decide_true,decide_false,Bool.not_true,Bool.not_false,not_eq_true',not_eq_false']))|(refine aB ?_)|(refine bn (mP x hb) ?_)|(refine bn (nJ _) ?_)|(refine acm (sR x kd hb) (afQ _) ?_))
 all_goals first|(have qT:=hg;clear hv;simp_all;done)|(have qT:=hg;simp_all;done)|(have qT:=hg;clear hv;simp_all [-all_eq_true,-any_eq_true,-all_eq_false,-any_eq_false];done)|(simp_all;done)|(simp_all [-all_eq_true,-any_eq_true,-all_eq_false,-any_eq_false];done)|(refine avb ?_;(try clear hv);simp_all<;>(intros;omega))|(refine avb ?_;simp_all<;>(intros;omega))|(simp_all<;>(intros;omega))|omega
end Go.Proofs.Ab
