/-
  Put: types for variables.
-/
import Derived.Test.YtfebhekplhjigaaCFree
open Bool(and_eq_true not_eq_true' not_eq_false')
open List(length_cons length_nil length_map)
open Nat(reduceEqDiff reduceLeDiff reduceAdd reduceLT reduceMul)
set_option linter.unusedVariables false
set_option linter.unusedSimpArgs false
namespace Go.Ab
set_option maxRecDepth 100000
set_option maxHeartbeats 4000000
mutual
def aa.put:aa->Int->List aa->aa
 | .mk kd n s kids,k,list=>if kd=k/\n<(list.length:Int)then(list[n.toNat]?).getD (.mk kd n s kids)else .mk kd n s (aa.aoI kids k list)
def aa.aoI:List aa->Int->List aa->List aa
 | [],_,_=>[]
 |x::l,k,list=>x.put k list::aa.aoI l k list
end
theorem aa.aoH(l:List aa)(k:Int)(list:List aa):aa.aoI l k list=l.map λ x=>x.put k list:=by
 induction l with
 |nil=>rfl
 |cons x l ih=>simp only[aa.aoI,ih,List.map_cons]
theorem aa.put_eq(x:aa)(k:Int)(list:List aa):x.put k list=if x.Kind=k/\x.N<(list.length:Int)then(list[x.N.toNat]?).getD x else .mk x.Kind x.N x.Name (x.Kids.map λ y=>y.put k list):=by
 cases x;rw[aa.put,aa.aoH];rfl
theorem aa.ahk{x:aa}(h:x.iU=true)(hk:x.Kind=9∨x.Kind=10∨x.Kind=11):0<=x.N/\x.Kids= []:=by
 rw[x.iw]at h;simp only[and_eq_true,aa.eT]at h;have h1:=h.1.2;have e1:¬(x.Kind=1∨x.Kind=2∨x.Kind=3∨x.Kind=4):=by omega
 have e2:¬x.Kind=5:=by omega
 have e3:¬x.Kind=6:=by omega
 have e4:¬x.Kind=7:=by omega
 have e5:¬x.Kind=8:=by omega
 rw[if_neg e1,if_neg e2,if_neg e3,if_neg e4,if_neg e5,if_pos hk]at h1;simp only[and_eq_true,decide_eq_true_eq]at h1;exact⟨h1.2,List.eq_nil_of_length_eq_zero h1.1⟩
theorem aa.wg{x y:aa}(h:x.iU=true)(hm:y∈x.Kids):y.iU=true:=by
 rw[x.iw]at h;simp only[and_eq_true]at h;exact List.all_eq_true.1 h.2 y hm
end Go.Ab
namespace Go.Proofs.Ab
open Go.Ab
set_option maxRecDepth 100000
set_option maxHeartbeats 4000000
theorem alo(l:List aa):AV.ad (l.map aa.av)=true:=bH (f:=aa.av) aa.ag
theorem qH(x:aa)(hb:x.wt<=1048576):a7 Try.prog F.fL [x.av] x.av:=by
 have hw:=x.bg;refine T.vk rfl (by simp[AV.ad,AV.ag,aa.ag]) ?_;simp only[T.fL,aa.cells,aa.isAgg,aa.storable,WA,reduceEqDiff,reduceAdd,reduceLT,reduceLeDiff,reduceMul,reduceIte,reduceCtorEq,Int.reduceEq,Int.reduceLT,Int.reduceLE,Int.reduceNe];refine cC [.sl (x.Kids.map aa.av)] rfl ?_ ?_
 ·repeat' (first|(simp(disch:=(first|omega|rfl|exact rfl|(simp only[aq,length_cons,length_nil];done)|exact aa.width _)) only[fw,tZ,hd,ub,aa.cells,aa.isAgg,aa.storable,aa.eta,length_map,aK,aS,au,dJ,WA,reduceEqDiff,reduceAdd,reduceLT,reduceLeDiff,reduceMul,reduceIte,reduceCtorEq,Int.reduceEq,Int.reduceLT,Int.reduceLE,Int.reduceNe])|(simp(disch:=(first|omega|rfl|exact rfl|(simp only[aq,length_cons,length_nil];done)|exact aa.width _)) only[fw,hd,aa.cells,aa.isAgg,aa.storable,aa.eta,length_map,aK,aS,au,dJ,WA,reduceEqDiff,reduceAdd,reduceLT,reduceLeDiff,reduceMul,reduceIte,reduceCtorEq,Int.reduceEq,Int.reduceLT,Int.reduceLE,Int.reduceNe])|(simp(disch:=(first|omega|rfl|exact rfl|(simp only[aq,length_cons,length_nil];done)|exact aa.width _)) only[hd,ub,aa.cells,aa.isAgg,aa.storable,aa.eta,length_map,aK,aS,au,dJ,WA,reduceEqDiff,reduceAdd,reduceLT,reduceLeDiff,reduceMul,reduceIte,reduceCtorEq,Int.reduceEq,Int.reduceLT,Int.reduceLE,Int.reduceNe])|(simp(disch:=(first|omega|rfl|exact rfl|(simp only[aq,length_cons,length_nil];done)|exact aa.width _)) only[hix,hd,aa.cells,aa.isAgg,aa.storable,aa.eta,length_map,aK,aS,au,dJ,WA,reduceEqDiff,reduceAdd,reduceLT,reduceLeDiff,reduceMul,reduceIte,reduceCtorEq,Int.reduceEq,Int.reduceLT,Int.reduceLE,Int.reduceNe])|(simp(disch:=(first|omega|rfl|exact rfl|(simp only[aq,length_cons,length_nil];done)|exact aa.width _)) only[hd,aa.cells,aa.isAgg,aa.storable,aa.eta,length_map,aK,aS,au,dJ,WA,reduceEqDiff,reduceAdd,reduceLT,reduceLeDiff,reduceMul,reduceIte,reduceCtorEq,Int.reduceEq,Int.reduceLT,Int.reduceLE,Int.reduceNe])|(simp(disch:=(first|omega|rfl|exact rfl|(simp only[aq,length_cons,length_nil];done)|exact aa.width _)) only[aa.cells,aa.isAgg,aa.storable,aa.eta,length_map,aK,aS,au,dJ,WA,reduceEqDiff,reduceAdd,reduceLT,reduceLeDiff,reduceMul,reduceIte,reduceCtorEq,Int.reduceEq,Int.reduceLT,Int.reduceLE,Int.reduceNe])|(refine aE (λ hq=> ?_) (λ hq=> ?_)<;>(try simp only[hq,decide_true,decide_false,Bool.not_true,Bool.not_false,not_eq_true',not_eq_false']))|(refine a8 (λ hq=> ?_) (λ hq=> ?_)<;>(try simp only[hq,decide_true,decide_false,Bool.not_true,Bool.not_false,not_eq_true',not_eq_false']))|(refine aD (λ hq=> ?_) (λ hq=> ?_)<;>(try simp only[hq,decide_true,decide_false,Bool.not_true,Bool.not_false,not_eq_true',not_eq_false']))|(refine aB ?_)|(refine eK x.Kids (λ i (q:List aa)=>[.sl (q.map aa.av),aA i]) (λ i rest q=>q++rest=x.Kids) ([]:List aa) rfl ?_ (λ i k rest b hi hx hm fw hd hg=> ?_) (λ b hd hg=> ?_))|(refine mi (qH k (by have:=ca aa.wt hm;omega)) (aa.ag _) ?_))
  ·refine⟨λ y hy=>by rw[hy];exact aa.width _,by have:=congrArg List.length hg;simp at this;omega,by have:=congrArg List.length hg;simp at this;omega,hi,b++ [k],by rw[←hg];simp,?_⟩;rw[List.map_append];rfl
  ·have nL:b=x.Kids:=by simpa using hg
   rw[nL]
 ·simp only[aa.cells,aq,nI,WA,reduceEqDiff,reduceAdd,reduceLT,reduceLeDiff,reduceMul,reduceIte,reduceCtorEq,Int.reduceEq,Int.reduceLT,Int.reduceLE,Int.reduceNe];exact aa.eta x
termination_by SizeOf.sizeOf x
decreasing_by all_goals exact aa.cP hm
theorem sj(x:aa)(kd:Int)(l:List aa)(mr:x.iU=true)(hkd:kd=9∨kd=10∨kd=11)(hb:x.wt<=1048576)(hl:l.length+(l.map aa.wt).sum<=1048576):a7 Try.prog F.fW [x.av,aA kd,.sl (l.map aa.av)] (x.put kd l).av:=by
 have hw:=x.bg;have hpe:=x.put_eq kd l;have hn:AV.ad [x.av,aA kd,.sl (l.map aa.av)]=true:=by simp[AV.ad,AV.ag,aa.ag,alo]
 refine T.wM rfl hn ?_;simp only[T.fW,aa.cells,aa.isAgg,aa.storable,WA,reduceEqDiff,reduceAdd,reduceLT,reduceLeDiff,reduceMul,reduceIte,reduceCtorEq,Int.reduceEq,Int.reduceLT,Int.reduceLE,Int.reduceNe];refine aB ?_;simp only[WA,reduceEqDiff,reduceAdd,reduceLT,reduceLeDiff,reduceMul,reduceIte,reduceCtorEq,Int.reduceEq,Int.reduceLT,Int.reduceLE,Int.reduceNe];refine cC [.v (.bool (decide (x.Kind=kd)&&decide (x.N<(l.length:Int))))] rfl ?_ ?_
 ·repeat' (first|(simp(disch:=(first|omega|rfl|exact rfl|(simp only[aq,length_cons,length_nil];done)|exact aa.width _)) only[aa.cells,aa.isAgg,aa.storable,aa.eta,length_map,aK,aS,au,dJ,WA,reduceEqDiff,reduceAdd,reduceLT,reduceLeDiff,reduceMul,reduceIte,reduceCtorEq,Int.reduceEq,Int.reduceLT,Int.reduceLE,Int.reduceNe])|(refine aE (λ hq=> ?_) (λ hq=> ?_)<;>(try simp only[hq,decide_true,decide_false,Bool.not_true,Bool.not_false,not_eq_true',not_eq_false']))|(refine a8 (λ hq=> ?_) (λ hq=> ?_)<;>(try simp only[hq,decide_true,decide_false,Bool.not_true,Bool.not_false,not_eq_true',not_eq_false']))|(refine aD (λ hq=> ?_) (λ hq=> ?_)<;>(try simp only[hq,decide_true,decide_false,Bool.not_true,Bool.not_false,not_eq_true',not_eq_false']))|(refine aB ?_))
  all_goals simp[*]
 ·simp only[aa.cells,WA,reduceEqDiff,reduceAdd,reduceLT,reduceLeDiff,reduceMul,reduceIte,reduceCtorEq,Int.reduceEq,Int.reduceLT,Int.reduceLE,Int.reduceNe];refine aD (λ h=> ?_) (λ h=> ?_)
  ·simp only[and_eq_true,decide_eq_true_eq]at h;have hv:=x.ahk mr (by omega);have aF:x.N.toNat<l.length:=by omega
   have hN:x.N=((x.N.toNat:Nat):Int):=by omega
   rw[if_pos h,List.getElem?_eq_getElem aF,Option.getD_some]at hpe;rw[hpe];have o8:l[x.N.toNat]∈l:=List.getElem_mem aF;have hws:=ca aa.wt o8;simp only[aa.cells,WA,reduceEqDiff,reduceAdd,reduceLT,reduceLeDiff,reduceMul,reduceIte,reduceCtorEq,Int.reduceEq,Int.reduceLT,Int.reduceLE,Int.reduceNe];have fw:∀K,e7 K (aa.av l[x.N.toNat])->kK 4 (.sl (l.map aa.av)) (.v (.int .i64 ((x.N.toNat:Nat):Int))) K:=λ K hk=>nP aa.av aF (aa.width _) hk
   rw[←hN]at fw;refine fw _ ?_;simp only[aa.width,aa.isAgg,aa.storable,WA,reduceEqDiff,reduceAdd,reduceLT,reduceLeDiff,reduceMul,reduceIte,reduceCtorEq,Int.reduceEq,Int.reduceLT,Int.reduceLE,Int.reduceNe];refine mi (qH _ (by omega)) (aa.ag _) ?_;simp only[aa.width,aa.isAgg,aa.storable,aa.cells,WA,reduceEqDiff,reduceAdd,reduceLT,reduceLeDiff,reduceMul,reduceIte,reduceCtorEq,Int.reduceEq,Int.reduceLT,Int.reduceLE,Int.reduceNe];exact aa.eta _
  ·have h':¬(x.Kind=kd/\x.N<(l.length:Int)):=by
     intro hc;simp[hc.1,hc.2]at h
   rw[if_neg h']at hpe;rw[hpe];simp only[aa.width,aa.isAgg,aa.storable,aa.cells,WA,reduceEqDiff,reduceAdd,reduceLT,reduceLeDiff,reduceMul,reduceIte,reduceCtorEq,Int.reduceEq,Int.reduceLT,Int.reduceLE,Int.reduceNe];refine cC [.sl ((x.Kids.map λ y=>y.put kd l).map aa.av)] rfl ?_ ?_
   ·repeat' (first|(simp(disch:=(first|omega|rfl|exact rfl|(simp only[aq,length_cons,length_nil];done)|exact aa.width _)) only[fw,tZ,hd,ub,aa.cells,aa.isAgg,aa.storable,aa.eta,length_map,aK,aS,au,dJ,WA,reduceEqDiff,reduceAdd,reduceLT,reduceLeDiff,reduceMul,reduceIte,reduceCtorEq,Int.reduceEq,Int.reduceLT,Int.reduceLE,Int.reduceNe])|(simp(disch:=(first|omega|rfl|exact rfl|(simp only[aq,length_cons,length_nil];done)|exact aa.width _)) only[fw,hd,aa.cells,aa.isAgg,aa.storable,aa.eta,length_map,aK,aS,au,dJ,WA,reduceEqDiff,reduceAdd,reduceLT,reduceLeDiff,reduceMul,reduceIte,reduceCtorEq,Int.reduceEq,Int.reduceLT,Int.reduceLE,Int.reduceNe])|(simp(disch:=(first|omega|rfl|exact rfl|(simp only[aq,length_cons,length_nil];done)|exact aa.width _)) only[hd,ub,aa.cells,aa.isAgg,aa.storable,aa.eta,length_map,aK,aS,au,dJ,WA,reduceEqDiff,reduceAdd,reduceLT,reduceLeDiff,reduceMul,reduceIte,reduceCtorEq,Int.reduceEq,Int.reduceLT,Int.reduceLE,Int.reduceNe])|(simp(disch:=(first|omega|rfl|exact rfl|(simp only[aq,length_cons,length_nil];done)|exact aa.width _)) only[hix,hd,aa.cells,aa.isAgg,aa.storable,aa.eta,length_map,aK,aS,au,dJ,WA,reduceEqDiff,reduceAdd,reduceLT,reduceLeDiff,reduceMul,reduceIte,reduceCtorEq,Int.reduceEq,Int.reduceLT,Int.reduceLE,Int.reduceNe])|(simp(disch:=(first|omega|rfl|exact rfl|(simp only[aq,length_cons,length_nil];done)|exact aa.width _)) only[hd,aa.cells,aa.isAgg,aa.storable,aa.eta,length_map,aK,aS,au,dJ,WA,reduceEqDiff,reduceAdd,reduceLT,reduceLeDiff,reduceMul,reduceIte,reduceCtorEq,Int.reduceEq,Int.reduceLT,Int.reduceLE,Int.reduceNe])|(simp(disch:=(first|omega|rfl|exact rfl|(simp only[aq,length_cons,length_nil];done)|exact aa.width _)) only[aa.cells,aa.isAgg,aa.storable,aa.eta,length_map,aK,aS,au,dJ,WA,reduceEqDiff,reduceAdd,reduceLT,reduceLeDiff,reduceMul,reduceIte,reduceCtorEq,Int.reduceEq,Int.reduceLT,Int.reduceLE,Int.reduceNe])|(refine aE (λ hq=> ?_) (λ hq=> ?_)<;>(try simp only[hq,decide_true,decide_false,Bool.not_true,Bool.not_false,not_eq_true',not_eq_false']))|(refine a8 (λ hq=> ?_) (λ hq=> ?_)<;>(try simp only[hq,decide_true,decide_false,Bool.not_true,Bool.not_false,not_eq_true',not_eq_false']))|(refine aD (λ hq=> ?_) (λ hq=> ?_)<;>(try simp only[hq,decide_true,decide_false,Bool.not_true,Bool.not_false,not_eq_true',not_eq_false']))|(refine aB ?_)|(refine eK x.Kids (λ i (q:List aa)=>[.sl (q.map aa.av),aA i]) (λ i rest q=>q++rest.map (λ y=>y.put kd l)=x.Kids.map λ y=>y.put kd l) ([]:List aa) rfl ?_ (λ i k rest b hi hx hm fw hd hg=> ?_) (λ b hd hg=> ?_))|(refine mi (sj k kd l (aa.wg mr hm) hkd (by have:=ca aa.wt hm;omega) hl) (aa.ag _) ?_))
    ·have nL:=congrArg List.length hg;simp at nL;refine⟨λ y hy=>by rw[hy];exact aa.width _,by omega,by omega,hi,b++ [k.put kd l],by rw[←hg];simp,?_⟩;rw[List.map_append];rfl
    ·have nL:b=x.Kids.map λ y=>y.put kd l:=by simpa using hg
     rw[nL]
   ·simp only[aa.cells,aq,nI,WA,reduceEqDiff,reduceAdd,reduceLT,reduceLeDiff,reduceMul,reduceIte,reduceCtorEq,Int.reduceEq,Int.reduceLT,Int.reduceLE,Int.reduceNe];exact aa.eta (.mk x.Kind x.N x.Name (x.Kids.map λ y=>y.put kd l))
termination_by SizeOf.sizeOf x
decreasing_by all_goals exact aa.cP hm
end Go.Proofs.Ab
