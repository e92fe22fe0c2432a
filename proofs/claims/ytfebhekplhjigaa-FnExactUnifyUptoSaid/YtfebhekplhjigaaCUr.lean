/-
  Unify of the reference: what may be asked.
-/
import Derived.Test.YtfebhekplhjigaaPUni4
import Derived.Test.YtfebhekplhjigaaCSiz
import Derived.Test.YtfebhekplhjigaaCFree
import Derived.Test.YtfebhekplhjigaaCSmall
open Bool(not_eq_true' not_eq_false')
open List(length_cons length_nil length_map all_cons)
open Nat(reduceEqDiff reduceLeDiff reduceAdd reduceLT reduceMul)
set_option linter.unusedVariables false
set_option linter.unusedSimpArgs false
namespace Go.Proofs.Ab
open Go.Ab
set_option maxRecDepth 100000
set_option maxHeartbeats 4000000
set_option maxHeartbeats 4000000
theorem aeF(x:ad)(hk:x.mO=true)(hb:x.wt<=1048576):xh Try.prog F.jT [x.av,aO 11] false 3 1 ((a6 [] (x.cV 11)).map aO):=by
 have:=ago x 11 hb;rw[hk]at this;exact this
theorem tC(m:Int)(k:ad):fQ m k=(k.mO&&decide (k.dP<=200)&&(a6 [] (k.cV 11)).all λ n=>decide (n<m)):=by
 unfold fQ;congr 1;rw[Bool.eq_iff_iff];simp[rP]
theorem sC(l:List ad)(m:Int)(hb:(l.map ad.wt).sum+l.length<=1048576):a7 Try.prog F.eU [.sl (l.map ad.av),aO m] (.v (.bool (l.all (fQ m)))):=by
 refine T.xp rfl (by simp only[AV.ae,AV.ag,Bool.and_true];exact bt ad.ag) ?_;simp only[T.eU,ad.cells,ad.isAgg,ad.storable,WA,reduceEqDiff,reduceAdd,reduceLT,reduceLeDiff,reduceMul,reduceIte,reduceCtorEq,Int.reduceEq,Int.reduceLT,Int.reduceLE,Int.reduceNe]
 repeat' (first|(simp(disch:=(first|omega|rfl|exact rfl|(simp only[aF,length_cons,length_nil];done)|exact ad.width _)) only[avj,hd2,ji,hd,ad.cells,ad.isAgg,ad.storable,ad.eta,length_map,br,bF,aG,dv,WA,reduceEqDiff,reduceAdd,reduceLT,reduceLeDiff,reduceMul,reduceIte,reduceCtorEq,Int.reduceEq,Int.reduceLT,Int.reduceLE,Int.reduceNe])|(simp(disch:=(first|omega|rfl|exact rfl|(simp only[aF,length_cons,length_nil];done)|exact ad.width _)) only[au9,hd2,ji,hd,ad.cells,ad.isAgg,ad.storable,ad.eta,length_map,br,bF,aG,dv,WA,reduceEqDiff,reduceAdd,reduceLT,reduceLeDiff,reduceMul,reduceIte,reduceCtorEq,Int.reduceEq,Int.reduceLT,Int.reduceLE,Int.reduceNe])|(simp(disch:=(first|omega|rfl|exact rfl|(simp only[aF,length_cons,length_nil];done)|exact ad.width _)) only[au9,hd2,ad.cells,ad.isAgg,ad.storable,ad.eta,length_map,br,bF,aG,dv,WA,reduceEqDiff,reduceAdd,reduceLT,reduceLeDiff,reduceMul,reduceIte,reduceCtorEq,Int.reduceEq,Int.reduceLT,Int.reduceLE,Int.reduceNe])|(simp(disch:=(first|omega|rfl|exact rfl|(simp only[aF,length_cons,length_nil];done)|exact ad.width _)) only[hd2,ji,hd,ad.cells,ad.isAgg,ad.storable,ad.eta,length_map,br,bF,aG,dv,WA,reduceEqDiff,reduceAdd,reduceLT,reduceLeDiff,reduceMul,reduceIte,reduceCtorEq,Int.reduceEq,Int.reduceLT,Int.reduceLE,Int.reduceNe])|(simp(disch:=(first|omega|rfl|exact rfl|(simp only[aF,length_cons,length_nil];done)|exact ad.width _)) only[hd2,ad.cells,ad.isAgg,ad.storable,ad.eta,length_map,br,bF,aG,dv,WA,reduceEqDiff,reduceAdd,reduceLT,reduceLeDiff,reduceMul,reduceIte,reduceCtorEq,Int.reduceEq,Int.reduceLT,Int.reduceLE,Int.reduceNe])|(simp(disch:=(first|omega|rfl|exact rfl|(simp only[aF,length_cons,length_nil];done)|exact ad.width _)) only[ji,arW,hd,hdy,ad.cells,ad.isAgg,ad.storable,ad.eta,length_map,br,bF,aG,dv,WA,reduceEqDiff,reduceAdd,reduceLT,reduceLeDiff,reduceMul,reduceIte,reduceCtorEq,Int.reduceEq,Int.reduceLT,Int.reduceLE,Int.reduceNe])|(simp(disch:=(first|omega|rfl|exact rfl|(simp only[aF,length_cons,length_nil];done)|exact ad.width _)) only[ji,hd,ad.cells,ad.isAgg,ad.storable,ad.eta,length_map,br,bF,aG,dv,WA,reduceEqDiff,reduceAdd,reduceLT,reduceLeDiff,reduceMul,reduceIte,reduceCtorEq,Int.reduceEq,Int.reduceLT,Int.reduceLE,Int.reduceNe])|(simp(disch:=(first|omega|rfl|exact rfl|(simp only[aF,length_cons,length_nil];done)|exact ad.width _)) only[hd,hdy,ad.cells,ad.isAgg,ad.storable,ad.eta,length_map,br,bF,aG,dv,WA,reduceEqDiff,reduceAdd,reduceLT,reduceLeDiff,reduceMul,reduceIte,reduceCtorEq,Int.reduceEq,Int.reduceLT,Int.reduceLE,Int.reduceNe])|(simp(disch:=(first|omega|rfl|exact rfl|(simp only[aF,length_cons,length_nil];done)|exact ad.width _)) only[hix,hd,ad.cells,ad.isAgg,ad.storable,ad.eta,length_map,br,bF,aG,dv,WA,reduceEqDiff,reduceAdd,reduceLT,reduceLeDiff,reduceMul,reduceIte,reduceCtorEq,Int.reduceEq,Int.reduceLT,Int.reduceLE,Int.reduceNe])|(simp(disch:=(first|omega|rfl|exact rfl|(simp only[aF,length_cons,length_nil];done)|exact ad.width _)) only[hd,ad.cells,ad.isAgg,ad.storable,ad.eta,length_map,br,bF,aG,dv,WA,reduceEqDiff,reduceAdd,reduceLT,reduceLeDiff,reduceMul,reduceIte,reduceCtorEq,Int.reduceEq,Int.reduceLT,Int.reduceLE,Int.reduceNe])|(simp(disch:=(first|omega|rfl|exact rfl|(simp only[aF,length_cons,length_nil];done)|exact ad.width _)) only[ad.cells,ad.isAgg,ad.storable,ad.eta,length_map,br,bF,aG,dv,WA,reduceEqDiff,reduceAdd,reduceLT,reduceLeDiff,reduceMul,reduceIte,reduceCtorEq,Int.reduceEq,Int.reduceLT,Int.reduceLE,Int.reduceNe])|(refine ba (λ hq=> ?_) (λ hq=> ?_)<;>(try simp only[hq,decide_true,decide_false,Bool.not_true,Bool.not_false,not_eq_true',not_eq_false']))|(refine bC (λ hq=> ?_) (λ hq=> ?_)<;>(try simp only[hq,decide_true,decide_false,Bool.not_true,Bool.not_false,not_eq_true',not_eq_false']))|(refine aS (λ hq=> ?_) (λ hq=> ?_)<;>(try simp only[hq,decide_true,decide_false,Bool.not_true,Bool.not_false,not_eq_true',not_eq_false']))|(refine aN ?_)|(refine eQ (a6 [] (k.cV 11)) (λ i (_:Unit)=>[aO i]) (λ _ aj2 _=>((a6 [] (k.cV 11)).all λ n=>decide (n<m))=aj2.all λ n=>decide (n<m)) () rfl ?_ (λ i2 k2 aj2 b2 hi2 hx2 hm2 avj hd2 hg2=> ?_) (λ b2 hd2 hg2=> ?_))|(refine eQ l (λ i (_:Unit)=>[aO i]) (λ _ rest _=>l.all (fQ m)=rest.all (fQ m)) () rfl ?_ (λ i k rest b hi hx hm ji hd hg=> ?_) (λ b hd hg=> ?_))|(refine bo (uJ k (by have:=de ad.wt hm;omega)) ?_)|(refine bo (sJ k (by have:=de ad.wt hm;omega)) ?_)|(refine afC (aeF k (by first|assumption|simpa using hq) (by have:=de ad.wt hm;omega)) (aiN _) ?_))
 ·rw[hg,all_cons,tC,decide_eq_false (show¬k.dP<=200 by omega),Bool.and_false,Bool.false_and,Bool.false_and]
 ·have hk:k.mO=false:=by simpa using hq
  rw[hg,all_cons,tC,hk,Bool.false_and,Bool.false_and,Bool.false_and]
 ·have h1:=jQ (k.cV 11) [];have h2:=k.nz 11;have h3:=de ad.wt hm;simp only[length_nil]at h1;refine⟨by omega,hi2,by rw[ar4 hx2];exact Nat.le_refl _,?_⟩;rw[ar4 hx2]
  repeat' (first|(simp(disch:=(first|omega|rfl|exact rfl|(simp only[aF,length_cons,length_nil];done))) only[length_map,aF,List.getD_cons_zero,br,bF,aG,dv,WA,reduceEqDiff,reduceAdd,reduceLT,reduceLeDiff,reduceMul,reduceIte,reduceCtorEq,Int.reduceEq,Int.reduceLT,Int.reduceLE,Int.reduceNe])|(refine ba (λ hq=> ?_) (λ hq=> ?_)<;>(try simp only[hq,decide_true,decide_false,Bool.not_true,Bool.not_false,not_eq_true',not_eq_false']))|(refine bC (λ hq=> ?_) (λ hq=> ?_)<;>(try simp only[hq,decide_true,decide_false,Bool.not_true,Bool.not_false,not_eq_true',not_eq_false']))|(refine aS (λ hq=> ?_) (λ hq=> ?_)<;>(try simp only[hq,decide_true,decide_false,Bool.not_true,Bool.not_false,not_eq_true',not_eq_false']))|(refine aN ?_))
  ·have e:((a6 [] (k.cV 11)).all λ n=>decide (n<m))=false:=by
     rw[hg2,all_cons,decide_eq_false (by omega),Bool.false_and]
   rw[hg,all_cons,tC,e,Bool.and_false,Bool.false_and]
  ·refine⟨hi2,(),?_⟩;rw[hg2,all_cons,decide_eq_true (by omega),Bool.true_and]
 ·refine⟨hi,(),?_⟩;have hk:k.mO=true:=by simpa using hq
  have e:((a6 [] (k.cV 11)).all λ n=>decide (n<m))=true:=by rw[hg2];rfl
  rw[hg,all_cons,tC,hk,e,decide_eq_true (by omega)]
  rfl
 ·rw[hg];rfl
end Go.Proofs.Ab
