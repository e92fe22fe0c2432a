/-
  Unify of the reference: what may be asked.
-/
import Derived.Test.YtfebhekplhjigaaPUni4
import Derived.Test.YtfebhekplhjigaaCSiz
import Derived.Test.YtfebhekplhjigaaCFree
import Derived.Test.YtfebhekplhjigaaCSmall
open List(length_cons length_nil length_map all_cons)
open Nat(reduceEqDiff reduceLeDiff reduceAdd reduceLT reduceMul)
set_option linter.unusedSimpArgs false
set_option linter.unusedVariables false
namespace Go.Proofs.Ab
open Go.Ab
set_option maxRecDepth 100000
set_option maxHeartbeats 4000000
set_option maxHeartbeats 4000000
theorem acY(x:aa)(hk:x.jn=true)(hb:x.wt<=1048576):uq Try.prog F.jB [x.av,au 11] false 3 1 ((bc [] (x.dn 11)).map au):=by
 have:=aeH x 11 hb;rw[hk]at this;exact this
theorem qP(m:Int)(k:aa):fH m k=(k.jn&&decide (k.dw<=200)&&(bc [] (k.dn 11)).all λ n=>decide (n<m)):=by
 unfold fH;congr 1;rw[Bool.eq_iff_iff];simp[pr]
theorem p8(l:List aa)(m:Int)(hb:(l.map aa.wt).sum+l.length<=1048576):a7 Try.prog F.fb [.sl (l.map aa.av),au m] (.v (.bool (l.all (fH m)))):=by
 refine T.uA rfl (by simp only[AV.ae,AV.ag,Bool.and_true];exact bA aa.ag) ?_;simp only[T.fb,WA]
 repeat' (first|(simp(disch:=(first|omega|rfl|exact rfl|(simp only[an,length_cons,length_nil];done)|exact aa.width _)) only[hd2,length_map,WA])|(simp(disch:=(first|omega|rfl|exact rfl|(simp only[an,length_cons,length_nil];done)|exact aa.width _)) only[avh,hd2,fu,hd,aa.cells,aa.isAgg,aa.storable,aa.eta,length_map,bW,bR,aH,fZ,WA,reduceEqDiff,reduceAdd,reduceLT,reduceLeDiff,reduceMul,reduceIte,reduceCtorEq,Int.reduceEq,Int.reduceLT,Int.reduceLE,Int.reduceNe])|(simp(disch:=(first|omega|rfl|exact rfl|(simp only[an,length_cons,length_nil];done)|exact aa.width _)) only[avh,hd2,aa.cells,aa.isAgg,aa.storable,aa.eta,length_map,bW,bR,aH,fZ,WA,reduceEqDiff,reduceAdd,reduceLT,reduceLeDiff,reduceMul,reduceIte,reduceCtorEq,Int.reduceEq,Int.reduceLT,Int.reduceLE,Int.reduceNe])|(simp(disch:=(first|omega|rfl|exact rfl|(simp only[an,length_cons,length_nil];done)|exact aa.width _)) only[hd2,length_map,WA])|(simp(disch:=(first|omega|rfl|exact rfl|(simp only[an,length_cons,length_nil];done)|exact aa.width _)) only[hd2,aa.cells,aa.isAgg,aa.storable,aa.eta,length_map,bW,bR,aH,fZ,WA,reduceEqDiff,reduceAdd,reduceLT,reduceLeDiff,reduceMul,reduceIte,reduceCtorEq,Int.reduceEq,Int.reduceLT,Int.reduceLE,Int.reduceNe])|(simp(disch:=(first|omega|rfl|exact rfl|(simp only[an,length_cons,length_nil];done)|exact aa.width _)) only[fu,tW,hd,vn,aa.cells,aa.isAgg,aa.storable,aa.eta,length_map,bW,bR,aH,fZ,WA,reduceEqDiff,reduceAdd,reduceLT,reduceLeDiff,reduceMul,reduceIte,reduceCtorEq,Int.reduceEq,Int.reduceLT,Int.reduceLE,Int.reduceNe])|(simp(disch:=(first|omega|rfl|exact rfl|(simp only[an,length_cons,length_nil];done)|exact aa.width _)) only[fu,hd,aa.cells,aa.isAgg,aa.storable,length_map,aH,WA,reduceAdd])|(simp(disch:=(first|omega|rfl|exact rfl|(simp only[an,length_cons,length_nil];done)|exact aa.width _)) only[hd,vn,aa.cells,aa.isAgg,aa.storable,aa.eta,length_map,bW,bR,aH,fZ,WA,reduceEqDiff,reduceAdd,reduceLT,reduceLeDiff,reduceMul,reduceIte,reduceCtorEq,Int.reduceEq,Int.reduceLT,Int.reduceLE,Int.reduceNe])|(simp(disch:=(first|omega|rfl|exact rfl|(simp only[an,length_cons,length_nil];done)|exact aa.width _)) only[hix,hd,aa.cells,aa.isAgg,aa.storable,aa.eta,length_map,bW,bR,aH,fZ,WA,reduceEqDiff,reduceAdd,reduceLT,reduceLeDiff,reduceMul,reduceIte,reduceCtorEq,Int.reduceEq,Int.reduceLT,Int.reduceLE,Int.reduceNe])|(simp(disch:=(first|omega|rfl|exact rfl|(simp only[an,length_cons,length_nil];done)|exact aa.width _)) only[hd,length_map,WA])|(simp(disch:=(first|omega|rfl|exact rfl|(simp only[an,length_cons,length_nil];done)|exact aa.width _)) only[WA])|(refine aG (λ hq=> ?_) (λ hq=> ?_)<;>(try simp only[hq,decide_true,decide_false]))|(refine aZ (λ hq=> ?_) (λ hq=> ?_)<;>(try simp only[hq,decide_true,decide_false,Bool.not_true,Bool.not_false,Bool.not_eq_true',Bool.not_eq_false']))|(refine aE (λ hq=> ?_) (λ hq=> ?_)<;>(try simp only[hq]))|(refine aB ?_)|(refine dD (bc [] (k.dn 11)) (λ i (_:Unit)=>[au i]) (λ _ ai2 _=>((bc [] (k.dn 11)).all λ n=>decide (n<m))=ai2.all λ n=>decide (n<m)) () rfl ?_ (λ i2 k2 ai2 b2 hi2 hx2 hm2 aCg hd2 hg2=> ?_) (λ b2 hd2 hg2=> ?_))|(refine dD l (λ i (_:Unit)=>[au i]) (λ _ rest _=>l.all (fH m)=rest.all (fH m)) () rfl ?_ (λ i k rest b hi hx hm fu hd hg=> ?_) (λ b hd hg=> ?_))|(refine bu (rN k (by have:=cY aa.wt hm;omega)) ?_)|(refine bu (qd k (by have:=cY aa.wt hm;omega)) ?_)|(refine adY (acY k (by first|assumption|simpa using hq) (by have:=cY aa.wt hm;omega)) (ahC _) ?_))
 ·rw[hg,all_cons,qP,decide_eq_false (show¬k.dw<=200 by omega),Bool.and_false,Bool.false_and,Bool.false_and]
 ·have hk:k.jn=false:=by simpa using hq
  rw[hg,all_cons,qP,hk,Bool.false_and,Bool.false_and,Bool.false_and]
 ·have h1:=jz (k.dn 11) [];have h2:=k.mw 11;have h3:=cY aa.wt hm;simp only[length_nil]at h1;refine⟨by omega,hi2,by rw[arS hx2];exact Nat.le_refl _,?_⟩;rw[arS hx2]
  repeat' (first|(simp(disch:=(first|omega|rfl|exact rfl|(simp only[an,length_cons,length_nil];done))) only[an,List.getD_cons_zero,aH,WA])|(refine aG (λ hq=> ?_) (λ hq=> ?_)<;>(try simp only[hq,decide_true,decide_false]))|(refine aZ (λ hq=> ?_) (λ hq=> ?_)<;>(try simp only[hq,decide_true,decide_false,Bool.not_true,Bool.not_false,Bool.not_eq_true',Bool.not_eq_false']))|(refine aE (λ hq=> ?_) (λ hq=> ?_)<;>(try simp only[hq,decide_true,decide_false,Bool.not_true,Bool.not_false,Bool.not_eq_true',Bool.not_eq_false']))|(refine aB ?_))
  ·have e:((bc [] (k.dn 11)).all λ n=>decide (n<m))=false:=by
     rw[hg2,all_cons,decide_eq_false (by omega),Bool.false_and]
   rw[hg,all_cons,qP,e,Bool.and_false,Bool.false_and]
  ·refine⟨hi2,(),?_⟩;rw[hg2,all_cons,decide_eq_true (by omega),Bool.true_and]
 ·refine⟨hi,(),?_⟩;have hk:k.jn=true:=by simpa using hq
  have e:((bc [] (k.dn 11)).all λ n=>decide (n<m))=true:=by rw[hg2];rfl
  rw[hg,all_cons,qP,hk,e,decide_eq_true (by omega)]
  rfl
 ·rw[hg];rfl
end Go.Proofs.Ab
