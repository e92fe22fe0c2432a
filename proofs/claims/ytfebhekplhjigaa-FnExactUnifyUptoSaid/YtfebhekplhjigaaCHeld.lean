/-
  Marks that are held.
-/
import Derived.Test.YtfebhekplhjigaaOwnK
import Derived.Test.YtfebhekplhjigaaGM
open Bool(not_eq_true' not_eq_false')
open List(length_cons length_nil length_map)
open Nat(reduceEqDiff reduceLeDiff reduceAdd reduceLT reduceMul)
set_option linter.unusedVariables false
set_option linter.unusedSimpArgs false
namespace Go.Proofs.Ab
open Go.Ab
set_option maxRecDepth 100000
set_option maxHeartbeats 4000000
set_option maxHeartbeats 4000000
theorem adY(l:List ad)(k:Nat)(hb:l.length+(l.map ad.wt).sum<=1152921504606846976)(h:k+AV.dS (l.map ad.av)<=4611686018427387904):
  a7 Try.prog F.eb [.sl ((ad.eH l k).map ad.av),.v (.int .i64 (k:Int))] (.v (.int .i64 ((k+AV.dS (l.map ad.av):Nat):Int))):=by
 have hln:=ad.qh l k;generalize hK:k+AV.dS (l.map ad.av)=K at*;refine T.xN rfl (by simp only[AV.ae,AV.ag,Bool.and_true];exact bt (f:=ad.av) ad.ag) ?_;simp only[T.eb,WA,reduceEqDiff,reduceAdd,reduceLT,reduceLeDiff,reduceMul,reduceIte,reduceCtorEq,Int.reduceEq,Int.reduceLT,Int.reduceLE,Int.reduceNe];refine aN ?_;simp only[WA,reduceEqDiff,reduceAdd,reduceLT,reduceLeDiff,reduceMul,reduceIte,reduceCtorEq,Int.reduceEq,Int.reduceLT,Int.reduceLE,Int.reduceNe];refine eQ (ad.eH l k) (λ i (q:Nat×List ad)=>[.v (.int .i64 (q.1:Int)),aO i]) (λ i rest q=>rest=ad.eH q.2 q.1/\q.1+AV.dS (q.2.map ad.av)=K/\∀y∈q.2,y∈l) (k,l) rfl ⟨rfl,hK,λ _ h=>h⟩ (λ i y rest b hi hx hm ji hd hg=> ?_) (λ b hd hg=> ?_)
 ·obtain⟨j,m⟩:=b;obtain⟨g1,g2,g3⟩:=hg;simp only at g1 g2 g3;cases m with
  |nil=>simp[ad.eH]at g1
  |cons x r=>
  simp only[ad.eH,List.cons.injEq]at g1;obtain⟨rfl,rfl⟩:=g1;have hxl:=g3 x (by simp);have rh:=de ad.wt hxl;have hlp:=List.length_pos_of_mem hxl;have hxw:=x.gR;have hxc:=x.acb;simp only[List.map_cons,AV.dS,hxc]at g2
  have c0:(x.mark j).av.cells= [.v (.int .i64 ((j:Nat):Int)),.v (.int .i64 ((j+1:Nat):Int)),.v (.string (aa4 (j+1+1))),.sl ((ad.eH x.Kids (j+1+1+1)).map ad.av)]:=by
   rw[ad.cells,ad.adK,ad.aoc,ad.adJ,ad.adL]
  have aBo:=adY x.Kids (j+1+1+1) (by omega) (by omega)
  repeat' (first|(simp(disch:=(first|omega|rfl|exact rfl|(simp only[aF,length_cons,length_nil];done)|exact ad.width _)) only[ji,hd,ad.cells,ad.isAgg,ad.storable,ad.eta,c0,length_map,br,bF,aG,dv,WA,reduceEqDiff,reduceAdd,reduceLT,reduceLeDiff,reduceMul,reduceIte,reduceCtorEq,Int.reduceEq,Int.reduceLT,Int.reduceLE,Int.reduceNe])|(simp(disch:=(first|omega|rfl|exact rfl|(simp only[aF,length_cons,length_nil];done)|exact ad.width _)) only[hd,ad.cells,ad.isAgg,ad.storable,ad.eta,c0,length_map,br,bF,aG,dv,WA,reduceEqDiff,reduceAdd,reduceLT,reduceLeDiff,reduceMul,reduceIte,reduceCtorEq,Int.reduceEq,Int.reduceLT,Int.reduceLE,Int.reduceNe])|(simp(disch:=(first|omega|rfl|exact rfl|(simp only[aF,length_cons,length_nil];done)|exact ad.width _)) only[ad.cells,ad.isAgg,ad.storable,ad.eta,c0,length_map,br,bF,aG,dv,WA,reduceEqDiff,reduceAdd,reduceLT,reduceLeDiff,reduceMul,reduceIte,reduceCtorEq,Int.reduceEq,Int.reduceLT,Int.reduceLE,Int.reduceNe])|(refine ba (λ hq=> ?_) (λ hq=> ?_)<;>(try simp only[hq,decide_true,decide_false,Bool.not_true,Bool.not_false,not_eq_true',not_eq_false']))|(refine bC (λ hq=> ?_) (λ hq=> ?_)<;>(try simp only[hq,decide_true,decide_false,Bool.not_true,Bool.not_false,not_eq_true',not_eq_false']))|(refine aS (λ hq=> ?_) (λ hq=> ?_)<;>(try simp only[hq,decide_true,decide_false,Bool.not_true,Bool.not_false,not_eq_true',not_eq_false']))|(refine aN ?_)|(refine bo (vA _ (by omega)) ?_)|(refine bo aBo ?_))
  have e:j+1+1+1+AV.dS (x.Kids.map ad.av)=j+x.av.cnt:=by omega
  refine⟨hi,(j+x.av.cnt,r),⟨rfl,by show j+x.av.cnt+AV.dS (r.map ad.av)=K;omega,λ z hz=>g3 z (by simp[hz])⟩,?_⟩;rw[e]
 ·obtain⟨j,m⟩:=b;obtain⟨g1,g2,g3⟩:=hg;simp only at g1 g2 g3;cases m with
  |cons x r=>simp[ad.eH]at g1
  |nil=>
  simp only[List.map_nil,AV.dS,Nat.add_zero]at g2;subst g2
  repeat' (first|(simp(disch:=(first|omega|rfl|exact rfl|(simp only[aF,length_cons,length_nil];done)|exact ad.width _)) only[ji,hd,ad.cells,ad.isAgg,ad.storable,ad.eta,length_map,br,bF,aG,dv,WA,reduceEqDiff,reduceAdd,reduceLT,reduceLeDiff,reduceMul,reduceIte,reduceCtorEq,Int.reduceEq,Int.reduceLT,Int.reduceLE,Int.reduceNe])|(simp(disch:=(first|omega|rfl|exact rfl|(simp only[aF,length_cons,length_nil];done)|exact ad.width _)) only[hd,ad.cells,ad.isAgg,ad.storable,ad.eta,length_map,br,bF,aG,dv,WA,reduceEqDiff,reduceAdd,reduceLT,reduceLeDiff,reduceMul,reduceIte,reduceCtorEq,Int.reduceEq,Int.reduceLT,Int.reduceLE,Int.reduceNe])|(simp(disch:=(first|omega|rfl|exact rfl|(simp only[aF,length_cons,length_nil];done)|exact ad.width _)) only[ad.cells,ad.isAgg,ad.storable,ad.eta,length_map,br,bF,aG,dv,WA,reduceEqDiff,reduceAdd,reduceLT,reduceLeDiff,reduceMul,reduceIte,reduceCtorEq,Int.reduceEq,Int.reduceLT,Int.reduceLE,Int.reduceNe])|(refine ba (λ hq=> ?_) (λ hq=> ?_)<;>(try simp only[hq,decide_true,decide_false,Bool.not_true,Bool.not_false,not_eq_true',not_eq_false']))|(refine bC (λ hq=> ?_) (λ hq=> ?_)<;>(try simp only[hq,decide_true,decide_false,Bool.not_true,Bool.not_false,not_eq_true',not_eq_false']))|(refine aS (λ hq=> ?_) (λ hq=> ?_)<;>(try simp only[hq,decide_true,decide_false,Bool.not_true,Bool.not_false,not_eq_true',not_eq_false']))|(refine aN ?_))
termination_by l.length+(l.map ad.wt).sum
decreasing_by all_goals omega
end Go.Proofs.Ab
