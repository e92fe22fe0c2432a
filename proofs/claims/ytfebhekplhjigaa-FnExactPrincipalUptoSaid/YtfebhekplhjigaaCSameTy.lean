/-
  TYPES THAT ARE THE SAME.
-/
import Derived.Test.YtfebhekplhjigaaSL
set_option linter.unusedVariables false
set_option linter.unusedSimpArgs false
set_option linter.defProp false
namespace Go.Ab
set_option maxRecDepth 100000
set_option maxHeartbeats 4000000
mutual
def VTy.same : VTy → VTy → Bool
  | .mk k n m kids, y => decide (k = y.Kind) && decide (n = y.N) && decide (m = y.Name) && VTy.sames kids y.Kids
def VTy.sames : List VTy → List VTy → Bool
  | [], [] => true
  | x :: l, y :: m => x.same y && VTy.sames l m
  | _, _ => false
end
theorem VTy.sames_eq : ∀ (l m : List VTy), VTy.sames l m = all2 VTy.same l m
  | [], [] => by simp [VTy.sames, all2]
  | [], _ :: _ => by simp [VTy.sames, all2]
  | _ :: _, [] => by simp [VTy.sames, all2]
  | x :: l, y :: m => by simp [VTy.sames, all2, VTy.sames_eq l m]
theorem VTy.same_eq (x y : VTy) : x.same y = (decide (x.Kind = y.Kind) && decide (x.N = y.N) && decide (x.Name = y.Name) && all2 VTy.same x.Kids y.Kids) := by
  cases x; rw [VTy.same, VTy.sames_eq]; rfl
end Go.Ab
namespace Go.Proofs.Ab
open Go.Ab
set_option maxRecDepth 100000
set_option maxHeartbeats 4000000
theorem spec_SameTy_c (x y : VTy) (hb : x.wt ≤ 1048576) : PCon Try.prog F.spec_SameTy [x.av, y.av] (.v (.bool (x.same y))) := by
  have hw := x.wt_eq
  have hv := x.same_eq y
  refine T.spec_SameTy_con rfl (by simp [AV.norefs, AV.noref, VTy.noref]) ?_
  simp only [T.spec_SameTy, VTy.cells, VTy.isAgg, VTy.storable, WA, Nat.reduceEqDiff, Nat.reduceAdd, Nat.reduceLT, Nat.reduceLeDiff, Nat.reduceMul, reduceIte, reduceCtorEq, Int.reduceEq, Int.reduceLT, Int.reduceLE, Int.reduceNe]
  repeat' (first | (simp (disch := (first | omega | rfl | exact rfl | (simp only [cells_v, List.length_cons, List.length_nil]; done) | exact VTy.width _)) only [hel, hely, hd, hdy, VTy.cells, VTy.isAgg, VTy.storable, VTy.eta, wrapS, wrapA, wrapA1, lt0, WA, Nat.reduceEqDiff, Nat.reduceAdd, Nat.reduceLT, Nat.reduceLeDiff, Nat.reduceMul, reduceIte, reduceCtorEq, Int.reduceEq, Int.reduceLT, Int.reduceLE, Int.reduceNe]) | (simp (disch := (first | omega | rfl | exact rfl | (simp only [cells_v, List.length_cons, List.length_nil]; done) | exact VTy.width _)) only [hel, hd, VTy.cells, VTy.isAgg, VTy.storable, VTy.eta, wrapS, wrapA, wrapA1, lt0, WA, Nat.reduceEqDiff, Nat.reduceAdd, Nat.reduceLT, Nat.reduceLeDiff, Nat.reduceMul, reduceIte, reduceCtorEq, Int.reduceEq, Int.reduceLT, Int.reduceLE, Int.reduceNe]) | (simp (disch := (first | omega | rfl | exact rfl | (simp only [cells_v, List.length_cons, List.length_nil]; done) | exact VTy.width _)) only [hd, hdy, VTy.cells, VTy.isAgg, VTy.storable, VTy.eta, wrapS, wrapA, wrapA1, lt0, WA, Nat.reduceEqDiff, Nat.reduceAdd, Nat.reduceLT, Nat.reduceLeDiff, Nat.reduceMul, reduceIte, reduceCtorEq, Int.reduceEq, Int.reduceLT, Int.reduceLE, Int.reduceNe]) | (simp (disch := (first | omega | rfl | exact rfl | (simp only [cells_v, List.length_cons, List.length_nil]; done) | exact VTy.width _)) only [hix, hd, VTy.cells, VTy.isAgg, VTy.storable, VTy.eta, wrapS, wrapA, wrapA1, lt0, WA, Nat.reduceEqDiff, Nat.reduceAdd, Nat.reduceLT, Nat.reduceLeDiff, Nat.reduceMul, reduceIte, reduceCtorEq, Int.reduceEq, Int.reduceLT, Int.reduceLE, Int.reduceNe]) | (simp (disch := (first | omega | rfl | exact rfl | (simp only [cells_v, List.length_cons, List.length_nil]; done) | exact VTy.width _)) only [hd, VTy.cells, VTy.isAgg, VTy.storable, VTy.eta, wrapS, wrapA, wrapA1, lt0, WA, Nat.reduceEqDiff, Nat.reduceAdd, Nat.reduceLT, Nat.reduceLeDiff, Nat.reduceMul, reduceIte, reduceCtorEq, Int.reduceEq, Int.reduceLT, Int.reduceLE, Int.reduceNe]) | (simp (disch := (first | omega | rfl | exact rfl | (simp only [cells_v, List.length_cons, List.length_nil]; done) | exact VTy.width _)) only [VTy.cells, VTy.isAgg, VTy.storable, VTy.eta, wrapS, wrapA, wrapA1, lt0, WA, Nat.reduceEqDiff, Nat.reduceAdd, Nat.reduceLT, Nat.reduceLeDiff, Nat.reduceMul, reduceIte, reduceCtorEq, Int.reduceEq, Int.reduceLT, Int.reduceLE, Int.reduceNe]) | (refine ite_dec (fun hq => ?_) (fun hq => ?_) <;> (try simp only [hq, decide_true, decide_false, Bool.not_true, Bool.not_false, Bool.not_eq_true', Bool.not_eq_false'])) | (refine ite_ndec (fun hq => ?_) (fun hq => ?_) <;> (try simp only [hq, decide_true, decide_false, Bool.not_true, Bool.not_false, Bool.not_eq_true', Bool.not_eq_false'])) | (refine ite_intro (fun hq => ?_) (fun hq => ?_) <;> (try simp only [hq, decide_true, decide_false, Bool.not_true, Bool.not_false, Bool.not_eq_true', Bool.not_eq_false'])) | (refine bind_push ?_) | (refine loop_zip x.Kids y.Kids (by omega) (fun i (_ : Unit) => [avI i]) (fun _ rest resty _ => all2 VTy.same x.Kids y.Kids = all2 VTy.same rest resty) () rfl ?_ (fun i k y rest resty b hi hm hmy hel hely hd hdy hg => ?_) (fun b hd hdy hg => ?_)) | (refine call_v (spec_SameTy_c k _ (by have := le_sum VTy.wt hm; omega)) ?_))
  all_goals first | (first | (simp_all [all2]; done) | (simp_all [all2, -List.all_eq_true, -List.any_eq_true, -List.all_eq_false, -List.any_eq_false]; done) | (simp_all [all2] <;> (intros; omega)) | (simp_all [all2, -List.all_eq_true, -List.any_eq_true, -List.all_eq_false, -List.any_eq_false] <;> (intros; omega)) | (refine avb ?_; simp_all [all2] <;> (intros; omega)) | (refine avb ?_; simp_all [all2, -List.all_eq_true, -List.any_eq_true, -List.all_eq_false, -List.any_eq_false] <;> (intros; omega))) | (rw [hv, all2_len _ _ _ (by omega)]; simp)
termination_by SizeOf.sizeOf x
decreasing_by all_goals exact VTy.Kids_lt hm
theorem impl_SameTy_c (x y : VTy) (hb : x.wt ≤ 1048576) : PCon Try.prog F.impl_SameTy [x.av, y.av] (.v (.bool (x.same y))) := by
  have hw := x.wt_eq
  have hv := x.same_eq y
  refine T.impl_SameTy_con rfl (by simp [AV.norefs, AV.noref, VTy.noref]) ?_
  simp only [T.impl_SameTy, VTy.cells, VTy.isAgg, VTy.storable, WA, Nat.reduceEqDiff, Nat.reduceAdd, Nat.reduceLT, Nat.reduceLeDiff, Nat.reduceMul, reduceIte, reduceCtorEq, Int.reduceEq, Int.reduceLT, Int.reduceLE, Int.reduceNe]
  repeat' (first | (simp (disch := (first | omega | rfl | exact rfl | (simp only [cells_v, List.length_cons, List.length_nil]; done) | exact VTy.width _)) only [VTy.cells, VTy.isAgg, VTy.storable, VTy.eta, wrapS, wrapA, wrapA1, lt0, WA, Nat.reduceEqDiff, Nat.reduceAdd, Nat.reduceLT, Nat.reduceLeDiff, Nat.reduceMul, reduceIte, reduceCtorEq, Int.reduceEq, Int.reduceLT, Int.reduceLE, Int.reduceNe]) | (refine ite_dec (fun hq => ?_) (fun hq => ?_) <;> (try simp only [hq, decide_true, decide_false, Bool.not_true, Bool.not_false, Bool.not_eq_true', Bool.not_eq_false'])) | (refine ite_ndec (fun hq => ?_) (fun hq => ?_) <;> (try simp only [hq, decide_true, decide_false, Bool.not_true, Bool.not_false, Bool.not_eq_true', Bool.not_eq_false'])) | (refine ite_intro (fun hq => ?_) (fun hq => ?_) <;> (try simp only [hq, decide_true, decide_false, Bool.not_true, Bool.not_false, Bool.not_eq_true', Bool.not_eq_false'])) | (refine bind_push ?_) | (refine call_v (eqF_Ty x.Kids y.Kids _ [] VTy.same (by omega) rfl (fun k hm z _ => impl_SameTy_c k z (by have := le_sum VTy.wt hm; omega))) ?_))
  all_goals (first | (simp_all; done) | (simp_all [-List.all_eq_true, -List.any_eq_true, -List.all_eq_false, -List.any_eq_false]; done) | (simp_all <;> (intros; omega)) | (simp_all [-List.all_eq_true, -List.any_eq_true, -List.all_eq_false, -List.any_eq_false] <;> (intros; omega)) | (refine avb ?_; simp_all <;> (intros; omega)) | (refine avb ?_; simp_all [-List.all_eq_true, -List.any_eq_true, -List.all_eq_false, -List.any_eq_false] <;> (intros; omega)))
termination_by SizeOf.sizeOf x
decreasing_by all_goals exact VTy.Kids_lt hm
end Go.Proofs.Ab
