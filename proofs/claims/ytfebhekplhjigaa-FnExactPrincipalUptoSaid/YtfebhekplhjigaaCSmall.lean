/-
  TYPES AND CORES THAT ARE RIGHT OR VALUES; THE PLACE OF A CONSTRUCTOR.
-/
import Derived.Test.YtfebhekplhjigaaCTok
import Derived.Test.YtfebhekplhjigaaSL
set_option linter.unusedVariables false
set_option linter.unusedSimpArgs false
set_option linter.defProp false
namespace Go.Ab
set_option maxRecDepth 100000
set_option maxHeartbeats 4000000
def VTy.nodeM (t : VTy) : Bool :=
  (decide (t.Kind = 7) || decide (t.Name = emp)) && (decide (9 ≤ t.Kind) || decide (t.N = 0)) &&
   (if t.Kind = 1 ∨ t.Kind = 2 ∨ t.Kind = 3 ∨ t.Kind = 4 then decide (t.Kids.length = 0) else if t.Kind = 5 then decide (t.Kids.length = 2) else if t.Kind = 6 then decide (2 ≤ t.Kids.length)
    else if t.Kind = 7 then lowM t.Name else if t.Kind = 8 then decide (t.Kids.length = 1) else if t.Kind = 9 ∨ t.Kind = 10 ∨ t.Kind = 11 then decide (t.Kids.length = 0) && decide (0 ≤ t.N) else false)
mutual
def VTy.okM : VTy → Bool
  | .mk k n name kids => (VTy.mk k n name kids).nodeM && VTy.allOk kids
def VTy.allOk : List VTy → Bool
  | [] => true
  | x :: l => x.okM && VTy.allOk l
end
theorem VTy.allOk_eq (l : List VTy) : VTy.allOk l = l.all VTy.okM := by
  induction l with
  | nil => rfl
  | cons x l ih => simp only [VTy.allOk, ih, List.all_cons]
theorem VTy.okM_eq (x : VTy) : x.okM = (x.nodeM && x.Kids.all VTy.okM) := by
  cases x; simp only [VTy.okM, VTy.allOk_eq, VTy.Kids]
end Go.Ab
namespace Go.Proofs.Ab
open Go.Ab
set_option maxRecDepth 100000
set_option maxHeartbeats 4000000
theorem spec_l4Node_c (t : VTy) (hb : t.wt ≤ 1048576) : PCon Try.prog F.spec_l4Node [t.av] (.v (.bool t.nodeM)) := by
  have hw := t.wt_eq
  refine T.spec_l4Node_con rfl (by simp [AV.norefs, AV.noref, VTy.noref]) ?_
  simp only [T.spec_l4Node, VTy.cells, VTy.isAgg, VTy.storable, WA, Nat.reduceEqDiff, Nat.reduceAdd, Nat.reduceLT, Nat.reduceLeDiff, Nat.reduceMul, reduceIte, reduceCtorEq, Int.reduceEq, Int.reduceLT, Int.reduceLE, Int.reduceNe]
  repeat' (first | (simp (disch := (first | omega | rfl | exact rfl | (simp only [cells_v, List.length_cons, List.length_nil]; done) | exact VTy.width _)) only [VTy.cells, VTy.isAgg, VTy.storable, VTy.eta, wrapS, wrapA, wrapA1, lt0, WA, Nat.reduceEqDiff, Nat.reduceAdd, Nat.reduceLT, Nat.reduceLeDiff, Nat.reduceMul, reduceIte, reduceCtorEq, Int.reduceEq, Int.reduceLT, Int.reduceLE, Int.reduceNe]) | (refine ite_dec (fun hq => ?_) (fun hq => ?_) <;> (try simp only [hq, decide_true, decide_false, Bool.not_true, Bool.not_false, Bool.not_eq_true', Bool.not_eq_false'])) | (refine ite_ndec (fun hq => ?_) (fun hq => ?_) <;> (try simp only [hq, decide_true, decide_false, Bool.not_true, Bool.not_false, Bool.not_eq_true', Bool.not_eq_false'])) | (refine ite_intro (fun hq => ?_) (fun hq => ?_) <;> (try simp only [hq, decide_true, decide_false, Bool.not_true, Bool.not_false, Bool.not_eq_true', Bool.not_eq_false'])) | (refine bind_push ?_) | (refine call_v (spec_l1Low_c _ (by omega)) ?_))
  all_goals first | (have hg1 := hg; clear hv; simp_all [VTy.nodeM, emp]; done) | (have hg1 := hg; simp_all [VTy.nodeM, emp]; done) | (have hg1 := hg; clear hv; simp_all [VTy.nodeM, emp, -List.all_eq_true, -List.any_eq_true, -List.all_eq_false, -List.any_eq_false]; done) | (simp_all [VTy.nodeM, emp]; done) | (simp_all [VTy.nodeM, emp, -List.all_eq_true, -List.any_eq_true, -List.all_eq_false, -List.any_eq_false]; done) | (refine avb ?_; (try clear hv); simp_all [VTy.nodeM, emp] <;> (intros; omega)) | (refine avb ?_; simp_all [VTy.nodeM, emp] <;> (intros; omega)) | (simp_all [VTy.nodeM, emp] <;> (intros; omega)) | omega
theorem impl_tyHeadOk_c (t : VTy) (hb : t.wt ≤ 1048576) : PCon Try.prog F.impl_tyHeadOk [t.av] (.v (.bool t.nodeM)) := by
  have hw := t.wt_eq
  refine T.impl_tyHeadOk_con rfl (by simp [AV.norefs, AV.noref, VTy.noref]) ?_
  simp only [T.impl_tyHeadOk, VTy.cells, VTy.isAgg, VTy.storable, WA, Nat.reduceEqDiff, Nat.reduceAdd, Nat.reduceLT, Nat.reduceLeDiff, Nat.reduceMul, reduceIte, reduceCtorEq, Int.reduceEq, Int.reduceLT, Int.reduceLE, Int.reduceNe]
  repeat' (first | (simp (disch := (first | omega | rfl | exact rfl | (simp only [cells_v, List.length_cons, List.length_nil]; done) | exact VTy.width _)) only [VTy.cells, VTy.isAgg, VTy.storable, VTy.eta, wrapS, wrapA, wrapA1, lt0, WA, Nat.reduceEqDiff, Nat.reduceAdd, Nat.reduceLT, Nat.reduceLeDiff, Nat.reduceMul, reduceIte, reduceCtorEq, Int.reduceEq, Int.reduceLT, Int.reduceLE, Int.reduceNe]) | (refine ite_dec (fun hq => ?_) (fun hq => ?_) <;> (try simp only [hq, decide_true, decide_false, Bool.not_true, Bool.not_false, Bool.not_eq_true', Bool.not_eq_false'])) | (refine ite_ndec (fun hq => ?_) (fun hq => ?_) <;> (try simp only [hq, decide_true, decide_false, Bool.not_true, Bool.not_false, Bool.not_eq_true', Bool.not_eq_false'])) | (refine ite_intro (fun hq => ?_) (fun hq => ?_) <;> (try simp only [hq, decide_true, decide_false, Bool.not_true, Bool.not_false, Bool.not_eq_true', Bool.not_eq_false'])) | (refine bind_push ?_) | (refine call_v (impl_lowOk_c _ (by omega)) ?_))
  all_goals first | (have hg1 := hg; clear hv; simp_all [VTy.nodeM, emp]; done) | (have hg1 := hg; simp_all [VTy.nodeM, emp]; done) | (have hg1 := hg; clear hv; simp_all [VTy.nodeM, emp, -List.all_eq_true, -List.any_eq_true, -List.all_eq_false, -List.any_eq_false]; done) | (simp_all [VTy.nodeM, emp]; done) | (simp_all [VTy.nodeM, emp, -List.all_eq_true, -List.any_eq_true, -List.all_eq_false, -List.any_eq_false]; done) | (refine avb ?_; (try clear hv); simp_all [VTy.nodeM, emp] <;> (intros; omega)) | (refine avb ?_; simp_all [VTy.nodeM, emp] <;> (intros; omega)) | (simp_all [VTy.nodeM, emp] <;> (intros; omega)) | omega
theorem spec_TyOk_c (x : VTy) (hb : x.wt ≤ 1048576) : PCon Try.prog F.spec_TyOk [x.av] (.v (.bool x.okM)) := by
  have hw := x.wt_eq
  have hv := x.okM_eq
  refine T.spec_TyOk_con rfl (by simp [AV.norefs, AV.noref, VTy.noref]) ?_
  simp only [T.spec_TyOk, VTy.cells, VTy.isAgg, VTy.storable, WA, Nat.reduceEqDiff, Nat.reduceAdd, Nat.reduceLT, Nat.reduceLeDiff, Nat.reduceMul, reduceIte, reduceCtorEq, Int.reduceEq, Int.reduceLT, Int.reduceLE, Int.reduceNe]
  repeat' (first | (simp (disch := (first | omega | rfl | exact rfl | (simp only [cells_v, List.length_cons, List.length_nil]; done) | exact VTy.width _)) only [hel, hely, hd, hdy, VTy.cells, VTy.isAgg, VTy.storable, VTy.eta, wrapS, wrapA, wrapA1, lt0, WA, Nat.reduceEqDiff, Nat.reduceAdd, Nat.reduceLT, Nat.reduceLeDiff, Nat.reduceMul, reduceIte, reduceCtorEq, Int.reduceEq, Int.reduceLT, Int.reduceLE, Int.reduceNe]) | (simp (disch := (first | omega | rfl | exact rfl | (simp only [cells_v, List.length_cons, List.length_nil]; done) | exact VTy.width _)) only [hel, hd, VTy.cells, VTy.isAgg, VTy.storable, VTy.eta, wrapS, wrapA, wrapA1, lt0, WA, Nat.reduceEqDiff, Nat.reduceAdd, Nat.reduceLT, Nat.reduceLeDiff, Nat.reduceMul, reduceIte, reduceCtorEq, Int.reduceEq, Int.reduceLT, Int.reduceLE, Int.reduceNe]) | (simp (disch := (first | omega | rfl | exact rfl | (simp only [cells_v, List.length_cons, List.length_nil]; done) | exact VTy.width _)) only [hd, hdy, VTy.cells, VTy.isAgg, VTy.storable, VTy.eta, wrapS, wrapA, wrapA1, lt0, WA, Nat.reduceEqDiff, Nat.reduceAdd, Nat.reduceLT, Nat.reduceLeDiff, Nat.reduceMul, reduceIte, reduceCtorEq, Int.reduceEq, Int.reduceLT, Int.reduceLE, Int.reduceNe]) | (simp (disch := (first | omega | rfl | exact rfl | (simp only [cells_v, List.length_cons, List.length_nil]; done) | exact VTy.width _)) only [hix, hd, VTy.cells, VTy.isAgg, VTy.storable, VTy.eta, wrapS, wrapA, wrapA1, lt0, WA, Nat.reduceEqDiff, Nat.reduceAdd, Nat.reduceLT, Nat.reduceLeDiff, Nat.reduceMul, reduceIte, reduceCtorEq, Int.reduceEq, Int.reduceLT, Int.reduceLE, Int.reduceNe]) | (simp (disch := (first | omega | rfl | exact rfl | (simp only [cells_v, List.length_cons, List.length_nil]; done) | exact VTy.width _)) only [hd, VTy.cells, VTy.isAgg, VTy.storable, VTy.eta, wrapS, wrapA, wrapA1, lt0, WA, Nat.reduceEqDiff, Nat.reduceAdd, Nat.reduceLT, Nat.reduceLeDiff, Nat.reduceMul, reduceIte, reduceCtorEq, Int.reduceEq, Int.reduceLT, Int.reduceLE, Int.reduceNe]) | (simp (disch := (first | omega | rfl | exact rfl | (simp only [cells_v, List.length_cons, List.length_nil]; done) | exact VTy.width _)) only [VTy.cells, VTy.isAgg, VTy.storable, VTy.eta, wrapS, wrapA, wrapA1, lt0, WA, Nat.reduceEqDiff, Nat.reduceAdd, Nat.reduceLT, Nat.reduceLeDiff, Nat.reduceMul, reduceIte, reduceCtorEq, Int.reduceEq, Int.reduceLT, Int.reduceLE, Int.reduceNe]) | (refine ite_dec (fun hq => ?_) (fun hq => ?_) <;> (try simp only [hq, decide_true, decide_false, Bool.not_true, Bool.not_false, Bool.not_eq_true', Bool.not_eq_false'])) | (refine ite_ndec (fun hq => ?_) (fun hq => ?_) <;> (try simp only [hq, decide_true, decide_false, Bool.not_true, Bool.not_false, Bool.not_eq_true', Bool.not_eq_false'])) | (refine ite_intro (fun hq => ?_) (fun hq => ?_) <;> (try simp only [hq, decide_true, decide_false, Bool.not_true, Bool.not_false, Bool.not_eq_true', Bool.not_eq_false'])) | (refine bind_push ?_) | (refine loop_list x.Kids (fun i (_ : Unit) => [avI i]) (fun _ rest _ => x.okM = rest.all VTy.okM) () rfl ?_ (fun i k rest b hi hx hm hel hd hg => ?_) (fun b hd hg => ?_)) | (refine call_v (spec_l4Node_c x hb) ?_) | (refine call_v (spec_TyOk_c k (by have := le_sum VTy.wt hm; omega)) ?_))
  all_goals first | (have hg1 := hg; clear hv; simp_all; done) | (have hg1 := hg; simp_all; done) | (have hg1 := hg; clear hv; simp_all [-List.all_eq_true, -List.any_eq_true, -List.all_eq_false, -List.any_eq_false]; done) | (simp_all; done) | (simp_all [-List.all_eq_true, -List.any_eq_true, -List.all_eq_false, -List.any_eq_false]; done) | (refine avb ?_; (try clear hv); simp_all <;> (intros; omega)) | (refine avb ?_; simp_all <;> (intros; omega)) | (simp_all <;> (intros; omega)) | omega
termination_by SizeOf.sizeOf x
decreasing_by all_goals exact VTy.Kids_lt hm
theorem impl_TyOk_c (x : VTy) (hb : x.wt ≤ 1048576) : PCon Try.prog F.impl_TyOk [x.av] (.v (.bool x.okM)) := by
  have hw := x.wt_eq
  have hv := x.okM_eq
  have h1 : ∀ y ∈ x.Kids, PCon Try.prog F.impl_TyOk_1 [y.av] (.v (.bool (!y.okM))) := fun y hm => by
    refine T.impl_TyOk_1_con rfl (by simp [AV.norefs, AV.noref, VTy.noref]) ?_
    simp only [T.impl_TyOk_1, VTy.cells, VTy.isAgg, VTy.storable, WA, Nat.reduceEqDiff, Nat.reduceAdd, Nat.reduceLT, Nat.reduceLeDiff, Nat.reduceMul, reduceIte, reduceCtorEq, Int.reduceEq, Int.reduceLT, Int.reduceLE, Int.reduceNe]
    repeat' (first | (simp (disch := (first | omega | rfl | exact rfl | (simp only [cells_v, List.length_cons, List.length_nil]; done) | exact VTy.width _)) only [VTy.cells, VTy.isAgg, VTy.storable, VTy.eta, wrapS, wrapA, wrapA1, lt0, WA, Nat.reduceEqDiff, Nat.reduceAdd, Nat.reduceLT, Nat.reduceLeDiff, Nat.reduceMul, reduceIte, reduceCtorEq, Int.reduceEq, Int.reduceLT, Int.reduceLE, Int.reduceNe]) | (refine ite_dec (fun hq => ?_) (fun hq => ?_) <;> (try simp only [hq, decide_true, decide_false, Bool.not_true, Bool.not_false, Bool.not_eq_true', Bool.not_eq_false'])) | (refine ite_ndec (fun hq => ?_) (fun hq => ?_) <;> (try simp only [hq, decide_true, decide_false, Bool.not_true, Bool.not_false, Bool.not_eq_true', Bool.not_eq_false'])) | (refine ite_intro (fun hq => ?_) (fun hq => ?_) <;> (try simp only [hq, decide_true, decide_false, Bool.not_true, Bool.not_false, Bool.not_eq_true', Bool.not_eq_false'])) | (refine bind_push ?_) | (refine call_v (impl_TyOk_c y (by have := le_sum VTy.wt hm; omega)) ?_))
  refine T.impl_TyOk_con rfl (by simp [AV.norefs, AV.noref, VTy.noref]) ?_
  simp only [T.impl_TyOk, VTy.cells, VTy.isAgg, VTy.storable, WA, Nat.reduceEqDiff, Nat.reduceAdd, Nat.reduceLT, Nat.reduceLeDiff, Nat.reduceMul, reduceIte, reduceCtorEq, Int.reduceEq, Int.reduceLT, Int.reduceLE, Int.reduceNe]
  repeat' (first | (simp (disch := (first | omega | rfl | exact rfl | (simp only [cells_v, List.length_cons, List.length_nil]; done) | exact VTy.width _)) only [VTy.cells, VTy.isAgg, VTy.storable, VTy.eta, not_any, wrapS, wrapA, wrapA1, lt0, WA, Nat.reduceEqDiff, Nat.reduceAdd, Nat.reduceLT, Nat.reduceLeDiff, Nat.reduceMul, reduceIte, reduceCtorEq, Int.reduceEq, Int.reduceLT, Int.reduceLE, Int.reduceNe]) | (refine ite_dec (fun hq => ?_) (fun hq => ?_) <;> (try simp only [hq, decide_true, decide_false, Bool.not_true, Bool.not_false, Bool.not_eq_true', Bool.not_eq_false'])) | (refine ite_ndec (fun hq => ?_) (fun hq => ?_) <;> (try simp only [hq, decide_true, decide_false, Bool.not_true, Bool.not_false, Bool.not_eq_true', Bool.not_eq_false'])) | (refine ite_intro (fun hq => ?_) (fun hq => ?_) <;> (try simp only [hq, decide_true, decide_false, Bool.not_true, Bool.not_false, Bool.not_eq_true', Bool.not_eq_false'])) | (refine bind_push ?_) | (refine call_v (impl_tyHeadOk_c x hb) ?_) | (refine call_v (anyF_Ty x.Kids _ [] (fun y => !y.okM) (by omega) rfl h1) ?_))
  all_goals first | (have hg1 := hg; clear hv; simp_all; done) | (have hg1 := hg; simp_all; done) | (have hg1 := hg; clear hv; simp_all [-List.all_eq_true, -List.any_eq_true, -List.all_eq_false, -List.any_eq_false]; done) | (simp_all; done) | (simp_all [-List.all_eq_true, -List.any_eq_true, -List.all_eq_false, -List.any_eq_false]; done) | (refine avb ?_; (try clear hv); simp_all <;> (intros; omega)) | (refine avb ?_; simp_all <;> (intros; omega)) | (simp_all <;> (intros; omega)) | omega
termination_by SizeOf.sizeOf x
decreasing_by all_goals exact VTy.Kids_lt hm
end Go.Proofs.Ab
