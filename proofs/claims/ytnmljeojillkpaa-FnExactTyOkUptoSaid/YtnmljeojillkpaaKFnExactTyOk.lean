/- Part of a proof: the functions that the law reaches, walked by the abstract logic of the texts Ab. -/
import Derived.Test.YtnmljeojillkpaaCSmall
set_option linter.unusedVariables false
set_option linter.unusedSimpArgs false
set_option linter.defProp false
namespace Go.Proofs.Ab
open Go.Ab
set_option maxRecDepth 100000

theorem law_FnExactTyOk (x0 : VTy) (hb : x0.wt ≤ 1048576) (ho0 : x0.ok) : PCon Try.prog F.laws_FnExactTyOk [x0.av] (.v (.bool true)) := by
  have hn : AV.norefs [x0.av] = true := by simp [AV.norefs, AV.noref, VTy.noref]
  refine T.laws_FnExactTyOk_con rfl hn ?_
  simp (disch := omega) only [T.laws_FnExactTyOk, VTy.isAgg, VTy.width, VTy.storable, wrapS, lt0, W00, W01, W02, W03, W04, W05, W06, W07, W08, Nat.reduceEqDiff, Nat.reduceAdd, Nat.reduceLT, Nat.reduceLeDiff, Nat.reduceMul, reduceIte, reduceCtorEq, Int.reduceEq, Int.reduceLT, Int.reduceLE, Int.reduceNe]
  refine call_v (szTy_c _ 1048576 (by omega) (by omega)) ?_
  simp (disch := omega) only [VTy.isAgg, VTy.width, VTy.storable, wrapS, lt0, W00, W01, W02, W03, W04, W05, W06, W07, W08, Nat.reduceEqDiff, Nat.reduceAdd, Nat.reduceLT, Nat.reduceLeDiff, Nat.reduceMul, reduceIte, reduceCtorEq, Int.reduceEq, Int.reduceLT, Int.reduceLE, Int.reduceNe]
  refine call_p (toTy_c _ (by omega)) (VTy.noref _) ?_
  simp (disch := omega) only [VTy.isAgg, VTy.width, VTy.storable, wrapS, lt0, W00, W01, W02, W03, W04, W05, W06, W07, W08, Nat.reduceEqDiff, Nat.reduceAdd, Nat.reduceLT, Nat.reduceLeDiff, Nat.reduceMul, reduceIte, reduceCtorEq, Int.reduceEq, Int.reduceLT, Int.reduceLE, Int.reduceNe]
  refine call_v (spec_TyOk_c x0 hb) ?_
  simp (disch := omega) only [VTy.isAgg, VTy.width, VTy.storable, wrapS, lt0, W00, W01, W02, W03, W04, W05, W06, W07, W08, Nat.reduceEqDiff, Nat.reduceAdd, Nat.reduceLT, Nat.reduceLeDiff, Nat.reduceMul, reduceIte, reduceCtorEq, Int.reduceEq, Int.reduceLT, Int.reduceLE, Int.reduceNe]
  refine call_p (toTy_c _ (by omega)) (VTy.noref _) ?_
  simp (disch := omega) only [VTy.isAgg, VTy.width, VTy.storable, wrapS, lt0, W00, W01, W02, W03, W04, W05, W06, W07, W08, Nat.reduceEqDiff, Nat.reduceAdd, Nat.reduceLT, Nat.reduceLeDiff, Nat.reduceMul, reduceIte, reduceCtorEq, Int.reduceEq, Int.reduceLT, Int.reduceLE, Int.reduceNe]
  refine call_v (impl_TyOk_c x0 hb) ?_
  simp (disch := omega) only [VTy.isAgg, VTy.width, VTy.storable, wrapS, lt0, W00, W01, W02, W03, W04, W05, W06, W07, W08, Nat.reduceEqDiff, Nat.reduceAdd, Nat.reduceLT, Nat.reduceLeDiff, Nat.reduceMul, reduceIte, reduceCtorEq, Int.reduceEq, Int.reduceLT, Int.reduceLE, Int.reduceNe]
  refine call_p (toTy_c _ (by omega)) (VTy.noref _) ?_
  simp (disch := omega) only [VTy.isAgg, VTy.width, VTy.storable, wrapS, lt0, W00, W01, W02, W03, W04, W05, W06, W07, W08, Nat.reduceEqDiff, Nat.reduceAdd, Nat.reduceLT, Nat.reduceLeDiff, Nat.reduceMul, reduceIte, reduceCtorEq, Int.reduceEq, Int.reduceLT, Int.reduceLE, Int.reduceNe]
  refine call_v (eqTy_c _ (by omega)) ?_
  simp (disch := omega) only [VTy.isAgg, VTy.width, VTy.storable, wrapS, lt0, W00, W01, W02, W03, W04, W05, W06, W07, W08, Nat.reduceEqDiff, Nat.reduceAdd, Nat.reduceLT, Nat.reduceLeDiff, Nat.reduceMul, reduceIte, reduceCtorEq, Int.reduceEq, Int.reduceLT, Int.reduceLE, Int.reduceNe]
end Go.Proofs.Ab
