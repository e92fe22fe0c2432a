/- Part of a proof: the functions that the law reaches, walked by the abstract logic of the texts Ab. -/
import Derived.Test.YtnmljeojillkpaaCSmall
set_option linter.unusedVariables false
set_option linter.unusedSimpArgs false
set_option linter.defProp false
namespace Go.Proofs.Ab
open Go.Ab
set_option maxRecDepth 100000

theorem law_FnExactCoreValue (x0 : VCore) (hb : x0.wt ≤ 1048576) (ho0 : x0.ok) : PCon Try.prog F.laws_FnExactCoreValue [x0.av] (.v (.bool true)) := by
  have hn : AV.norefs [x0.av] = true := by simp [AV.norefs, AV.noref, VCore.noref]
  refine T.laws_FnExactCoreValue_con rfl hn ?_
  simp (disch := omega) only [T.laws_FnExactCoreValue, VCore.isAgg, VCore.width, VCore.storable, wrapS, lt0, W00, W01, W02, W03, W04, W05, W06, W07, W08, Nat.reduceEqDiff, Nat.reduceAdd, Nat.reduceLT, Nat.reduceLeDiff, Nat.reduceMul, reduceIte, reduceCtorEq, Int.reduceEq, Int.reduceLT, Int.reduceLE, Int.reduceNe]
  refine call_v (szCore_c _ 1048576 (by omega) (by omega)) ?_
  simp (disch := omega) only [VCore.isAgg, VCore.width, VCore.storable, wrapS, lt0, W00, W01, W02, W03, W04, W05, W06, W07, W08, Nat.reduceEqDiff, Nat.reduceAdd, Nat.reduceLT, Nat.reduceLeDiff, Nat.reduceMul, reduceIte, reduceCtorEq, Int.reduceEq, Int.reduceLT, Int.reduceLE, Int.reduceNe]
  refine call_p (toCore_c _ (by omega)) (VCore.noref _) ?_
  simp (disch := omega) only [VCore.isAgg, VCore.width, VCore.storable, wrapS, lt0, W00, W01, W02, W03, W04, W05, W06, W07, W08, Nat.reduceEqDiff, Nat.reduceAdd, Nat.reduceLT, Nat.reduceLeDiff, Nat.reduceMul, reduceIte, reduceCtorEq, Int.reduceEq, Int.reduceLT, Int.reduceLE, Int.reduceNe]
  refine call_v (spec_CoreValue_c x0 hb) ?_
  simp (disch := omega) only [VCore.isAgg, VCore.width, VCore.storable, wrapS, lt0, W00, W01, W02, W03, W04, W05, W06, W07, W08, Nat.reduceEqDiff, Nat.reduceAdd, Nat.reduceLT, Nat.reduceLeDiff, Nat.reduceMul, reduceIte, reduceCtorEq, Int.reduceEq, Int.reduceLT, Int.reduceLE, Int.reduceNe]
  refine call_p (toCore_c _ (by omega)) (VCore.noref _) ?_
  simp (disch := omega) only [VCore.isAgg, VCore.width, VCore.storable, wrapS, lt0, W00, W01, W02, W03, W04, W05, W06, W07, W08, Nat.reduceEqDiff, Nat.reduceAdd, Nat.reduceLT, Nat.reduceLeDiff, Nat.reduceMul, reduceIte, reduceCtorEq, Int.reduceEq, Int.reduceLT, Int.reduceLE, Int.reduceNe]
  refine call_v (impl_CoreValue_c x0 hb) ?_
  simp (disch := omega) only [VCore.isAgg, VCore.width, VCore.storable, wrapS, lt0, W00, W01, W02, W03, W04, W05, W06, W07, W08, Nat.reduceEqDiff, Nat.reduceAdd, Nat.reduceLT, Nat.reduceLeDiff, Nat.reduceMul, reduceIte, reduceCtorEq, Int.reduceEq, Int.reduceLT, Int.reduceLE, Int.reduceNe]
  refine call_p (toCore_c _ (by omega)) (VCore.noref _) ?_
  simp (disch := omega) only [VCore.isAgg, VCore.width, VCore.storable, wrapS, lt0, W00, W01, W02, W03, W04, W05, W06, W07, W08, Nat.reduceEqDiff, Nat.reduceAdd, Nat.reduceLT, Nat.reduceLeDiff, Nat.reduceMul, reduceIte, reduceCtorEq, Int.reduceEq, Int.reduceLT, Int.reduceLE, Int.reduceNe]
  refine call_v (eqCore_c _ (by omega)) ?_
  simp (disch := omega) only [VCore.isAgg, VCore.width, VCore.storable, wrapS, lt0, W00, W01, W02, W03, W04, W05, W06, W07, W08, Nat.reduceEqDiff, Nat.reduceAdd, Nat.reduceLT, Nat.reduceLeDiff, Nat.reduceMul, reduceIte, reduceCtorEq, Int.reduceEq, Int.reduceLT, Int.reduceLE, Int.reduceNe]
end Go.Proofs.Ab
