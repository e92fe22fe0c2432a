/- Part of a proof: the functions that the law reaches, walked by the abstract logic of the texts Ab. -/
import Derived.Test.YtiakemdoealcoaaGreatDoorH
import Derived.Test.YtiakemdoealcoaaGreatDoorCPrint4
set_option linter.unusedVariables false
set_option linter.unusedSimpArgs false
set_option linter.defProp false
namespace Go.Proofs.Ab
open Go.Ab
set_option maxRecDepth 100000
set_option maxHeartbeats 4000000
theorem law_FnExactPrint (x0 : VProg) (hb : x0.wt ≤ 1048576) (ho0 : x0.ok) : PCon Tryz.prog F.laws_FnExactPrint [x0.av] (.v (.bool true)) := by
  have hn : AV.norefs [x0.av] = true := by simp [AV.norefs, AV.noref, VProg.noref]
  refine T.laws_FnExactPrint_con rfl hn ?_
  simp (disch := omega) only [T.laws_FnExactPrint, VProg.isAgg, VProg.width, VProg.storable, wrapS, lt0, WA, Nat.reduceEqDiff, Nat.reduceAdd, Nat.reduceLT, Nat.reduceLeDiff, Nat.reduceMul, reduceIte, reduceCtorEq, Int.reduceEq, Int.reduceLT, Int.reduceLE, Int.reduceNe]
  repeat' (first | (simp (disch := (first | omega | rfl | exact rfl | (simp only [cells_v, List.length_cons, List.length_nil]; done) | exact VProg.width _)) only [VProg.cells, VProg.isAgg, VProg.storable, VProg.eta, VProg.load_Body, VExp.eta, wrapS, wrapA, wrapA1, lt0, WA, Nat.reduceEqDiff, Nat.reduceAdd, Nat.reduceLT, Nat.reduceLeDiff, Nat.reduceMul, reduceIte, reduceCtorEq, Int.reduceEq, Int.reduceLT, Int.reduceLE, Int.reduceNe]) | (refine ite_dec (fun hq => ?_) (fun hq => ?_) <;> (try simp only [hq, decide_true, decide_false, Bool.not_true, Bool.not_false, Bool.not_eq_true', Bool.not_eq_false'])) | (refine ite_ndec (fun hq => ?_) (fun hq => ?_) <;> (try simp only [hq, decide_true, decide_false, Bool.not_true, Bool.not_false, Bool.not_eq_true', Bool.not_eq_false'])) | (refine ite_intro (fun hq => ?_) (fun hq => ?_) <;> (try simp only [hq, decide_true, decide_false, Bool.not_true, Bool.not_false, Bool.not_eq_true', Bool.not_eq_false'])) | (refine bind_push ?_) | (refine call_v (szProg_c _ 1048576 (by omega) (by omega)) ?_) | (refine call_v (szProg_c _ _ (by omega) (by omega)) ?_) | (refine call_p (toProg_c _ (by omega)) (VProg.noref _) ?_) | (refine call_v (spec_Print_c _ (by omega) ho0) ?_) | (refine call_v (impl_Print_c _ (by omega) ho0) ?_) | (refine call_v (eqProg_c _ (by omega)) ?_))
end Go.Proofs.Ab
