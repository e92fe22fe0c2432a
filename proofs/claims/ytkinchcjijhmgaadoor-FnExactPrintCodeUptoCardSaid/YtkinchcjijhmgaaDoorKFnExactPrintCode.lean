/- Part of a proof: the functions that the law reaches, walked by the abstract logic of the texts Ab. -/
import Derived.Test.YtkinchcjijhmgaaDoorH
import Derived.Test.YtkinchcjijhmgaaDoorWAsm4
set_option linter.unusedVariables false
set_option linter.unusedSimpArgs false
set_option linter.defProp false
namespace Go.Proofs.Ab
open Go.Ab
set_option maxRecDepth 100000
set_option maxHeartbeats 4000000
theorem law_FnExactPrintCode (x0 : VCode) (hb : x0.wt ≤ 1048576) (ho0 : x0.ok) : PCon Tryd.prog F.laws_FnExactPrintCode [x0.av] (.v (.bool true)) := by
  have hn : AV.norefs [x0.av] = true := by simp [AV.norefs, AV.noref, VCode.noref]
  refine T.laws_FnExactPrintCode_con rfl hn ?_
  simp (disch := omega) only [T.laws_FnExactPrintCode, VCode.isAgg, VCode.width, VCode.storable, wrapS, lt0, WA, Nat.reduceEqDiff, Nat.reduceAdd, Nat.reduceLT, Nat.reduceLeDiff, Nat.reduceMul, reduceIte, reduceCtorEq, Int.reduceEq, Int.reduceLT, Int.reduceLE, Int.reduceNe]
  repeat' (first | (simp (disch := (first | omega | rfl | exact rfl | (simp only [cells_v, List.length_cons, List.length_nil]; done) | exact VCode.width _)) only [VCode.cells, VCode.isAgg, VCode.storable, VCode.eta, wrapS, wrapA, wrapA1, lt0, WA, Nat.reduceEqDiff, Nat.reduceAdd, Nat.reduceLT, Nat.reduceLeDiff, Nat.reduceMul, reduceIte, reduceCtorEq, Int.reduceEq, Int.reduceLT, Int.reduceLE, Int.reduceNe]) | (refine ite_dec (fun hq => ?_) (fun hq => ?_) <;> (try simp only [hq, decide_true, decide_false, Bool.not_true, Bool.not_false, Bool.not_eq_true', Bool.not_eq_false'])) | (refine ite_ndec (fun hq => ?_) (fun hq => ?_) <;> (try simp only [hq, decide_true, decide_false, Bool.not_true, Bool.not_false, Bool.not_eq_true', Bool.not_eq_false'])) | (refine ite_intro (fun hq => ?_) (fun hq => ?_) <;> (try simp only [hq, decide_true, decide_false, Bool.not_true, Bool.not_false, Bool.not_eq_true', Bool.not_eq_false'])) | (refine bind_push ?_) | (refine call_v (szCode_c _ 1048576 (by omega) (by omega)) ?_) | (refine call_v (szCode_c _ _ (by omega) (by omega)) ?_) | (refine call_p (toCode_c _ (by omega)) (VCode.noref _) ?_) | (refine call_v (spec_PrintCode_c _ (by omega) ho0) ?_) | (refine call_v (impl_PrintCode_c _ (by omega) ho0) ?_) | (refine call_v (eqCode_c _ (by omega)) ?_))
end Go.Proofs.Ab
