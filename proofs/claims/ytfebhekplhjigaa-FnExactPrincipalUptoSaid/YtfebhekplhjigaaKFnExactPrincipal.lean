/- Part of a proof: the functions that the law reaches, walked by the abstract logic of the texts Ab. -/
import Derived.Test.YtfebhekplhjigaaH
import Derived.Test.YtfebhekplhjigaaWPrin3
set_option linter.unusedVariables false
set_option linter.unusedSimpArgs false
set_option linter.defProp false
namespace Go.Proofs.Ab
open Go.Ab
set_option maxRecDepth 100000
set_option maxHeartbeats 4000000
theorem law_FnExactPrincipal (x0 : VTy) (x1 : VTy) (hb : x0.wt + x1.wt ≤ 1048576) (ho0 : x0.ok) (ho1 : x1.ok) : PCon Try.prog F.laws_FnExactPrincipal [x0.av, x1.av] (.v (.bool true)) := by
  have hn : AV.norefs [x0.av, x1.av] = true := by simp [AV.norefs, AV.noref, VTy.noref, VTy.noref]
  refine T.laws_FnExactPrincipal_con rfl hn ?_
  simp (disch := omega) only [T.laws_FnExactPrincipal, VTy.isAgg, VTy.width, VTy.storable, wrapS, lt0, WA, Nat.reduceEqDiff, Nat.reduceAdd, Nat.reduceLT, Nat.reduceLeDiff, Nat.reduceMul, reduceIte, reduceCtorEq, Int.reduceEq, Int.reduceLT, Int.reduceLE, Int.reduceNe]
  repeat' (first | (simp (disch := (first | omega | rfl | exact rfl | (simp only [cells_v, List.length_cons, List.length_nil]; done) | exact VTy.width _)) only [VTy.cells, VTy.isAgg, VTy.storable, VTy.eta, wrapS, wrapA, wrapA1, lt0, WA, Nat.reduceEqDiff, Nat.reduceAdd, Nat.reduceLT, Nat.reduceLeDiff, Nat.reduceMul, reduceIte, reduceCtorEq, Int.reduceEq, Int.reduceLT, Int.reduceLE, Int.reduceNe]) | (refine ite_dec (fun hq => ?_) (fun hq => ?_) <;> (try simp only [hq, decide_true, decide_false, Bool.not_true, Bool.not_false, Bool.not_eq_true', Bool.not_eq_false'])) | (refine ite_ndec (fun hq => ?_) (fun hq => ?_) <;> (try simp only [hq, decide_true, decide_false, Bool.not_true, Bool.not_false, Bool.not_eq_true', Bool.not_eq_false'])) | (refine ite_intro (fun hq => ?_) (fun hq => ?_) <;> (try simp only [hq, decide_true, decide_false, Bool.not_true, Bool.not_false, Bool.not_eq_true', Bool.not_eq_false'])) | (refine bind_push ?_) | (refine call_v (szTy_c _ 1048576 (by omega) (by omega)) ?_) | (refine call_v (szTy_c _ _ (by omega) (by omega)) ?_) | (refine call_p (toTy_c _ (by omega)) (VTy.noref _) ?_) | (refine call_v (spec_Principal_c _ _ (by omega) (by omega)) ?_) | (refine call_v (impl_Principal_c _ _ (by omega) (by omega)) ?_) | (refine call_v (eqTy_c _ (by omega)) ?_))
end Go.Proofs.Ab
