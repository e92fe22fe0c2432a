/-
  TOKENS, TYPES, CONSTRUCTORS: what TokenOk, TyOk and FindCtor compute.
-/
import Derived.Test.YtimcinieaeaolaaGreatDoorCLex
set_option linter.unusedVariables false
set_option linter.unusedSimpArgs false
set_option linter.defProp false
namespace Go.Ab
def emp : ByteArray := ⟨#[]⟩
end Go.Ab
namespace Go.Proofs.Ab
open Go.Ab
set_option maxRecDepth 100000
set_option maxHeartbeats 4000000
theorem impl_lowOk_c (s : ByteArray) (hs : s.size ≤ 1048576) : PCon Tryz.prog F.impl_lowOk [avB s] (.v (.bool (lowM s))) := by
  refine T.impl_lowOk_con rfl rfl ?_
  simp only [T.impl_lowOk, WA, Nat.reduceEqDiff, Nat.reduceAdd, Nat.reduceLT, Nat.reduceLeDiff, Nat.reduceMul, reduceIte, reduceCtorEq, Int.reduceEq, Int.reduceLT, Int.reduceLE, Int.reduceNe]
  repeat' (first | (simp (disch := omega) only [WA, Nat.reduceEqDiff, Nat.reduceAdd, Nat.reduceLT, Nat.reduceLeDiff, Nat.reduceMul, reduceIte, reduceCtorEq, Int.reduceEq, Int.reduceLT, Int.reduceLE, Int.reduceNe]) | (refine ite_dec (fun _ => ?_) (fun _ => ?_)) | (refine ite_ndec (fun _ => ?_) (fun _ => ?_)) | (refine ite_intro (fun _ => ?_) (fun _ => ?_)) | (refine bind_push ?_) | (refine call_v (impl_isName_c _ _ _ (fun c _ _ => impl_small_c c) hs) ?_) | (refine call_v (impl_isKey_c _) ?_))
  all_goals simp_all [lowM]
theorem impl_upOk_c (s : ByteArray) (hs : s.size ≤ 1048576) : PCon Tryz.prog F.impl_upOk [avB s] (.v (.bool (upM s))) := by
  refine T.impl_upOk_con rfl rfl ?_
  simp only [T.impl_upOk, WA, Nat.reduceEqDiff, Nat.reduceAdd, Nat.reduceLT, Nat.reduceLeDiff, Nat.reduceMul, reduceIte, reduceCtorEq, Int.reduceEq, Int.reduceLT, Int.reduceLE, Int.reduceNe]
  repeat' (first | (simp (disch := omega) only [WA, Nat.reduceEqDiff, Nat.reduceAdd, Nat.reduceLT, Nat.reduceLeDiff, Nat.reduceMul, reduceIte, reduceCtorEq, Int.reduceEq, Int.reduceLT, Int.reduceLE, Int.reduceNe]) | (refine ite_dec (fun _ => ?_) (fun _ => ?_)) | (refine ite_ndec (fun _ => ?_) (fun _ => ?_)) | (refine ite_intro (fun _ => ?_) (fun _ => ?_)) | (refine bind_push ?_) | (refine call_v (impl_isName_c _ _ _ (fun c _ _ => impl_great_c c) hs) ?_))
  all_goals simp_all [upM]
end Go.Proofs.Ab
