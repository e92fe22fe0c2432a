/-
  TOKENS, TYPES, CONSTRUCTORS: what TokenOk, TyOk and FindCtor compute.
-/
import Derived.Test.YtfebhekplhjigaaCLex
set_option linter.unusedVariables false
set_option linter.unusedSimpArgs false
set_option linter.defProp false
namespace Go.Ab
def emp : ByteArray := ⟨#[]⟩
end Go.Ab
namespace Go.Proofs.Ab
open Go.Ab
set_option maxRecDepth 100000
set_option maxHeartbeats 4000000
theorem nameLow_c (s : ByteArray) (hs : s.size ≤ 1048576) : PCon Try.prog F.spec_l1Name [avB s, .v (.bool false)] (.v (.bool (isNameM (fun c => inB c 97 122) s))) := by
  have := spec_l1Name_c s false hs
  simpa using this
/-- a slice's words, one by one -/
theorem spec_l1Key_c (s : ByteArray) : PCon Try.prog F.spec_l1Key [avB s] (.v (.bool (isKeyM s))) := by
  refine T.spec_l1Key_con rfl rfl ?_
  simp only [T.spec_l1Key, AV.cells, AV.isCell, w_op, w_chk, h_one, e_c, p_mkl, w_go, true_and, List.length_cons, List.length_nil, Nat.zero_add]
  have hk : setAll (List.replicate 19 (AV.v (.string ⟨#[]⟩))) [(0, avB ⟨#[116, 121, 112, 101]⟩), (1, avB ⟨#[111, 102]⟩), (2, avB ⟨#[108, 101, 116]⟩), (3, avB ⟨#[114, 101, 99]⟩), (4, avB ⟨#[105, 110]⟩), (5, avB ⟨#[102, 117, 110]⟩), (6, avB ⟨#[105, 102]⟩), (7, avB ⟨#[116, 104, 101, 110]⟩), (8, avB ⟨#[101, 108, 115, 101]⟩), (9, avB ⟨#[109, 97, 116, 99, 104]⟩), (10, avB ⟨#[119, 105, 116, 104]⟩), (11, avB ⟨#[101, 110, 100]⟩), (12, avB ⟨#[116, 114, 117, 101]⟩), (13, avB ⟨#[102, 97, 108, 115, 101]⟩), (14, avB ⟨#[114, 101, 102]⟩), (15, avB ⟨#[114, 101, 97, 100]⟩), (16, avB ⟨#[112, 114, 105, 110, 116]⟩), (17, avB ⟨#[101, 120, 105, 116]⟩), (18, avB ⟨#[115, 105, 122, 101]⟩)] = keysM.map avB := rfl
  have hk2 : ([avB s] ++ [AV.sl (keysM.map avB)] : List AV) = [avB s, .sl (keysM.map avB)] := rfl
  simp only [List.map_cons, List.map_nil, e_c]
  rw [hk, hk2]
  simp only [w_bind]
  refine bind_push ?_
  simp only [WA, Nat.reduceEqDiff, Nat.reduceAdd, Nat.reduceLT, Nat.reduceLeDiff, Nat.reduceMul, reduceIte, reduceCtorEq, Int.reduceEq, Int.reduceLT, Int.reduceLE, Int.reduceNe]
  refine loop_inv keysM.length (fun i => isKeyM s = ((keysM.drop i).any fun y => decide (s = y))) (fun i => [avI i]) rfl rfl fun i hi hI => ?_
  simp only [WA, Nat.reduceEqDiff, Nat.reduceAdd, Nat.reduceLT, Nat.reduceLeDiff, Nat.reduceMul, reduceIte, reduceCtorEq, Int.reduceEq, Int.reduceLT, Int.reduceLE, Int.reduceNe]
  refine ite_dec (fun h => ?_) (fun h => ?_)
  · have hlt : i < keysM.length := by omega
    have hn : keysM.length = 19 := rfl
    rw [dropC hlt, List.any_cons] at hI
    have hg : (keysM.map avB).getD i .top = avB keysM[i] := by simp [List.getD, hlt]
    simp only [hg, loadC, AV.cells, WA, Nat.reduceEqDiff, Nat.reduceAdd, Nat.reduceLT, Nat.reduceLeDiff, Nat.reduceMul, reduceIte, reduceCtorEq, Int.reduceEq, Int.reduceLT, Int.reduceLE, Int.reduceNe]
    refine ⟨by omega, hlt, ?_⟩
    refine ite_dec (fun h => ?_) (fun h => ?_)
    · rw [decide_eq_true h.symm] at hI
      simp [hI, WA, Nat.reduceEqDiff, Nat.reduceAdd, Nat.reduceLT, Nat.reduceLeDiff, Nat.reduceMul, reduceIte, reduceCtorEq, Int.reduceEq, Int.reduceLT, Int.reduceLE, Int.reduceNe]
    · rw [decide_eq_false (fun q => h q.symm)] at hI
      simp (disch := omega) only [wrapA1, WA, Nat.reduceEqDiff, Nat.reduceAdd, Nat.reduceLT, Nat.reduceLeDiff, Nat.reduceMul, reduceIte, reduceCtorEq, Int.reduceEq, Int.reduceLT, Int.reduceLE, Int.reduceNe]
      exact ⟨hlt, by simpa using hI⟩
  · have he : i = keysM.length := by omega
    subst he
    rw [dropE] at hI
    simp [hI, WA, Nat.reduceEqDiff, Nat.reduceAdd, Nat.reduceLT, Nat.reduceLeDiff, Nat.reduceMul, reduceIte, reduceCtorEq, Int.reduceEq, Int.reduceLT, Int.reduceLE, Int.reduceNe]
theorem spec_l1Low_c (s : ByteArray) (hs : s.size ≤ 1048576) : PCon Try.prog F.spec_l1Low [avB s] (.v (.bool (lowM s))) := by
  refine T.spec_l1Low_con rfl rfl ?_
  simp only [T.spec_l1Low, WA, Nat.reduceEqDiff, Nat.reduceAdd, Nat.reduceLT, Nat.reduceLeDiff, Nat.reduceMul, reduceIte, reduceCtorEq, Int.reduceEq, Int.reduceLT, Int.reduceLE, Int.reduceNe]
  repeat' (first | (simp (disch := omega) only [WA, Nat.reduceEqDiff, Nat.reduceAdd, Nat.reduceLT, Nat.reduceLeDiff, Nat.reduceMul, reduceIte, reduceCtorEq, Int.reduceEq, Int.reduceLT, Int.reduceLE, Int.reduceNe]) | (refine ite_dec (fun _ => ?_) (fun _ => ?_)) | (refine ite_ndec (fun _ => ?_) (fun _ => ?_)) | (refine ite_intro (fun _ => ?_) (fun _ => ?_)) | (refine bind_push ?_) | (refine call_v (nameLow_c _ hs) ?_) | (refine call_v (spec_l1Key_c _) ?_))
  all_goals simp_all [lowM]
theorem impl_lowOk_c (s : ByteArray) (hs : s.size ≤ 1048576) : PCon Try.prog F.impl_lowOk [avB s] (.v (.bool (lowM s))) := by
  refine T.impl_lowOk_con rfl rfl ?_
  simp only [T.impl_lowOk, WA, Nat.reduceEqDiff, Nat.reduceAdd, Nat.reduceLT, Nat.reduceLeDiff, Nat.reduceMul, reduceIte, reduceCtorEq, Int.reduceEq, Int.reduceLT, Int.reduceLE, Int.reduceNe]
  repeat' (first | (simp (disch := omega) only [WA, Nat.reduceEqDiff, Nat.reduceAdd, Nat.reduceLT, Nat.reduceLeDiff, Nat.reduceMul, reduceIte, reduceCtorEq, Int.reduceEq, Int.reduceLT, Int.reduceLE, Int.reduceNe]) | (refine ite_dec (fun _ => ?_) (fun _ => ?_)) | (refine ite_ndec (fun _ => ?_) (fun _ => ?_)) | (refine ite_intro (fun _ => ?_) (fun _ => ?_)) | (refine bind_push ?_) | (refine call_v (impl_isName_c _ _ _ (fun c _ _ => impl_small_c c) hs) ?_) | (refine call_v (impl_isKey_c _) ?_))
  all_goals simp_all [lowM]
end Go.Proofs.Ab
