/-
  TEXTS OF EXPS.
-/
import Derived.Test.YtimcinieaeaolaaGreatDoorCPrint
set_option linter.unusedVariables false
set_option linter.unusedSimpArgs false
set_option linter.defProp false
namespace Go.Ab
set_option maxRecDepth 100000
set_option maxHeartbeats 4000000
theorem VExp.parts {x : VExp} (ho : x.okM = true) : x.headM = true ∧ (∀ y ∈ x.Kids, y.okM = true) ∧ ∀ a ∈ x.Arms, a.okM = true := by
  have hq := x.okM_eq
  rw [ho] at hq
  replace hq := hq.symm
  simp only [Bool.and_eq_true, List.all_eq_true] at hq
  exact ⟨hq.1.1, hq.1.2, hq.2⟩
theorem VExp.heads {x : VExp} (h : x.headM = true) : (1 ≤ x.Kind ∧ x.Kind ≤ 15) ∧ (x.Kind = 1 → 0 ≤ x.Num) ∧ (x.Kind = 6 → x.Kids.length ≤ 1) ∧ (x.Kind = 8 → x.Kids.length = 1) ∧ (x.Kind = 9 → x.Kids.length = 2) ∧ (x.Kind = 10 → x.Kids.length = 2) ∧
    (x.Kind = 11 → x.Kids.length = 2) ∧ (x.Kind = 12 → x.Kids.length = 3) ∧ (x.Kind = 13 → x.Kids.length = 1) ∧ (x.Kind = 14 → x.Kids.length = 2) ∧ (x.Kind = 15 → x.Kids.length ≤ 1) := by
  unfold VExp.headM at h
  refine ⟨?_, fun e => ?_, fun e => ?_, fun e => ?_, fun e => ?_, fun e => ?_, fun e => ?_, fun e => ?_, fun e => ?_, fun e => ?_, fun e => ?_⟩
  · by_cases hr : 1 ≤ x.Kind ∧ x.Kind ≤ 15
    · exact hr
    · rw [if_neg (by omega), if_neg (by omega), if_neg (by omega), if_neg (by omega), if_neg (by omega), if_neg (by omega), if_neg (by omega), if_neg (by omega), if_neg (by omega), if_neg (by omega), if_neg (by omega), if_neg (by omega), if_neg (by omega), if_neg (by omega), if_neg (by omega)] at h
      cases h
  all_goals first | (rw [e] at h; simp at h; omega) | (rw [e] at h; simp at h; rcases h.2 with q | q
                                                       · rw [q.2]; simp
                                                       · omega)
end Go.Ab
namespace Go.Proofs.Ab
open Go.Ab
set_option maxRecDepth 100000
set_option maxHeartbeats 4000000
theorem sFun_l : (⟨#[102, 117, 110, 32]⟩ : ByteArray) = sFun := rfl
theorem sLet_l : (⟨#[108, 101, 116, 32]⟩ : ByteArray) = sLet := rfl
theorem sLetRec_l : (⟨#[108, 101, 116, 32, 114, 101, 99, 32]⟩ : ByteArray) = sLetRec := rfl
theorem sIs_l : (⟨#[32, 61, 32]⟩ : ByteArray) = sIs := rfl
theorem sIn_l : (⟨#[32, 105, 110, 32]⟩ : ByteArray) = sIn := rfl
theorem sIf_l : (⟨#[105, 102, 32]⟩ : ByteArray) = sIf := rfl
theorem sThen_l : (⟨#[32, 116, 104, 101, 110, 32]⟩ : ByteArray) = sThen := rfl
theorem sElse_l : (⟨#[32, 101, 108, 115, 101, 32]⟩ : ByteArray) = sElse := rfl
theorem sMatch_l : (⟨#[109, 97, 116, 99, 104, 32]⟩ : ByteArray) = sMatch := rfl
theorem sWith_l : (⟨#[32, 119, 105, 116, 104]⟩ : ByteArray) = sWith := rfl
theorem sEnd_l : (⟨#[32, 101, 110, 100]⟩ : ByteArray) = sEnd := rfl
theorem sBar_l : (⟨#[32, 124, 32]⟩ : ByteArray) = sBar := rfl
theorem impl_opLevels_c (s : ByteArray) : PCon Tryz.prog F.impl_opLevels [avB s] (.tup [avI (opLev s), avI (opLeft s), avI (opLev s + 1)]) := by
  refine T.impl_opLevels_con rfl rfl ?_
  simp only [T.impl_opLevels, WA, Nat.reduceEqDiff, Nat.reduceAdd, Nat.reduceLT, Nat.reduceLeDiff, Nat.reduceMul, reduceIte, reduceCtorEq, Int.reduceEq, Int.reduceLT, Int.reduceLE, Int.reduceNe]
  repeat' (first | (simp (disch := (first | omega | rfl | exact rfl | (simp only [cells_v, List.length_cons, List.length_nil]; done))) only [wrapS, wrapA, wrapA1, lt0, WA, Nat.reduceEqDiff, Nat.reduceAdd, Nat.reduceLT, Nat.reduceLeDiff, Nat.reduceMul, reduceIte, reduceCtorEq, Int.reduceEq, Int.reduceLT, Int.reduceLE, Int.reduceNe]) | (refine ite_dec (fun hq => ?_) (fun hq => ?_) <;> (try simp only [hq, decide_true, decide_false, Bool.not_true, Bool.not_false, Bool.not_eq_true', Bool.not_eq_false'])) | (refine ite_ndec (fun hq => ?_) (fun hq => ?_) <;> (try simp only [hq, decide_true, decide_false, Bool.not_true, Bool.not_false, Bool.not_eq_true', Bool.not_eq_false'])) | (refine ite_intro (fun hq => ?_) (fun hq => ?_) <;> (try simp only [hq, decide_true, decide_false, Bool.not_true, Bool.not_false, Bool.not_eq_true', Bool.not_eq_false'])) | (refine bind_push ?_))
  all_goals simp_all [opLev, opLeft]
theorem appAsk_get {l : List VExp} (h : 0 < l.length) : appAsk l = if l[0].Kind = 6 ∧ l[0].Kids.length = 0 then 7 else 5 := by
  cases l with
  | nil => simp at h
  | cons x r => rfl
theorem txt_6 (x : VExp) (a : Int) (h : x.level = 6) (ha : a ≤ 6) : x.txt a = x.form := by rw [VExp.txt, h, roundB, if_neg (by omega)]
theorem opLev_range (s : ByteArray) : 1 ≤ opLev s ∧ opLev s ≤ 4 := by
  unfold opLev
  split
  · omega
  · split
    · omega
    · split <;> omega
theorem opLeft_range (s : ByteArray) : 1 ≤ opLeft s ∧ opLeft s ≤ 5 := by
  have := opLev_range s
  unfold opLeft
  split <;> omega
mutual
theorem impl_openForm_1_c (x : VExp) (i : Nat) (hl : i < x.Kids.length) (hb : x.wt ≤ 1048576) (ho : x.okM = true) (hi : x.ok) : PCon Tryz.prog F.impl_openForm_1 [avI i, .iptr x.av 0] (avB (x.Kids[i].txt 0)) := by
  have hw := x.wt_eq
  obtain ⟨hh, hk, hka⟩ := VExp.parts ho
  have hi' := (VExp.ok_iff x).1 hi
  have hm : x.Kids[i] ∈ x.Kids := List.getElem_mem _
  have hkw := le_sum VExp.wt hm
  refine T.impl_openForm_1_con rfl (by simp [AV.norefs, AV.noref, VExp.noref]) ?_
  simp only [T.impl_openForm_1, VExp.cells, VExp.isAgg, VExp.storable, WA, Nat.reduceEqDiff, Nat.reduceAdd, Nat.reduceLT, Nat.reduceLeDiff, Nat.reduceMul, reduceIte, reduceCtorEq, Int.reduceEq, Int.reduceLT, Int.reduceLE, Int.reduceNe]
  refine elemM VExp.av hl (VExp.width _) ?_
  repeat' (first | (simp (disch := (first | omega | rfl | exact rfl | (simp only [cells_v, List.length_cons, List.length_nil]; done) | exact VExp.width _)) only [VExp.cells, VExp.isAgg, VExp.storable, VExp.eta, wrapS, wrapA, wrapA1, lt0, WA, Nat.reduceEqDiff, Nat.reduceAdd, Nat.reduceLT, Nat.reduceLeDiff, Nat.reduceMul, reduceIte, reduceCtorEq, Int.reduceEq, Int.reduceLT, Int.reduceLE, Int.reduceNe]) | (refine ite_dec (fun hq => ?_) (fun hq => ?_) <;> (try simp only [hq, decide_true, decide_false, Bool.not_true, Bool.not_false, Bool.not_eq_true', Bool.not_eq_false']) <;> (try (exfalso; omega))) | (refine ite_ndec (fun hq => ?_) (fun hq => ?_) <;> (try simp only [hq, decide_true, decide_false, Bool.not_true, Bool.not_false, Bool.not_eq_true', Bool.not_eq_false']) <;> (try (exfalso; omega))) | (refine ite_intro (fun hq => ?_) (fun hq => ?_) <;> (try simp only [hq, decide_true, decide_false, Bool.not_true, Bool.not_false, Bool.not_eq_true', Bool.not_eq_false']) <;> (try (exfalso; omega))) | (refine bind_push ?_) | (refine call_v (impl_expForm_c x.Kids[i] 0 (by omega) (by omega) (hk _ hm) (hi'.2.2.2.1 _ hm)) ?_))
termination_by (SizeOf.sizeOf x, 0)
decreasing_by all_goals exact .left _ _ (VExp.Kids_lt hm)
theorem impl_openForm_c (x : VExp) (hx : x.Kind = 8 ∨ x.Kind = 10 ∨ x.Kind = 11 ∨ x.Kind = 12 ∨ x.Kind = 13) (hb : x.wt ≤ 1048576) (ho : x.okM = true) (hi : x.ok) : PCon Tryz.prog F.impl_openForm [x.av] (avB x.form) := by
  have hw := x.wt_eq
  obtain ⟨hh, hk, hka⟩ := VExp.parts ho
  obtain ⟨hr, h1n, h6n, h8n, h9n, h10n, h11n, h12n, h13n, h14n, h15n⟩ := VExp.heads hh
  have hi' := (VExp.ok_iff x).1 hi
  have hi1 := hi'.2.1.2
  have hz := x.sizes ho hi
  have he := x.form_eq
  have hkw : ∀ y ∈ x.Kids, y.wt ≤ 1048576 := fun y hy => by have := le_sum VExp.wt hy; omega
  have hk2 := hi'.2.2.2.1
  have c0 : sComma.size = 2 := rfl
  have c1 : sSp.size = 1 := rfl
  have c2 : sUnit.size = 2 := rfl
  have c4 : (byteB 40).size = 1 := rfl
  have c41 : (byteB 41).size = 1 := rfl
  have c5 : sFun.size = 4 := rfl
  have c6 : sArrow.size = 4 := rfl
  have c7 : sLet.size = 4 := rfl
  have c8 : sLetRec.size = 8 := rfl
  have c9 : sIs.size = 3 := rfl
  have c10 : sIn.size = 4 := rfl
  have c11 : sIf.size = 3 := rfl
  have c12 : sThen.size = 6 := rfl
  have c13 : sElse.size = 6 := rfl
  have c14 : sMatch.size = 6 := rfl
  have c15 : sWith.size = 5 := rfl
  have c16 : sEnd.size = 4 := rfl
  have c17 : sBar.size = 3 := rfl
  have hip : AV.iptr (AV.agg [avI x.Kind, avB x.Name, avI x.Num, avB x.Text, avI x.Pos, .sl (x.Kids.map VExp.av), .sl (x.Arms.map VArm.av)]) 0 = .iptr x.av 0 := by rw [VExp.eta]
  refine T.impl_openForm_con rfl (by simp [AV.norefs, AV.noref, VExp.noref]) ?_
  simp only [T.impl_openForm, VExp.cells, VExp.isAgg, VExp.storable, WA, Nat.reduceEqDiff, Nat.reduceAdd, Nat.reduceLT, Nat.reduceLeDiff, Nat.reduceMul, reduceIte, reduceCtorEq, Int.reduceEq, Int.reduceLT, Int.reduceLE, Int.reduceNe]
  rcases hx with e | e | e | e | e
  · have hln := h8n e
    rw [if_neg (by omega), if_neg (by omega), if_neg (by omega), if_neg (by omega), if_neg (by omega), if_neg (by omega), if_neg (by omega), if_pos (by omega), kid_get _ (by omega)] at he
    rw [he] at hz
    simp only [app_size] at hz
    repeat' (first | (simp (disch := (first | omega | rfl | exact rfl | (simp only [cells_v, List.length_cons, List.length_nil]; done) | exact VExp.width _)) only [VExp.cells, VExp.isAgg, VExp.storable, VExp.eta, hip, sArrow_l, sSp_l, sUnit_l, sComma_l, b40, b41, sFun_l, sLet_l, sLetRec_l, sIs_l, sIn_l, sIf_l, sThen_l, sElse_l, sMatch_l, sWith_l, sEnd_l, sBar_l, wrapS, wrapA, wrapA1, lt0, WA, Nat.reduceEqDiff, Nat.reduceAdd, Nat.reduceLT, Nat.reduceLeDiff, Nat.reduceMul, reduceIte, reduceCtorEq, Int.reduceEq, Int.reduceLT, Int.reduceLE, Int.reduceNe]) | (refine ite_dec (fun hq => ?_) (fun hq => ?_) <;> (try simp only [hq, decide_true, decide_false, Bool.not_true, Bool.not_false, Bool.not_eq_true', Bool.not_eq_false']) <;> (try (exfalso; omega))) | (refine ite_ndec (fun hq => ?_) (fun hq => ?_) <;> (try simp only [hq, decide_true, decide_false, Bool.not_true, Bool.not_false, Bool.not_eq_true', Bool.not_eq_false']) <;> (try (exfalso; omega))) | (refine ite_intro (fun hq => ?_) (fun hq => ?_) <;> (try simp only [hq, decide_true, decide_false, Bool.not_true, Bool.not_false, Bool.not_eq_true', Bool.not_eq_false']) <;> (try (exfalso; omega))) | (refine bind_push ?_) | (refine call_v (impl_openForm_1_c x 0 (by omega) hb ho hi) ?_) | (show ((_ : Nat) : Int) ≤ 9223372036854775807 ∧ _; refine ⟨by first | omega | (simp only [app_size]; omega), ?_⟩))
    all_goals first | omega | (simp only [he, appA]; done)
  · have hln := h10n e
    rw [if_neg (by omega), if_neg (by omega), if_neg (by omega), if_neg (by omega), if_neg (by omega), if_neg (by omega), if_neg (by omega), if_neg (by omega), if_neg (by omega), if_neg (by omega), if_pos (by omega), kid_get _ (by omega), kid_get _ (by omega)] at he
    rw [he] at hz
    simp only [app_size] at hz
    repeat' (first | (simp (disch := (first | omega | rfl | exact rfl | (simp only [cells_v, List.length_cons, List.length_nil]; done) | exact VExp.width _)) only [VExp.cells, VExp.isAgg, VExp.storable, VExp.eta, hip, sArrow_l, sSp_l, sUnit_l, sComma_l, b40, b41, sFun_l, sLet_l, sLetRec_l, sIs_l, sIn_l, sIf_l, sThen_l, sElse_l, sMatch_l, sWith_l, sEnd_l, sBar_l, wrapS, wrapA, wrapA1, lt0, WA, Nat.reduceEqDiff, Nat.reduceAdd, Nat.reduceLT, Nat.reduceLeDiff, Nat.reduceMul, reduceIte, reduceCtorEq, Int.reduceEq, Int.reduceLT, Int.reduceLE, Int.reduceNe]) | (refine ite_dec (fun hq => ?_) (fun hq => ?_) <;> (try simp only [hq, decide_true, decide_false, Bool.not_true, Bool.not_false, Bool.not_eq_true', Bool.not_eq_false']) <;> (try (exfalso; omega))) | (refine ite_ndec (fun hq => ?_) (fun hq => ?_) <;> (try simp only [hq, decide_true, decide_false, Bool.not_true, Bool.not_false, Bool.not_eq_true', Bool.not_eq_false']) <;> (try (exfalso; omega))) | (refine ite_intro (fun hq => ?_) (fun hq => ?_) <;> (try simp only [hq, decide_true, decide_false, Bool.not_true, Bool.not_false, Bool.not_eq_true', Bool.not_eq_false']) <;> (try (exfalso; omega))) | (refine bind_push ?_) | (refine call_v (impl_openForm_1_c x 0 (by omega) hb ho hi) ?_) | (refine call_v (impl_openForm_1_c x 1 (by omega) hb ho hi) ?_) | (show ((_ : Nat) : Int) ≤ 9223372036854775807 ∧ _; refine ⟨by first | omega | (simp only [app_size]; omega), ?_⟩))
    all_goals first | omega | (simp only [he, appA]; done)
  · have hln := h11n e
    rw [if_neg (by omega), if_neg (by omega), if_neg (by omega), if_neg (by omega), if_neg (by omega), if_neg (by omega), if_neg (by omega), if_neg (by omega), if_neg (by omega), if_neg (by omega), if_neg (by omega), if_pos (by omega), kid_get _ (by omega), kid_get _ (by omega)] at he
    rw [he] at hz
    simp only [app_size] at hz
    repeat' (first | (simp (disch := (first | omega | rfl | exact rfl | (simp only [cells_v, List.length_cons, List.length_nil]; done) | exact VExp.width _)) only [VExp.cells, VExp.isAgg, VExp.storable, VExp.eta, hip, sArrow_l, sSp_l, sUnit_l, sComma_l, b40, b41, sFun_l, sLet_l, sLetRec_l, sIs_l, sIn_l, sIf_l, sThen_l, sElse_l, sMatch_l, sWith_l, sEnd_l, sBar_l, wrapS, wrapA, wrapA1, lt0, WA, Nat.reduceEqDiff, Nat.reduceAdd, Nat.reduceLT, Nat.reduceLeDiff, Nat.reduceMul, reduceIte, reduceCtorEq, Int.reduceEq, Int.reduceLT, Int.reduceLE, Int.reduceNe]) | (refine ite_dec (fun hq => ?_) (fun hq => ?_) <;> (try simp only [hq, decide_true, decide_false, Bool.not_true, Bool.not_false, Bool.not_eq_true', Bool.not_eq_false']) <;> (try (exfalso; omega))) | (refine ite_ndec (fun hq => ?_) (fun hq => ?_) <;> (try simp only [hq, decide_true, decide_false, Bool.not_true, Bool.not_false, Bool.not_eq_true', Bool.not_eq_false']) <;> (try (exfalso; omega))) | (refine ite_intro (fun hq => ?_) (fun hq => ?_) <;> (try simp only [hq, decide_true, decide_false, Bool.not_true, Bool.not_false, Bool.not_eq_true', Bool.not_eq_false']) <;> (try (exfalso; omega))) | (refine bind_push ?_) | (refine call_v (impl_openForm_1_c x 0 (by omega) hb ho hi) ?_) | (refine call_v (impl_openForm_1_c x 1 (by omega) hb ho hi) ?_) | (show ((_ : Nat) : Int) ≤ 9223372036854775807 ∧ _; refine ⟨by first | omega | (simp only [app_size]; omega), ?_⟩))
    all_goals first | omega | (simp only [he, appA]; done)
  · have hln := h12n e
    rw [if_neg (by omega), if_neg (by omega), if_neg (by omega), if_neg (by omega), if_neg (by omega), if_neg (by omega), if_neg (by omega), if_neg (by omega), if_neg (by omega), if_neg (by omega), if_neg (by omega), if_neg (by omega), if_pos (by omega), kid_get _ (by omega), kid_get _ (by omega), kid_get _ (by omega)] at he
    rw [he] at hz
    simp only [app_size] at hz
    repeat' (first | (simp (disch := (first | omega | rfl | exact rfl | (simp only [cells_v, List.length_cons, List.length_nil]; done) | exact VExp.width _)) only [VExp.cells, VExp.isAgg, VExp.storable, VExp.eta, hip, sArrow_l, sSp_l, sUnit_l, sComma_l, b40, b41, sFun_l, sLet_l, sLetRec_l, sIs_l, sIn_l, sIf_l, sThen_l, sElse_l, sMatch_l, sWith_l, sEnd_l, sBar_l, wrapS, wrapA, wrapA1, lt0, WA, Nat.reduceEqDiff, Nat.reduceAdd, Nat.reduceLT, Nat.reduceLeDiff, Nat.reduceMul, reduceIte, reduceCtorEq, Int.reduceEq, Int.reduceLT, Int.reduceLE, Int.reduceNe]) | (refine ite_dec (fun hq => ?_) (fun hq => ?_) <;> (try simp only [hq, decide_true, decide_false, Bool.not_true, Bool.not_false, Bool.not_eq_true', Bool.not_eq_false']) <;> (try (exfalso; omega))) | (refine ite_ndec (fun hq => ?_) (fun hq => ?_) <;> (try simp only [hq, decide_true, decide_false, Bool.not_true, Bool.not_false, Bool.not_eq_true', Bool.not_eq_false']) <;> (try (exfalso; omega))) | (refine ite_intro (fun hq => ?_) (fun hq => ?_) <;> (try simp only [hq, decide_true, decide_false, Bool.not_true, Bool.not_false, Bool.not_eq_true', Bool.not_eq_false']) <;> (try (exfalso; omega))) | (refine bind_push ?_) | (refine call_v (impl_openForm_1_c x 0 (by omega) hb ho hi) ?_) | (refine call_v (impl_openForm_1_c x 1 (by omega) hb ho hi) ?_) | (refine call_v (impl_openForm_1_c x 2 (by omega) hb ho hi) ?_) | (show ((_ : Nat) : Int) ≤ 9223372036854775807 ∧ _; refine ⟨by first | omega | (simp only [app_size]; omega), ?_⟩))
    all_goals first | omega | (simp only [he, appA]; done)
  · have hln := h13n e
    rw [if_neg (by omega), if_neg (by omega), if_neg (by omega), if_neg (by omega), if_neg (by omega), if_neg (by omega), if_neg (by omega), if_neg (by omega), if_neg (by omega), if_neg (by omega), if_neg (by omega), if_neg (by omega), if_neg (by omega), kid_get _ (by omega)] at he
    rw [he] at hz
    simp only [app_size] at hz
    repeat' (first | (simp (disch := (first | omega | rfl | exact rfl | (simp only [cells_v, List.length_cons, List.length_nil]; done) | exact VExp.width _)) only [VExp.cells, VExp.isAgg, VExp.storable, VExp.eta, hip, sArrow_l, sSp_l, sUnit_l, sComma_l, b40, b41, sFun_l, sLet_l, sLetRec_l, sIs_l, sIn_l, sIf_l, sThen_l, sElse_l, sMatch_l, sWith_l, sEnd_l, sBar_l, wrapS, wrapA, wrapA1, lt0, WA, Nat.reduceEqDiff, Nat.reduceAdd, Nat.reduceLT, Nat.reduceLeDiff, Nat.reduceMul, reduceIte, reduceCtorEq, Int.reduceEq, Int.reduceLT, Int.reduceLE, Int.reduceNe]) | (refine ite_dec (fun hq => ?_) (fun hq => ?_) <;> (try simp only [hq, decide_true, decide_false, Bool.not_true, Bool.not_false, Bool.not_eq_true', Bool.not_eq_false']) <;> (try (exfalso; omega))) | (refine ite_ndec (fun hq => ?_) (fun hq => ?_) <;> (try simp only [hq, decide_true, decide_false, Bool.not_true, Bool.not_false, Bool.not_eq_true', Bool.not_eq_false']) <;> (try (exfalso; omega))) | (refine ite_intro (fun hq => ?_) (fun hq => ?_) <;> (try simp only [hq, decide_true, decide_false, Bool.not_true, Bool.not_false, Bool.not_eq_true', Bool.not_eq_false']) <;> (try (exfalso; omega))) | (refine bind_push ?_) | (refine call_v (impl_openForm_1_c x 0 (by omega) hb ho hi) ?_) | (show ((_ : Nat) : Int) ≤ 9223372036854775807 ∧ _; refine ⟨by first | omega | (simp only [app_size]; omega), ?_⟩))
    all_goals first | omega | skip
    refine loop_list x.Arms (fun i (acc : ByteArray) => [avB acc, avI i]) (fun i rest acc => (sMatch ++ x.Kids[0].txt 0 ++ sWith) ++ VArm.bits x.Arms = acc ++ VArm.bits rest) _ rfl rfl (fun i k rest acc hi3 hx hm hel hd hg => ?_) (fun acc hd hg => ?_)
    · have hkw2 := k.wt_eq
      have hkl := le_sum VArm.wt hm
      have hko := hka k hm
      simp only [VArm.okM, Bool.and_eq_true] at hko
      have hkk := (VArm.ok_iff k).1 (hi'.2.2.2.2 k hm)
      have hs1 := VPat.sizes k.P hko.1 hkk.1
      have hs2 := VExp.sizes k.E hko.2 hkk.2
      have hs3 := roundB_size k.P.form k.P.level 0
      have hs4 := roundB_size k.E.form k.E.level 0
      have hs5 : (k.P.txt 0).size ≤ 100000000 := by rw [VPat.txt]; omega
      have hs6 : (k.E.txt 0).size ≤ 100000000 := by rw [VExp.txt]; omega
      have hsz := congrArg ByteArray.size hg
      simp only [app_size] at hsz
      rw [VArm.bits_cons] at hg
      repeat' (first | (simp (disch := (first | omega | rfl | exact rfl | (simp only [cells_v, List.length_cons, List.length_nil]; done) | exact VExp.width _ | exact VArm.width _)) only [hel, hd, VExp.cells, VExp.isAgg, VExp.storable, VExp.eta, VArm.cells, VArm.isAgg, VArm.storable, VArm.eta, VArm.load_P, VPat.eta, VArm.load_E, VExp.eta, List.length_map, sArrow_l, sSp_l, sUnit_l, sComma_l, b40, b41, sFun_l, sLet_l, sLetRec_l, sIs_l, sIn_l, sIf_l, sThen_l, sElse_l, sMatch_l, sWith_l, sEnd_l, sBar_l, wrapS, wrapA, wrapA1, lt0, WA, Nat.reduceEqDiff, Nat.reduceAdd, Nat.reduceLT, Nat.reduceLeDiff, Nat.reduceMul, reduceIte, reduceCtorEq, Int.reduceEq, Int.reduceLT, Int.reduceLE, Int.reduceNe]) | (simp (disch := (first | omega | rfl | exact rfl | (simp only [cells_v, List.length_cons, List.length_nil]; done) | exact VExp.width _ | exact VArm.width _)) only [hd, VExp.cells, VExp.isAgg, VExp.storable, VExp.eta, VArm.cells, VArm.isAgg, VArm.storable, VArm.eta, VArm.load_P, VPat.eta, VArm.load_E, VExp.eta, List.length_map, sArrow_l, sSp_l, sUnit_l, sComma_l, b40, b41, sFun_l, sLet_l, sLetRec_l, sIs_l, sIn_l, sIf_l, sThen_l, sElse_l, sMatch_l, sWith_l, sEnd_l, sBar_l, wrapS, wrapA, wrapA1, lt0, WA, Nat.reduceEqDiff, Nat.reduceAdd, Nat.reduceLT, Nat.reduceLeDiff, Nat.reduceMul, reduceIte, reduceCtorEq, Int.reduceEq, Int.reduceLT, Int.reduceLE, Int.reduceNe]) | (simp (disch := (first | omega | rfl | exact rfl | (simp only [cells_v, List.length_cons, List.length_nil]; done) | exact VExp.width _ | exact VArm.width _)) only [VExp.cells, VExp.isAgg, VExp.storable, VExp.eta, VArm.cells, VArm.isAgg, VArm.storable, VArm.eta, VArm.load_P, VPat.eta, VArm.load_E, VExp.eta, List.length_map, sArrow_l, sSp_l, sUnit_l, sComma_l, b40, b41, sFun_l, sLet_l, sLetRec_l, sIs_l, sIn_l, sIf_l, sThen_l, sElse_l, sMatch_l, sWith_l, sEnd_l, sBar_l, wrapS, wrapA, wrapA1, lt0, WA, Nat.reduceEqDiff, Nat.reduceAdd, Nat.reduceLT, Nat.reduceLeDiff, Nat.reduceMul, reduceIte, reduceCtorEq, Int.reduceEq, Int.reduceLT, Int.reduceLE, Int.reduceNe]) | (refine ite_dec (fun hq => ?_) (fun hq => ?_) <;> (try simp only [hq, decide_true, decide_false, Bool.not_true, Bool.not_false, Bool.not_eq_true', Bool.not_eq_false']) <;> (try (exfalso; omega))) | (refine ite_ndec (fun hq => ?_) (fun hq => ?_) <;> (try simp only [hq, decide_true, decide_false, Bool.not_true, Bool.not_false, Bool.not_eq_true', Bool.not_eq_false']) <;> (try (exfalso; omega))) | (refine ite_intro (fun hq => ?_) (fun hq => ?_) <;> (try simp only [hq, decide_true, decide_false, Bool.not_true, Bool.not_false, Bool.not_eq_true', Bool.not_eq_false']) <;> (try (exfalso; omega))) | (refine bind_push ?_) | (refine call_v (impl_patForm_c k.P 0 (by omega) (by omega) hko.1 hkk.1) ?_) | (refine call_v (impl_expForm_c k.E 0 (by omega) (by omega) hko.2 hkk.2) ?_) | (show ((_ : Nat) : Int) ≤ 9223372036854775807 ∧ _; refine ⟨by first | omega | (simp only [app_size]; omega), ?_⟩))
      exact ⟨hi3, _, by rw [hg]; simp only [appA], rfl⟩
    · rw [VArm.bits_nil, appE] at hg
      have hsz := congrArg ByteArray.size hg
      simp only [app_size] at hsz
      repeat' (first | (simp (disch := (first | omega | rfl | exact rfl | (simp only [cells_v, List.length_cons, List.length_nil]; done) | exact VExp.width _ | exact VArm.width _)) only [hel, hd, VExp.cells, VExp.isAgg, VExp.storable, VExp.eta, VArm.cells, VArm.isAgg, VArm.storable, VArm.eta, VArm.load_P, VPat.eta, VArm.load_E, VExp.eta, List.length_map, sArrow_l, sSp_l, sUnit_l, sComma_l, b40, b41, sFun_l, sLet_l, sLetRec_l, sIs_l, sIn_l, sIf_l, sThen_l, sElse_l, sMatch_l, sWith_l, sEnd_l, sBar_l, wrapS, wrapA, wrapA1, lt0, WA, Nat.reduceEqDiff, Nat.reduceAdd, Nat.reduceLT, Nat.reduceLeDiff, Nat.reduceMul, reduceIte, reduceCtorEq, Int.reduceEq, Int.reduceLT, Int.reduceLE, Int.reduceNe]) | (simp (disch := (first | omega | rfl | exact rfl | (simp only [cells_v, List.length_cons, List.length_nil]; done) | exact VExp.width _ | exact VArm.width _)) only [hd, VExp.cells, VExp.isAgg, VExp.storable, VExp.eta, VArm.cells, VArm.isAgg, VArm.storable, VArm.eta, VArm.load_P, VPat.eta, VArm.load_E, VExp.eta, List.length_map, sArrow_l, sSp_l, sUnit_l, sComma_l, b40, b41, sFun_l, sLet_l, sLetRec_l, sIs_l, sIn_l, sIf_l, sThen_l, sElse_l, sMatch_l, sWith_l, sEnd_l, sBar_l, wrapS, wrapA, wrapA1, lt0, WA, Nat.reduceEqDiff, Nat.reduceAdd, Nat.reduceLT, Nat.reduceLeDiff, Nat.reduceMul, reduceIte, reduceCtorEq, Int.reduceEq, Int.reduceLT, Int.reduceLE, Int.reduceNe]) | (simp (disch := (first | omega | rfl | exact rfl | (simp only [cells_v, List.length_cons, List.length_nil]; done) | exact VExp.width _ | exact VArm.width _)) only [VExp.cells, VExp.isAgg, VExp.storable, VExp.eta, VArm.cells, VArm.isAgg, VArm.storable, VArm.eta, VArm.load_P, VPat.eta, VArm.load_E, VExp.eta, List.length_map, sArrow_l, sSp_l, sUnit_l, sComma_l, b40, b41, sFun_l, sLet_l, sLetRec_l, sIs_l, sIn_l, sIf_l, sThen_l, sElse_l, sMatch_l, sWith_l, sEnd_l, sBar_l, wrapS, wrapA, wrapA1, lt0, WA, Nat.reduceEqDiff, Nat.reduceAdd, Nat.reduceLT, Nat.reduceLeDiff, Nat.reduceMul, reduceIte, reduceCtorEq, Int.reduceEq, Int.reduceLT, Int.reduceLE, Int.reduceNe]) | (refine ite_dec (fun hq => ?_) (fun hq => ?_) <;> (try simp only [hq, decide_true, decide_false, Bool.not_true, Bool.not_false, Bool.not_eq_true', Bool.not_eq_false']) <;> (try (exfalso; omega))) | (refine ite_ndec (fun hq => ?_) (fun hq => ?_) <;> (try simp only [hq, decide_true, decide_false, Bool.not_true, Bool.not_false, Bool.not_eq_true', Bool.not_eq_false']) <;> (try (exfalso; omega))) | (refine ite_intro (fun hq => ?_) (fun hq => ?_) <;> (try simp only [hq, decide_true, decide_false, Bool.not_true, Bool.not_false, Bool.not_eq_true', Bool.not_eq_false']) <;> (try (exfalso; omega))) | (refine bind_push ?_) | (show ((_ : Nat) : Int) ≤ 9223372036854775807 ∧ _; refine ⟨by first | omega | (simp only [app_size]; omega), ?_⟩))
      rw [he, ← hg]; simp only [appA]
termination_by (SizeOf.sizeOf x, 1)
decreasing_by all_goals first | exact .right _ (by omega) | exact .left _ _ (VArm.E_lt' hm)
theorem impl_expForm_c (x : VExp) (a : Int) (ha : a ≤ 6) (hb : x.wt ≤ 1048576) (ho : x.okM = true) (hi : x.ok) : PCon Tryz.prog F.impl_expForm [x.av, avI a] (avB (x.txt a)) := by
  have hw := x.wt_eq
  obtain ⟨hh, hk, hka⟩ := VExp.parts ho
  obtain ⟨hr, h1n, h6n, h8n, h9n, h10n, h11n, h12n, h13n, h14n, h15n⟩ := VExp.heads hh
  have hi' := (VExp.ok_iff x).1 hi
  have hi1 := hi'.2.1.2
  have hz := x.sizes ho hi
  have he := x.form_eq
  have hkw : ∀ y ∈ x.Kids, y.wt ≤ 1048576 := fun y hy => by have := le_sum VExp.wt hy; omega
  have hk2 := hi'.2.2.2.1
  have c0 : sComma.size = 2 := rfl
  have c1 : sSp.size = 1 := rfl
  have c2 : sUnit.size = 2 := rfl
  have c4 : (byteB 40).size = 1 := rfl
  have c41 : (byteB 41).size = 1 := rfl
  have c5 : sFun.size = 4 := rfl
  have c6 : sArrow.size = 4 := rfl
  have c7 : sLet.size = 4 := rfl
  have c8 : sLetRec.size = 8 := rfl
  have c9 : sIs.size = 3 := rfl
  have c10 : sIn.size = 4 := rfl
  have c11 : sIf.size = 3 := rfl
  have c12 : sThen.size = 6 := rfl
  have c13 : sElse.size = 6 := rfl
  have c14 : sMatch.size = 6 := rfl
  have c15 : sWith.size = 5 := rfl
  have c16 : sEnd.size = 4 := rfl
  have c17 : sBar.size = 3 := rfl
  refine T.impl_expForm_con rfl (by simp [AV.norefs, AV.noref, VExp.noref]) ?_
  simp only [T.impl_expForm, VExp.cells, VExp.isAgg, VExp.storable, WA, Nat.reduceEqDiff, Nat.reduceAdd, Nat.reduceLT, Nat.reduceLeDiff, Nat.reduceMul, reduceIte, reduceCtorEq, Int.reduceEq, Int.reduceLT, Int.reduceLE, Int.reduceNe]
  by_cases hop : x.Kind = 8 ∨ x.Kind = 10 ∨ x.Kind = 11 ∨ x.Kind = 12 ∨ x.Kind = 13
  · have hlev : x.level = 0 := by unfold VExp.level; rw [if_pos hop]
    repeat' (first | (simp (disch := (first | omega | rfl | exact rfl | (simp only [cells_v, List.length_cons, List.length_nil]; done) | exact VExp.width _)) only [VExp.cells, VExp.isAgg, VExp.storable, VExp.eta, wrapS, wrapA, wrapA1, lt0, WA, Nat.reduceEqDiff, Nat.reduceAdd, Nat.reduceLT, Nat.reduceLeDiff, Nat.reduceMul, reduceIte, reduceCtorEq, Int.reduceEq, Int.reduceLT, Int.reduceLE, Int.reduceNe]) | (refine ite_dec (fun hq => ?_) (fun hq => ?_) <;> (try simp only [hq, decide_true, decide_false, Bool.not_true, Bool.not_false, Bool.not_eq_true', Bool.not_eq_false']) <;> (try (exfalso; omega))) | (refine ite_ndec (fun hq => ?_) (fun hq => ?_) <;> (try simp only [hq, decide_true, decide_false, Bool.not_true, Bool.not_false, Bool.not_eq_true', Bool.not_eq_false']) <;> (try (exfalso; omega))) | (refine ite_intro (fun hq => ?_) (fun hq => ?_) <;> (try simp only [hq, decide_true, decide_false, Bool.not_true, Bool.not_false, Bool.not_eq_true', Bool.not_eq_false']) <;> (try (exfalso; omega))) | (refine bind_push ?_) | (refine call_v (impl_openForm_c x hop hb ho hi) ?_) | (refine call_v (impl_bracketed_c x.form 0 a (by omega)) ?_))
    all_goals first | omega | (rw [VExp.txt, hlev]; done)
  by_cases h14 : x.Kind = 14
  · have hlev : x.level = opLev x.Name := by unfold VExp.level; rw [if_neg hop, if_pos h14]
    have hln := h14n h14
    have ho1 := opLev_range x.Name
    have ho2 := opLeft_range x.Name
    have hm0 : x.Kids[0] ∈ x.Kids := List.getElem_mem _
    have hm1 : x.Kids[1] ∈ x.Kids := List.getElem_mem _
    have hl0 : ∀ k K, elemP 7 (.sl (x.Kids.map VExp.av)) (.v (.int k 0)) K = goT K x.Kids[0].av := fun k K => elem_0 (get_0 (by omega)) VExp.av 7 k K (VExp.width _)
    have hl1 : ∀ k K, elemP 7 (.sl (x.Kids.map VExp.av)) (.v (.int k 1)) K = goT K x.Kids[1].av := fun k K => elem_1 (get_1 (by omega)) VExp.av 7 k K (VExp.width _)
    rw [if_neg (by omega), if_neg (by omega), if_neg (by omega), if_neg (by omega), if_neg (by omega), if_neg (by omega), if_neg (by omega), if_neg (by omega), if_neg (by omega), if_pos (by omega), kid_get _ (by omega), kid_get _ (by omega)] at he
    rw [he] at hz
    simp only [app_size] at hz
    repeat' (first | (simp (disch := (first | omega | rfl | exact rfl | (simp only [cells_v, List.length_cons, List.length_nil]; done) | exact VExp.width _)) only [VExp.cells, VExp.isAgg, VExp.storable, VExp.eta, hl0, hl1, sArrow_l, sSp_l, sUnit_l, sComma_l, b40, b41, sFun_l, sLet_l, sLetRec_l, sIs_l, sIn_l, sIf_l, sThen_l, sElse_l, sMatch_l, sWith_l, sEnd_l, sBar_l, wrapS, wrapA, wrapA1, lt0, WA, Nat.reduceEqDiff, Nat.reduceAdd, Nat.reduceLT, Nat.reduceLeDiff, Nat.reduceMul, reduceIte, reduceCtorEq, Int.reduceEq, Int.reduceLT, Int.reduceLE, Int.reduceNe]) | (refine ite_dec (fun hq => ?_) (fun hq => ?_) <;> (try simp only [hq, decide_true, decide_false, Bool.not_true, Bool.not_false, Bool.not_eq_true', Bool.not_eq_false']) <;> (try (exfalso; omega))) | (refine ite_ndec (fun hq => ?_) (fun hq => ?_) <;> (try simp only [hq, decide_true, decide_false, Bool.not_true, Bool.not_false, Bool.not_eq_true', Bool.not_eq_false']) <;> (try (exfalso; omega))) | (refine ite_intro (fun hq => ?_) (fun hq => ?_) <;> (try simp only [hq, decide_true, decide_false, Bool.not_true, Bool.not_false, Bool.not_eq_true', Bool.not_eq_false']) <;> (try (exfalso; omega))) | (refine bind_push ?_) | (refine call_p (impl_opLevels_c x.Name) rfl ?_) | (refine call_v (impl_expForm_c x.Kids[0] (opLeft x.Name) (by omega) (hkw _ hm0) (hk _ hm0) (hk2 _ hm0)) ?_) | (refine call_v (impl_expForm_c x.Kids[1] (opLev x.Name + 1) (by omega) (hkw _ hm1) (hk _ hm1) (hk2 _ hm1)) ?_) | (refine call_v (impl_bracketed_c _ (opLev x.Name) a (by simp only [app_size]; omega)) ?_) | (show ((_ : Nat) : Int) ≤ 9223372036854775807 ∧ _; refine ⟨by first | omega | (simp only [app_size]; omega), ?_⟩))
    all_goals first | omega | (show _ = avB (roundB x.form x.level a); rw [hlev, he]; simp only [appA]; done)
  by_cases h9 : x.Kind = 9
  · have hlev : x.level = 5 := by unfold VExp.level; rw [if_neg hop, if_neg h14, if_pos h9]
    have hln := h9n h9
    have hm0 : x.Kids[0] ∈ x.Kids := List.getElem_mem _
    have hm1 : x.Kids[1] ∈ x.Kids := List.getElem_mem _
    have hl0 : ∀ k K, elemP 7 (.sl (x.Kids.map VExp.av)) (.v (.int k 0)) K = goT K x.Kids[0].av := fun k K => elem_0 (get_0 (by omega)) VExp.av 7 k K (VExp.width _)
    have hl1 : ∀ k K, elemP 7 (.sl (x.Kids.map VExp.av)) (.v (.int k 1)) K = goT K x.Kids[1].av := fun k K => elem_1 (get_1 (by omega)) VExp.av 7 k K (VExp.width _)
    rw [if_neg (by omega), if_neg (by omega), if_neg (by omega), if_neg (by omega), if_neg (by omega), if_neg (by omega), if_neg (by omega), if_neg (by omega), if_pos (by omega), kid_get _ (by omega), kid_get _ (by omega), appAsk_get (by omega)] at he
    have hK : (x.Kids[0].Kids.map VExp.av).length = x.Kids[0].Kids.length := List.length_map _
    by_cases hs : x.Kids[0].Kind = 6 ∧ x.Kids[0].Kids.length = 0
    · have hl6 : x.Kids[0].level = 6 := by
        unfold VExp.level
        rw [if_neg (by omega), if_neg (by omega), if_neg (by omega), if_neg (by omega)]
      have ht7 : x.Kids[0].txt 7 = byteB 40 ++ (x.Kids[0].txt 5 ++ byteB 41) := by
        rw [txt_6 _ 5 hl6 (by omega), VExp.txt, hl6, roundB, if_pos (by omega)]
      rw [if_pos hs, ht7] at he
      rw [he] at hz
      simp only [app_size] at hz
      repeat' (first | (simp (disch := (first | omega | rfl | exact rfl | (simp only [cells_v, List.length_cons, List.length_nil]; done) | exact VExp.width _)) only [VExp.cells, VExp.isAgg, VExp.storable, VExp.eta, hl0, hl1, hK, sArrow_l, sSp_l, sUnit_l, sComma_l, b40, b41, sFun_l, sLet_l, sLetRec_l, sIs_l, sIn_l, sIf_l, sThen_l, sElse_l, sMatch_l, sWith_l, sEnd_l, sBar_l, wrapS, wrapA, wrapA1, lt0, WA, Nat.reduceEqDiff, Nat.reduceAdd, Nat.reduceLT, Nat.reduceLeDiff, Nat.reduceMul, reduceIte, reduceCtorEq, Int.reduceEq, Int.reduceLT, Int.reduceLE, Int.reduceNe]) | (refine ite_dec (fun hq => ?_) (fun hq => ?_) <;> (try simp only [hq, decide_true, decide_false, Bool.not_true, Bool.not_false, Bool.not_eq_true', Bool.not_eq_false']) <;> (try (exfalso; omega))) | (refine ite_ndec (fun hq => ?_) (fun hq => ?_) <;> (try simp only [hq, decide_true, decide_false, Bool.not_true, Bool.not_false, Bool.not_eq_true', Bool.not_eq_false']) <;> (try (exfalso; omega))) | (refine ite_intro (fun hq => ?_) (fun hq => ?_) <;> (try simp only [hq, decide_true, decide_false, Bool.not_true, Bool.not_false, Bool.not_eq_true', Bool.not_eq_false']) <;> (try (exfalso; omega))) | (refine bind_push ?_) | (refine call_v (impl_expForm_c x.Kids[0] 5 (by omega) (hkw _ hm0) (hk _ hm0) (hk2 _ hm0)) ?_) | (refine call_v (impl_expForm_c x.Kids[1] 6 (by omega) (hkw _ hm1) (hk _ hm1) (hk2 _ hm1)) ?_) | (refine call_v (impl_bracketed_c _ 5 a (by simp only [app_size]; omega)) ?_) | (show ((_ : Nat) : Int) ≤ 9223372036854775807 ∧ _; refine ⟨by first | omega | (simp only [app_size]; omega), ?_⟩))
      all_goals first | omega | (show _ = avB (roundB x.form x.level a); rw [hlev, he]; simp only [appA]; done)
    · rw [if_neg hs] at he
      rw [he] at hz
      simp only [app_size] at hz
      repeat' (first | (simp (disch := (first | omega | rfl | exact rfl | (simp only [cells_v, List.length_cons, List.length_nil]; done) | exact VExp.width _)) only [VExp.cells, VExp.isAgg, VExp.storable, VExp.eta, hl0, hl1, hK, sArrow_l, sSp_l, sUnit_l, sComma_l, b40, b41, sFun_l, sLet_l, sLetRec_l, sIs_l, sIn_l, sIf_l, sThen_l, sElse_l, sMatch_l, sWith_l, sEnd_l, sBar_l, wrapS, wrapA, wrapA1, lt0, WA, Nat.reduceEqDiff, Nat.reduceAdd, Nat.reduceLT, Nat.reduceLeDiff, Nat.reduceMul, reduceIte, reduceCtorEq, Int.reduceEq, Int.reduceLT, Int.reduceLE, Int.reduceNe]) | (refine ite_dec (fun hq => ?_) (fun hq => ?_) <;> (try simp only [hq, decide_true, decide_false, Bool.not_true, Bool.not_false, Bool.not_eq_true', Bool.not_eq_false']) <;> (try (exfalso; omega))) | (refine ite_ndec (fun hq => ?_) (fun hq => ?_) <;> (try simp only [hq, decide_true, decide_false, Bool.not_true, Bool.not_false, Bool.not_eq_true', Bool.not_eq_false']) <;> (try (exfalso; omega))) | (refine ite_intro (fun hq => ?_) (fun hq => ?_) <;> (try simp only [hq, decide_true, decide_false, Bool.not_true, Bool.not_false, Bool.not_eq_true', Bool.not_eq_false']) <;> (try (exfalso; omega))) | (refine bind_push ?_) | (refine call_v (impl_expForm_c x.Kids[0] 5 (by omega) (hkw _ hm0) (hk _ hm0) (hk2 _ hm0)) ?_) | (refine call_v (impl_expForm_c x.Kids[1] 6 (by omega) (hkw _ hm1) (hk _ hm1) (hk2 _ hm1)) ?_) | (refine call_v (impl_bracketed_c _ 5 a (by simp only [app_size]; omega)) ?_) | (show ((_ : Nat) : Int) ≤ 9223372036854775807 ∧ _; refine ⟨by first | omega | (simp only [app_size]; omega), ?_⟩))
      all_goals first | omega | (show _ = avB (roundB x.form x.level a); rw [hlev, he]; simp only [appA]; done)
  by_cases h615 : (x.Kind = 6 ∨ x.Kind = 15) ∧ x.Kids.length ≠ 0
  · have hlev : x.level = 5 := by unfold VExp.level; rw [if_neg hop, if_neg h14, if_neg h9, if_pos h615]
    have hln : x.Kids.length = 1 := by omega
    have hm0 : x.Kids[0] ∈ x.Kids := List.getElem_mem _
    have hl0 : ∀ k K, elemP 7 (.sl (x.Kids.map VExp.av)) (.v (.int k 0)) K = goT K x.Kids[0].av := fun k K => elem_0 (get_0 (by omega)) VExp.av 7 k K (VExp.width _)
    rw [if_neg (by omega), if_neg (by omega), if_neg (by omega), if_neg (by omega), if_neg (by omega), if_pos (by omega), if_neg h615.2, kid_get _ (by omega)] at he
    rw [he] at hz
    simp only [app_size] at hz
    repeat' (first | (simp (disch := (first | omega | rfl | exact rfl | (simp only [cells_v, List.length_cons, List.length_nil]; done) | exact VExp.width _)) only [VExp.cells, VExp.isAgg, VExp.storable, VExp.eta, hl0, List.length_map, sArrow_l, sSp_l, sUnit_l, sComma_l, b40, b41, sFun_l, sLet_l, sLetRec_l, sIs_l, sIn_l, sIf_l, sThen_l, sElse_l, sMatch_l, sWith_l, sEnd_l, sBar_l, wrapS, wrapA, wrapA1, lt0, WA, Nat.reduceEqDiff, Nat.reduceAdd, Nat.reduceLT, Nat.reduceLeDiff, Nat.reduceMul, reduceIte, reduceCtorEq, Int.reduceEq, Int.reduceLT, Int.reduceLE, Int.reduceNe]) | (refine ite_dec (fun hq => ?_) (fun hq => ?_) <;> (try simp only [hq, decide_true, decide_false, Bool.not_true, Bool.not_false, Bool.not_eq_true', Bool.not_eq_false']) <;> (try (exfalso; omega))) | (refine ite_ndec (fun hq => ?_) (fun hq => ?_) <;> (try simp only [hq, decide_true, decide_false, Bool.not_true, Bool.not_false, Bool.not_eq_true', Bool.not_eq_false']) <;> (try (exfalso; omega))) | (refine ite_intro (fun hq => ?_) (fun hq => ?_) <;> (try simp only [hq, decide_true, decide_false, Bool.not_true, Bool.not_false, Bool.not_eq_true', Bool.not_eq_false']) <;> (try (exfalso; omega))) | (refine bind_push ?_) | (refine call_v (impl_expForm_c x.Kids[0] 6 (by omega) (hkw _ hm0) (hk _ hm0) (hk2 _ hm0)) ?_) | (refine call_v (impl_bracketed_c _ 5 a (by simp only [app_size]; omega)) ?_) | (show ((_ : Nat) : Int) ≤ 9223372036854775807 ∧ _; refine ⟨by first | omega | (simp only [app_size]; omega), ?_⟩))
    all_goals first | omega | (show _ = avB (roundB x.form x.level a); rw [hlev, he]; simp only [appA]; done)
  have hlev : x.level = 6 := by unfold VExp.level; rw [if_neg hop, if_neg h14, if_neg h9, if_neg h615]
  rw [txt_6 x a hlev ha]
  by_cases h7 : x.Kind = 7
  · have hj := joinB_size sComma (x.Kids.map fun y => y.txt 0)
    rw [if_neg (by omega), if_neg (by omega), if_neg (by omega), if_neg (by omega), if_neg (by omega), if_neg (by omega), if_pos (by omega)] at he
    rw [he] at hz
    simp only [app_size] at hz
    repeat' (first | (simp (disch := (first | omega | rfl | exact rfl | (simp only [cells_v, List.length_cons, List.length_nil]; done) | exact VExp.width _)) only [VExp.cells, VExp.isAgg, VExp.storable, VExp.eta, List.length_map, sArrow_l, sSp_l, sUnit_l, sComma_l, b40, b41, sFun_l, sLet_l, sLetRec_l, sIs_l, sIn_l, sIf_l, sThen_l, sElse_l, sMatch_l, sWith_l, sEnd_l, sBar_l, wrapS, wrapA, wrapA1, lt0, WA, Nat.reduceEqDiff, Nat.reduceAdd, Nat.reduceLT, Nat.reduceLeDiff, Nat.reduceMul, reduceIte, reduceCtorEq, Int.reduceEq, Int.reduceLT, Int.reduceLE, Int.reduceNe]) | (refine ite_dec (fun hq => ?_) (fun hq => ?_) <;> (try simp only [hq, decide_true, decide_false, Bool.not_true, Bool.not_false, Bool.not_eq_true', Bool.not_eq_false']) <;> (try (exfalso; omega))) | (refine ite_ndec (fun hq => ?_) (fun hq => ?_) <;> (try simp only [hq, decide_true, decide_false, Bool.not_true, Bool.not_false, Bool.not_eq_true', Bool.not_eq_false']) <;> (try (exfalso; omega))) | (refine ite_intro (fun hq => ?_) (fun hq => ?_) <;> (try simp only [hq, decide_true, decide_false, Bool.not_true, Bool.not_false, Bool.not_eq_true', Bool.not_eq_false']) <;> (try (exfalso; omega))) | (refine bind_push ?_) | (refine call_v (impl_forms_Exp_c x.Kids F.impl_expForm (fun y => y.txt 0) 0 sComma (by omega) (by omega) (fun y hy => impl_expForm_c y 0 (by omega) (hkw _ hy) (hk _ hy) (hk2 _ hy))) ?_) | (show ((_ : Nat) : Int) ≤ 9223372036854775807 ∧ _; refine ⟨by first | omega | (simp only [app_size]; omega), ?_⟩))
    all_goals first | omega | (rw [he]; simp only [appA]; done)
  repeat' (first | (simp (disch := (first | omega | rfl | exact rfl | (simp only [cells_v, List.length_cons, List.length_nil]; done) | exact VExp.width _)) only [VExp.cells, VExp.isAgg, VExp.storable, VExp.eta, sUnit_l, List.length_map, wrapS, wrapA, wrapA1, lt0, WA, Nat.reduceEqDiff, Nat.reduceAdd, Nat.reduceLT, Nat.reduceLeDiff, Nat.reduceMul, reduceIte, reduceCtorEq, Int.reduceEq, Int.reduceLT, Int.reduceLE, Int.reduceNe]) | (refine ite_dec (fun hq => ?_) (fun hq => ?_) <;> (try simp only [hq, decide_true, decide_false, Bool.not_true, Bool.not_false, Bool.not_eq_true', Bool.not_eq_false']) <;> (try (exfalso; omega))) | (refine ite_ndec (fun hq => ?_) (fun hq => ?_) <;> (try simp only [hq, decide_true, decide_false, Bool.not_true, Bool.not_false, Bool.not_eq_true', Bool.not_eq_false']) <;> (try (exfalso; omega))) | (refine ite_intro (fun hq => ?_) (fun hq => ?_) <;> (try simp only [hq, decide_true, decide_false, Bool.not_true, Bool.not_false, Bool.not_eq_true', Bool.not_eq_false']) <;> (try (exfalso; omega))) | (refine bind_push ?_) | (refine call_v (itoa_c x.Num (by have := h1n (by omega); omega) hi1) ?_) | (refine call_v (impl_boolWord_c x.Num) ?_) | (refine call_v (impl_quoted_c _ (by omega)) ?_))
  all_goals first | omega | (rw [he]; simp_all; done) | trace_state
termination_by (SizeOf.sizeOf x, 2)
decreasing_by all_goals first | exact .right _ (by omega) | exact .left _ _ (VExp.Kids_lt hm0) | exact .left _ _ (VExp.Kids_lt hm1) | exact .left _ _ (VExp.Kids_lt hy)
end
end Go.Proofs.Ab
