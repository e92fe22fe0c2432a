/-
  TEXTS OF EXPS, by the reference; PrintExp.
-/
import Derived.Test.YtiakemdoealcoaaGreatDoorCPrint2
set_option linter.unusedVariables false
set_option linter.unusedSimpArgs false
set_option linter.defProp false
namespace Go.Proofs.Ab
open Go.Ab
set_option maxRecDepth 100000
set_option maxHeartbeats 4000000
mutual
theorem spec_l2Great_c (x : VExp) (hx : x.Kind = 10 ∨ x.Kind = 11 ∨ x.Kind = 12 ∨ x.Kind = 13) (hb : x.wt ≤ 1048576) (ho : x.okM = true) (hi : x.ok) : PCon Tryz.prog F.spec_l2Great [x.av] (avB x.form) := by
  have hw := x.wt_eq
  obtain ⟨hh, hk, hka⟩ := VExp.parts ho
  obtain ⟨hr, h1n, h6n, h8n, h9n, h10n, h11n, h12n, h13n, h14n, h15n⟩ := VExp.heads hh
  have hi' := (VExp.ok_iff x).1 hi
  have hi1 := hi'.2.1.2
  have hz := x.sizes ho hi
  have he := x.form_eq
  have hkw : ∀ y ∈ x.Kids, y.wt ≤ 1048576 := fun y hy => by have := le_sum VExp.wt hy; omega
  have hk2 := hi'.2.2.2.1
  have c0 : sComma.size = 2 := rfl
  have c1 : sSp.size = 1 := rfl
  have c2 : sUnit.size = 2 := rfl
  have c4 : (byteB 40).size = 1 := rfl
  have c41 : (byteB 41).size = 1 := rfl
  have c5 : sFun.size = 4 := rfl
  have c6 : sArrow.size = 4 := rfl
  have c7 : sLet.size = 4 := rfl
  have c8 : sLetRec.size = 8 := rfl
  have c9 : sIs.size = 3 := rfl
  have c10 : sIn.size = 4 := rfl
  have c11 : sIf.size = 3 := rfl
  have c12 : sThen.size = 6 := rfl
  have c13 : sElse.size = 6 := rfl
  have c14 : sMatch.size = 6 := rfl
  have c15 : sWith.size = 5 := rfl
  have c16 : sEnd.size = 4 := rfl
  have c17 : sBar.size = 3 := rfl
  refine T.spec_l2Great_con rfl (by simp [AV.norefs, AV.noref, VExp.noref]) ?_
  simp only [T.spec_l2Great, VExp.cells, VExp.isAgg, VExp.storable, WA, Nat.reduceEqDiff, Nat.reduceAdd, Nat.reduceLT, Nat.reduceLeDiff, Nat.reduceMul, reduceIte, reduceCtorEq, Int.reduceEq, Int.reduceLT, Int.reduceLE, Int.reduceNe]
  rcases hx with e | e | e | e
  · have hln := h10n e
    have hm0 : x.Kids[0] ∈ x.Kids := List.getElem_mem _
    have hm1 : x.Kids[1] ∈ x.Kids := List.getElem_mem _
    have hl0 : ∀ k K, elemP 7 (.sl (x.Kids.map VExp.av)) (.v (.int k 0)) K = goT K x.Kids[0].av := fun k K => elem_0 (get_0 (by omega)) VExp.av 7 k K (VExp.width _)
    have hl1 : ∀ k K, elemP 7 (.sl (x.Kids.map VExp.av)) (.v (.int k 1)) K = goT K x.Kids[1].av := fun k K => elem_1 (get_1 (by omega)) VExp.av 7 k K (VExp.width _)
    rw [if_neg (by omega), if_neg (by omega), if_neg (by omega), if_neg (by omega), if_neg (by omega), if_neg (by omega), if_neg (by omega), if_neg (by omega), if_neg (by omega), if_neg (by omega), if_pos (by omega), kid_get _ (by omega), kid_get _ (by omega)] at he
    rw [he] at hz
    simp only [app_size] at hz
    repeat' (first | (simp (disch := (first | omega | rfl | exact rfl | (simp only [cells_v, List.length_cons, List.length_nil]; done) | exact VExp.width _)) only [VExp.cells, VExp.isAgg, VExp.storable, VExp.eta, hl0, hl1, sArrow_l, sSp_l, sUnit_l, sComma_l, b40, b41, sFun_l, sLet_l, sLetRec_l, sIs_l, sIn_l, sIf_l, sThen_l, sElse_l, sMatch_l, sWith_l, sEnd_l, sBar_l, wrapS, wrapA, wrapA1, lt0, WA, Nat.reduceEqDiff, Nat.reduceAdd, Nat.reduceLT, Nat.reduceLeDiff, Nat.reduceMul, reduceIte, reduceCtorEq, Int.reduceEq, Int.reduceLT, Int.reduceLE, Int.reduceNe]) | (refine ite_dec (fun hq => ?_) (fun hq => ?_) <;> (try simp only [hq, decide_true, decide_false, Bool.not_true, Bool.not_false, Bool.not_eq_true', Bool.not_eq_false']) <;> (try (exfalso; omega))) | (refine ite_ndec (fun hq => ?_) (fun hq => ?_) <;> (try simp only [hq, decide_true, decide_false, Bool.not_true, Bool.not_false, Bool.not_eq_true', Bool.not_eq_false']) <;> (try (exfalso; omega))) | (refine ite_intro (fun hq => ?_) (fun hq => ?_) <;> (try simp only [hq, decide_true, decide_false, Bool.not_true, Bool.not_false, Bool.not_eq_true', Bool.not_eq_false']) <;> (try (exfalso; omega))) | (refine bind_push ?_) | (refine call_v (spec_l2Text_c x.Kids[0] 0 (hkw _ hm0) (hk _ hm0) (hk2 _ hm0)) ?_) | (refine call_v (spec_l2Text_c x.Kids[1] 0 (hkw _ hm1) (hk _ hm1) (hk2 _ hm1)) ?_) | (show ((_ : Nat) : Int) ≤ 9223372036854775807 ∧ _; refine ⟨by first | omega | (simp only [app_size]; omega), ?_⟩))
    all_goals first | omega | (simp only [he, appA]; done)
  · have hln := h11n e
    have hm0 : x.Kids[0] ∈ x.Kids := List.getElem_mem _
    have hm1 : x.Kids[1] ∈ x.Kids := List.getElem_mem _
    have hl0 : ∀ k K, elemP 7 (.sl (x.Kids.map VExp.av)) (.v (.int k 0)) K = goT K x.Kids[0].av := fun k K => elem_0 (get_0 (by omega)) VExp.av 7 k K (VExp.width _)
    have hl1 : ∀ k K, elemP 7 (.sl (x.Kids.map VExp.av)) (.v (.int k 1)) K = goT K x.Kids[1].av := fun k K => elem_1 (get_1 (by omega)) VExp.av 7 k K (VExp.width _)
    rw [if_neg (by omega), if_neg (by omega), if_neg (by omega), if_neg (by omega), if_neg (by omega), if_neg (by omega), if_neg (by omega), if_neg (by omega), if_neg (by omega), if_neg (by omega), if_neg (by omega), if_pos (by omega), kid_get _ (by omega), kid_get _ (by omega)] at he
    rw [he] at hz
    simp only [app_size] at hz
    repeat' (first | (simp (disch := (first | omega | rfl | exact rfl | (simp only [cells_v, List.length_cons, List.length_nil]; done) | exact VExp.width _)) only [VExp.cells, VExp.isAgg, VExp.storable, VExp.eta, hl0, hl1, sArrow_l, sSp_l, sUnit_l, sComma_l, b40, b41, sFun_l, sLet_l, sLetRec_l, sIs_l, sIn_l, sIf_l, sThen_l, sElse_l, sMatch_l, sWith_l, sEnd_l, sBar_l, wrapS, wrapA, wrapA1, lt0, WA, Nat.reduceEqDiff, Nat.reduceAdd, Nat.reduceLT, Nat.reduceLeDiff, Nat.reduceMul, reduceIte, reduceCtorEq, Int.reduceEq, Int.reduceLT, Int.reduceLE, Int.reduceNe]) | (refine ite_dec (fun hq => ?_) (fun hq => ?_) <;> (try simp only [hq, decide_true, decide_false, Bool.not_true, Bool.not_false, Bool.not_eq_true', Bool.not_eq_false']) <;> (try (exfalso; omega))) | (refine ite_ndec (fun hq => ?_) (fun hq => ?_) <;> (try simp only [hq, decide_true, decide_false, Bool.not_true, Bool.not_false, Bool.not_eq_true', Bool.not_eq_false']) <;> (try (exfalso; omega))) | (refine ite_intro (fun hq => ?_) (fun hq => ?_) <;> (try simp only [hq, decide_true, decide_false, Bool.not_true, Bool.not_false, Bool.not_eq_true', Bool.not_eq_false']) <;> (try (exfalso; omega))) | (refine bind_push ?_) | (refine call_v (spec_l2Text_c x.Kids[0] 0 (hkw _ hm0) (hk _ hm0) (hk2 _ hm0)) ?_) | (refine call_v (spec_l2Text_c x.Kids[1] 0 (hkw _ hm1) (hk _ hm1) (hk2 _ hm1)) ?_) | (show ((_ : Nat) : Int) ≤ 9223372036854775807 ∧ _; refine ⟨by first | omega | (simp only [app_size]; omega), ?_⟩))
    all_goals first | omega | (simp only [he, appA]; done)
  · have hln := h12n e
    have hm0 : x.Kids[0] ∈ x.Kids := List.getElem_mem _
    have hm1 : x.Kids[1] ∈ x.Kids := List.getElem_mem _
    have hm2 : x.Kids[2] ∈ x.Kids := List.getElem_mem _
    have hl0 : ∀ k K, elemP 7 (.sl (x.Kids.map VExp.av)) (.v (.int k 0)) K = goT K x.Kids[0].av := fun k K => elem_0 (get_0 (by omega)) VExp.av 7 k K (VExp.width _)
    have hl1 : ∀ k K, elemP 7 (.sl (x.Kids.map VExp.av)) (.v (.int k 1)) K = goT K x.Kids[1].av := fun k K => elem_1 (get_1 (by omega)) VExp.av 7 k K (VExp.width _)
    have hl2 : ∀ k K, elemP 7 (.sl (x.Kids.map VExp.av)) (.v (.int k 2)) K = goT K x.Kids[2].av := fun k K => elem_2 (get_2 (by omega)) VExp.av 7 k K (VExp.width _)
    rw [if_neg (by omega), if_neg (by omega), if_neg (by omega), if_neg (by omega), if_neg (by omega), if_neg (by omega), if_neg (by omega), if_neg (by omega), if_neg (by omega), if_neg (by omega), if_neg (by omega), if_neg (by omega), if_pos (by omega), kid_get _ (by omega), kid_get _ (by omega), kid_get _ (by omega)] at he
    rw [he] at hz
    simp only [app_size] at hz
    repeat' (first | (simp (disch := (first | omega | rfl | exact rfl | (simp only [cells_v, List.length_cons, List.length_nil]; done) | exact VExp.width _)) only [VExp.cells, VExp.isAgg, VExp.storable, VExp.eta, hl0, hl1, hl2, sArrow_l, sSp_l, sUnit_l, sComma_l, b40, b41, sFun_l, sLet_l, sLetRec_l, sIs_l, sIn_l, sIf_l, sThen_l, sElse_l, sMatch_l, sWith_l, sEnd_l, sBar_l, wrapS, wrapA, wrapA1, lt0, WA, Nat.reduceEqDiff, Nat.reduceAdd, Nat.reduceLT, Nat.reduceLeDiff, Nat.reduceMul, reduceIte, reduceCtorEq, Int.reduceEq, Int.reduceLT, Int.reduceLE, Int.reduceNe]) | (refine ite_dec (fun hq => ?_) (fun hq => ?_) <;> (try simp only [hq, decide_true, decide_false, Bool.not_true, Bool.not_false, Bool.not_eq_true', Bool.not_eq_false']) <;> (try (exfalso; omega))) | (refine ite_ndec (fun hq => ?_) (fun hq => ?_) <;> (try simp only [hq, decide_true, decide_false, Bool.not_true, Bool.not_false, Bool.not_eq_true', Bool.not_eq_false']) <;> (try (exfalso; omega))) | (refine ite_intro (fun hq => ?_) (fun hq => ?_) <;> (try simp only [hq, decide_true, decide_false, Bool.not_true, Bool.not_false, Bool.not_eq_true', Bool.not_eq_false']) <;> (try (exfalso; omega))) | (refine bind_push ?_) | (refine call_v (spec_l2Text_c x.Kids[0] 0 (hkw _ hm0) (hk _ hm0) (hk2 _ hm0)) ?_) | (refine call_v (spec_l2Text_c x.Kids[1] 0 (hkw _ hm1) (hk _ hm1) (hk2 _ hm1)) ?_) | (refine call_v (spec_l2Text_c x.Kids[2] 0 (hkw _ hm2) (hk _ hm2) (hk2 _ hm2)) ?_) | (show ((_ : Nat) : Int) ≤ 9223372036854775807 ∧ _; refine ⟨by first | omega | (simp only [app_size]; omega), ?_⟩))
    all_goals first | omega | (simp only [he, appA]; done)
  · have hln := h13n e
    have hm0 : x.Kids[0] ∈ x.Kids := List.getElem_mem _
    have hl0 : ∀ k K, elemP 7 (.sl (x.Kids.map VExp.av)) (.v (.int k 0)) K = goT K x.Kids[0].av := fun k K => elem_0 (get_0 (by omega)) VExp.av 7 k K (VExp.width _)
    rw [if_neg (by omega), if_neg (by omega), if_neg (by omega), if_neg (by omega), if_neg (by omega), if_neg (by omega), if_neg (by omega), if_neg (by omega), if_neg (by omega), if_neg (by omega), if_neg (by omega), if_neg (by omega), if_neg (by omega), kid_get _ (by omega)] at he
    rw [he] at hz
    simp only [app_size] at hz
    repeat' (first | (simp (disch := (first | omega | rfl | exact rfl | (simp only [cells_v, List.length_cons, List.length_nil]; done) | exact VExp.width _)) only [VExp.cells, VExp.isAgg, VExp.storable, VExp.eta, hl0, sArrow_l, sSp_l, sUnit_l, sComma_l, b40, b41, sFun_l, sLet_l, sLetRec_l, sIs_l, sIn_l, sIf_l, sThen_l, sElse_l, sMatch_l, sWith_l, sEnd_l, sBar_l, wrapS, wrapA, wrapA1, lt0, WA, Nat.reduceEqDiff, Nat.reduceAdd, Nat.reduceLT, Nat.reduceLeDiff, Nat.reduceMul, reduceIte, reduceCtorEq, Int.reduceEq, Int.reduceLT, Int.reduceLE, Int.reduceNe]) | (refine ite_dec (fun hq => ?_) (fun hq => ?_) <;> (try simp only [hq, decide_true, decide_false, Bool.not_true, Bool.not_false, Bool.not_eq_true', Bool.not_eq_false']) <;> (try (exfalso; omega))) | (refine ite_ndec (fun hq => ?_) (fun hq => ?_) <;> (try simp only [hq, decide_true, decide_false, Bool.not_true, Bool.not_false, Bool.not_eq_true', Bool.not_eq_false']) <;> (try (exfalso; omega))) | (refine ite_intro (fun hq => ?_) (fun hq => ?_) <;> (try simp only [hq, decide_true, decide_false, Bool.not_true, Bool.not_false, Bool.not_eq_true', Bool.not_eq_false']) <;> (try (exfalso; omega))) | (refine bind_push ?_) | (refine call_v (spec_l2Text_c x.Kids[0] 0 (hkw _ hm0) (hk _ hm0) (hk2 _ hm0)) ?_) | (show ((_ : Nat) : Int) ≤ 9223372036854775807 ∧ _; refine ⟨by first | omega | (simp only [app_size]; omega), ?_⟩))
    all_goals first | omega | skip
    refine loop_list x.Arms (fun i (acc : ByteArray) => [avB acc, avI i]) (fun i rest acc => (sMatch ++ x.Kids[0].txt 0 ++ sWith) ++ VArm.bits x.Arms = acc ++ VArm.bits rest) _ rfl rfl (fun i k rest acc hi3 hx hm hel hd hg => ?_) (fun acc hd hg => ?_)
    · have hkw2 := k.wt_eq
      have hkl := le_sum VArm.wt hm
      have hko := hka k hm
      simp only [VArm.okM, Bool.and_eq_true] at hko
      have hkk := (VArm.ok_iff k).1 (hi'.2.2.2.2 k hm)
      have hs1 := VPat.sizes k.P hko.1 hkk.1
      have hs2 := VExp.sizes k.E hko.2 hkk.2
      have hs3 := roundB_size k.P.form k.P.level 0
      have hs4 := roundB_size k.E.form k.E.level 0
      have hs5 : (k.P.txt 0).size ≤ 100000000 := by rw [VPat.txt]; omega
      have hs6 : (k.E.txt 0).size ≤ 100000000 := by rw [VExp.txt]; omega
      have hsz := congrArg ByteArray.size hg
      simp only [app_size] at hsz
      rw [VArm.bits_cons] at hg
      repeat' (first | (simp (disch := (first | omega | rfl | exact rfl | (simp only [cells_v, List.length_cons, List.length_nil]; done) | exact VExp.width _ | exact VArm.width _)) only [hel, hd, VExp.cells, VExp.isAgg, VExp.storable, VExp.eta, VArm.cells, VArm.isAgg, VArm.storable, VArm.eta, VArm.load_P, VPat.eta, VArm.load_E, VExp.eta, VArm.load_P, VArm.load_E, VArm.width, List.length_map, sArrow_l, sSp_l, sUnit_l, sComma_l, b40, b41, sFun_l, sLet_l, sLetRec_l, sIs_l, sIn_l, sIf_l, sThen_l, sElse_l, sMatch_l, sWith_l, sEnd_l, sBar_l, wrapS, wrapA, wrapA1, lt0, WA, Nat.reduceEqDiff, Nat.reduceAdd, Nat.reduceLT, Nat.reduceLeDiff, Nat.reduceMul, reduceIte, reduceCtorEq, Int.reduceEq, Int.reduceLT, Int.reduceLE, Int.reduceNe]) | (simp (disch := (first | omega | rfl | exact rfl | (simp only [cells_v, List.length_cons, List.length_nil]; done) | exact VExp.width _ | exact VArm.width _)) only [hd, VExp.cells, VExp.isAgg, VExp.storable, VExp.eta, VArm.cells, VArm.isAgg, VArm.storable, VArm.eta, VArm.load_P, VPat.eta, VArm.load_E, VExp.eta, VArm.load_P, VArm.load_E, VArm.width, List.length_map, sArrow_l, sSp_l, sUnit_l, sComma_l, b40, b41, sFun_l, sLet_l, sLetRec_l, sIs_l, sIn_l, sIf_l, sThen_l, sElse_l, sMatch_l, sWith_l, sEnd_l, sBar_l, wrapS, wrapA, wrapA1, lt0, WA, Nat.reduceEqDiff, Nat.reduceAdd, Nat.reduceLT, Nat.reduceLeDiff, Nat.reduceMul, reduceIte, reduceCtorEq, Int.reduceEq, Int.reduceLT, Int.reduceLE, Int.reduceNe]) | (simp (disch := (first | omega | rfl | exact rfl | (simp only [cells_v, List.length_cons, List.length_nil]; done) | exact VExp.width _ | exact VArm.width _)) only [VExp.cells, VExp.isAgg, VExp.storable, VExp.eta, VArm.cells, VArm.isAgg, VArm.storable, VArm.eta, VArm.load_P, VPat.eta, VArm.load_E, VExp.eta, VArm.load_P, VArm.load_E, VArm.width, List.length_map, sArrow_l, sSp_l, sUnit_l, sComma_l, b40, b41, sFun_l, sLet_l, sLetRec_l, sIs_l, sIn_l, sIf_l, sThen_l, sElse_l, sMatch_l, sWith_l, sEnd_l, sBar_l, wrapS, wrapA, wrapA1, lt0, WA, Nat.reduceEqDiff, Nat.reduceAdd, Nat.reduceLT, Nat.reduceLeDiff, Nat.reduceMul, reduceIte, reduceCtorEq, Int.reduceEq, Int.reduceLT, Int.reduceLE, Int.reduceNe]) | (refine ite_dec (fun hq => ?_) (fun hq => ?_) <;> (try simp only [hq, decide_true, decide_false, Bool.not_true, Bool.not_false, Bool.not_eq_true', Bool.not_eq_false'])) | (refine ite_ndec (fun hq => ?_) (fun hq => ?_) <;> (try simp only [hq, decide_true, decide_false, Bool.not_true, Bool.not_false, Bool.not_eq_true', Bool.not_eq_false'])) | (refine ite_intro (fun hq => ?_) (fun hq => ?_) <;> (try simp only [hq, decide_true, decide_false, Bool.not_true, Bool.not_false, Bool.not_eq_true', Bool.not_eq_false'])) | (refine bind_push ?_) | (refine call_v (spec_l2PatText_c k.P 0 (by omega) (by omega) hko.1 hkk.1) ?_) | (refine call_v (spec_l2Text_c k.E 0 (by omega) hko.2 hkk.2) ?_) | (refine And.intro (VArm.width_le k (by omega)) ?_) | (show ((_ : Nat) : Int) ≤ 9223372036854775807 ∧ _; refine ⟨by first | omega | (simp only [app_size]; omega), ?_⟩))
      all_goals first | exact ⟨hi3, _, by rw [hg]; simp only [appA], rfl⟩
    · rw [VArm.bits_nil, appE] at hg
      have hsz := congrArg ByteArray.size hg
      simp only [app_size] at hsz
      repeat' (first | (simp (disch := (first | omega | rfl | exact rfl | (simp only [cells_v, List.length_cons, List.length_nil]; done) | exact VExp.width _ | exact VArm.width _)) only [hel, hd, VExp.cells, VExp.isAgg, VExp.storable, VExp.eta, VArm.cells, VArm.isAgg, VArm.storable, VArm.eta, VArm.load_P, VPat.eta, VArm.load_E, VExp.eta, List.length_map, sArrow_l, sSp_l, sUnit_l, sComma_l, b40, b41, sFun_l, sLet_l, sLetRec_l, sIs_l, sIn_l, sIf_l, sThen_l, sElse_l, sMatch_l, sWith_l, sEnd_l, sBar_l, wrapS, wrapA, wrapA1, lt0, WA, Nat.reduceEqDiff, Nat.reduceAdd, Nat.reduceLT, Nat.reduceLeDiff, Nat.reduceMul, reduceIte, reduceCtorEq, Int.reduceEq, Int.reduceLT, Int.reduceLE, Int.reduceNe]) | (simp (disch := (first | omega | rfl | exact rfl | (simp only [cells_v, List.length_cons, List.length_nil]; done) | exact VExp.width _ | exact VArm.width _)) only [hd, VExp.cells, VExp.isAgg, VExp.storable, VExp.eta, VArm.cells, VArm.isAgg, VArm.storable, VArm.eta, VArm.load_P, VPat.eta, VArm.load_E, VExp.eta, List.length_map, sArrow_l, sSp_l, sUnit_l, sComma_l, b40, b41, sFun_l, sLet_l, sLetRec_l, sIs_l, sIn_l, sIf_l, sThen_l, sElse_l, sMatch_l, sWith_l, sEnd_l, sBar_l, wrapS, wrapA, wrapA1, lt0, WA, Nat.reduceEqDiff, Nat.reduceAdd, Nat.reduceLT, Nat.reduceLeDiff, Nat.reduceMul, reduceIte, reduceCtorEq, Int.reduceEq, Int.reduceLT, Int.reduceLE, Int.reduceNe]) | (simp (disch := (first | omega | rfl | exact rfl | (simp only [cells_v, List.length_cons, List.length_nil]; done) | exact VExp.width _ | exact VArm.width _)) only [VExp.cells, VExp.isAgg, VExp.storable, VExp.eta, VArm.cells, VArm.isAgg, VArm.storable, VArm.eta, VArm.load_P, VPat.eta, VArm.load_E, VExp.eta, List.length_map, sArrow_l, sSp_l, sUnit_l, sComma_l, b40, b41, sFun_l, sLet_l, sLetRec_l, sIs_l, sIn_l, sIf_l, sThen_l, sElse_l, sMatch_l, sWith_l, sEnd_l, sBar_l, wrapS, wrapA, wrapA1, lt0, WA, Nat.reduceEqDiff, Nat.reduceAdd, Nat.reduceLT, Nat.reduceLeDiff, Nat.reduceMul, reduceIte, reduceCtorEq, Int.reduceEq, Int.reduceLT, Int.reduceLE, Int.reduceNe]) | (refine ite_dec (fun hq => ?_) (fun hq => ?_) <;> (try simp only [hq, decide_true, decide_false, Bool.not_true, Bool.not_false, Bool.not_eq_true', Bool.not_eq_false'])) | (refine ite_ndec (fun hq => ?_) (fun hq => ?_) <;> (try simp only [hq, decide_true, decide_false, Bool.not_true, Bool.not_false, Bool.not_eq_true', Bool.not_eq_false'])) | (refine ite_intro (fun hq => ?_) (fun hq => ?_) <;> (try simp only [hq, decide_true, decide_false, Bool.not_true, Bool.not_false, Bool.not_eq_true', Bool.not_eq_false'])) | (refine bind_push ?_) | (show ((_ : Nat) : Int) ≤ 9223372036854775807 ∧ _; refine ⟨by first | omega | (simp only [app_size]; omega), ?_⟩))
      rw [he, ← hg]; simp only [appA]
termination_by (SizeOf.sizeOf x, 0)
decreasing_by all_goals first | exact .left _ _ (VExp.Kids_lt hm0) | exact .left _ _ (VExp.Kids_lt hm1) | exact .left _ _ (VExp.Kids_lt hm2) | exact .left _ _ (VArm.E_lt' hm)
theorem spec_l2Form_c (x : VExp) (hb : x.wt ≤ 1048576) (ho : x.okM = true) (hi : x.ok) : PCon Tryz.prog F.spec_l2Form [x.av] (avB x.form) := by
  have hw := x.wt_eq
  obtain ⟨hh, hk, hka⟩ := VExp.parts ho
  obtain ⟨hr, h1n, h6n, h8n, h9n, h10n, h11n, h12n, h13n, h14n, h15n⟩ := VExp.heads hh
  have hi' := (VExp.ok_iff x).1 hi
  have hi1 := hi'.2.1.2
  have hz := x.sizes ho hi
  have he := x.form_eq
  have hkw : ∀ y ∈ x.Kids, y.wt ≤ 1048576 := fun y hy => by have := le_sum VExp.wt hy; omega
  have hk2 := hi'.2.2.2.1
  have c0 : sComma.size = 2 := rfl
  have c1 : sSp.size = 1 := rfl
  have c2 : sUnit.size = 2 := rfl
  have c4 : (byteB 40).size = 1 := rfl
  have c41 : (byteB 41).size = 1 := rfl
  have c5 : sFun.size = 4 := rfl
  have c6 : sArrow.size = 4 := rfl
  have c7 : sLet.size = 4 := rfl
  have c8 : sLetRec.size = 8 := rfl
  have c9 : sIs.size = 3 := rfl
  have c10 : sIn.size = 4 := rfl
  have c11 : sIf.size = 3 := rfl
  have c12 : sThen.size = 6 := rfl
  have c13 : sElse.size = 6 := rfl
  have c14 : sMatch.size = 6 := rfl
  have c15 : sWith.size = 5 := rfl
  have c16 : sEnd.size = 4 := rfl
  have c17 : sBar.size = 3 := rfl
  refine T.spec_l2Form_con rfl (by simp [AV.norefs, AV.noref, VExp.noref]) ?_
  simp only [T.spec_l2Form, VExp.cells, VExp.isAgg, VExp.storable, WA, Nat.reduceEqDiff, Nat.reduceAdd, Nat.reduceLT, Nat.reduceLeDiff, Nat.reduceMul, reduceIte, reduceCtorEq, Int.reduceEq, Int.reduceLT, Int.reduceLE, Int.reduceNe]
  by_cases hop : x.Kind = 10 ∨ x.Kind = 11 ∨ x.Kind = 12 ∨ x.Kind = 13
  · repeat' (first | (simp (disch := (first | omega | rfl | exact rfl | (simp only [cells_v, List.length_cons, List.length_nil]; done) | exact VExp.width _)) only [VExp.cells, VExp.isAgg, VExp.storable, VExp.eta, wrapS, wrapA, wrapA1, lt0, WA, Nat.reduceEqDiff, Nat.reduceAdd, Nat.reduceLT, Nat.reduceLeDiff, Nat.reduceMul, reduceIte, reduceCtorEq, Int.reduceEq, Int.reduceLT, Int.reduceLE, Int.reduceNe]) | (refine ite_dec (fun hq => ?_) (fun hq => ?_) <;> (try simp only [hq, decide_true, decide_false, Bool.not_true, Bool.not_false, Bool.not_eq_true', Bool.not_eq_false']) <;> (try (exfalso; omega))) | (refine ite_ndec (fun hq => ?_) (fun hq => ?_) <;> (try simp only [hq, decide_true, decide_false, Bool.not_true, Bool.not_false, Bool.not_eq_true', Bool.not_eq_false']) <;> (try (exfalso; omega))) | (refine ite_intro (fun hq => ?_) (fun hq => ?_) <;> (try simp only [hq, decide_true, decide_false, Bool.not_true, Bool.not_false, Bool.not_eq_true', Bool.not_eq_false']) <;> (try (exfalso; omega))) | (refine bind_push ?_) | (refine call_v (spec_l2Great_c x hop hb ho hi) ?_))
    all_goals omega
  by_cases h8 : x.Kind = 8
  · have hln := h8n h8
    have hm0 : x.Kids[0] ∈ x.Kids := List.getElem_mem _
    have hl0 : ∀ k K, elemP 7 (.sl (x.Kids.map VExp.av)) (.v (.int k 0)) K = goT K x.Kids[0].av := fun k K => elem_0 (get_0 (by omega)) VExp.av 7 k K (VExp.width _)
    rw [if_neg (by omega), if_neg (by omega), if_neg (by omega), if_neg (by omega), if_neg (by omega), if_neg (by omega), if_neg (by omega), if_pos (by omega), kid_get _ (by omega)] at he
    rw [he] at hz
    simp only [app_size] at hz
    repeat' (first | (simp (disch := (first | omega | rfl | exact rfl | (simp only [cells_v, List.length_cons, List.length_nil]; done) | exact VExp.width _)) only [VExp.cells, VExp.isAgg, VExp.storable, VExp.eta, hl0, sArrow_l, sSp_l, sUnit_l, sComma_l, b40, b41, sFun_l, sLet_l, sLetRec_l, sIs_l, sIn_l, sIf_l, sThen_l, sElse_l, sMatch_l, sWith_l, sEnd_l, sBar_l, wrapS, wrapA, wrapA1, lt0, WA, Nat.reduceEqDiff, Nat.reduceAdd, Nat.reduceLT, Nat.reduceLeDiff, Nat.reduceMul, reduceIte, reduceCtorEq, Int.reduceEq, Int.reduceLT, Int.reduceLE, Int.reduceNe]) | (refine ite_dec (fun hq => ?_) (fun hq => ?_) <;> (try simp only [hq, decide_true, decide_false, Bool.not_true, Bool.not_false, Bool.not_eq_true', Bool.not_eq_false']) <;> (try (exfalso; omega))) | (refine ite_ndec (fun hq => ?_) (fun hq => ?_) <;> (try simp only [hq, decide_true, decide_false, Bool.not_true, Bool.not_false, Bool.not_eq_true', Bool.not_eq_false']) <;> (try (exfalso; omega))) | (refine ite_intro (fun hq => ?_) (fun hq => ?_) <;> (try simp only [hq, decide_true, decide_false, Bool.not_true, Bool.not_false, Bool.not_eq_true', Bool.not_eq_false']) <;> (try (exfalso; omega))) | (refine bind_push ?_) | (refine call_v (spec_l2Text_c x.Kids[0] 0 (hkw _ hm0) (hk _ hm0) (hk2 _ hm0)) ?_) | (show ((_ : Nat) : Int) ≤ 9223372036854775807 ∧ _; refine ⟨by first | omega | (simp only [app_size]; omega), ?_⟩))
    all_goals first | omega | (rw [he]; simp only [appA]; done)
  by_cases h14 : x.Kind = 14
  · have hln := h14n h14
    have ho1 := opLev_range x.Name
    have w1 : IntKind.i64.wrap (opLev x.Name + 1) = opLev x.Name + 1 := wrapI (by omega) (by omega)
    have hm0 : x.Kids[0] ∈ x.Kids := List.getElem_mem _
    have hm1 : x.Kids[1] ∈ x.Kids := List.getElem_mem _
    have hl0 : ∀ k K, elemP 7 (.sl (x.Kids.map VExp.av)) (.v (.int k 0)) K = goT K x.Kids[0].av := fun k K => elem_0 (get_0 (by omega)) VExp.av 7 k K (VExp.width _)
    have hl1 : ∀ k K, elemP 7 (.sl (x.Kids.map VExp.av)) (.v (.int k 1)) K = goT K x.Kids[1].av := fun k K => elem_1 (get_1 (by omega)) VExp.av 7 k K (VExp.width _)
    rw [if_neg (by omega), if_neg (by omega), if_neg (by omega), if_neg (by omega), if_neg (by omega), if_neg (by omega), if_neg (by omega), if_neg (by omega), if_neg (by omega), if_pos (by omega), kid_get _ (by omega), kid_get _ (by omega)] at he
    by_cases h2 : opLev x.Name ≤ 2
    · have hL : opLeft x.Name = opLev x.Name + 1 := by unfold opLeft; rw [if_pos h2]
      rw [hL] at he
      rw [he] at hz
      simp only [app_size] at hz
      repeat' (first | (simp (disch := (first | omega | rfl | exact rfl | (simp only [cells_v, List.length_cons, List.length_nil]; done) | exact VExp.width _)) only [VExp.cells, VExp.isAgg, VExp.storable, VExp.eta, hl0, hl1, w1, sArrow_l, sSp_l, sUnit_l, sComma_l, b40, b41, sFun_l, sLet_l, sLetRec_l, sIs_l, sIn_l, sIf_l, sThen_l, sElse_l, sMatch_l, sWith_l, sEnd_l, sBar_l, wrapS, wrapA, wrapA1, lt0, WA, Nat.reduceEqDiff, Nat.reduceAdd, Nat.reduceLT, Nat.reduceLeDiff, Nat.reduceMul, reduceIte, reduceCtorEq, Int.reduceEq, Int.reduceLT, Int.reduceLE, Int.reduceNe]) | (refine ite_dec (fun hq => ?_) (fun hq => ?_) <;> (try simp only [hq, decide_true, decide_false, Bool.not_true, Bool.not_false, Bool.not_eq_true', Bool.not_eq_false']) <;> (try (exfalso; omega))) | (refine ite_ndec (fun hq => ?_) (fun hq => ?_) <;> (try simp only [hq, decide_true, decide_false, Bool.not_true, Bool.not_false, Bool.not_eq_true', Bool.not_eq_false']) <;> (try (exfalso; omega))) | (refine ite_intro (fun hq => ?_) (fun hq => ?_) <;> (try simp only [hq, decide_true, decide_false, Bool.not_true, Bool.not_false, Bool.not_eq_true', Bool.not_eq_false']) <;> (try (exfalso; omega))) | (refine bind_push ?_) | (refine call_v (spec_l2OpLevel_c _) ?_) | (refine call_v (spec_l2Text_c x.Kids[0] (opLev x.Name + 1) (hkw _ hm0) (hk _ hm0) (hk2 _ hm0)) ?_) | (refine call_v (spec_l2Text_c x.Kids[1] (opLev x.Name + 1) (hkw _ hm1) (hk _ hm1) (hk2 _ hm1)) ?_) | (show ((_ : Nat) : Int) ≤ 9223372036854775807 ∧ _; refine ⟨by first | omega | (simp only [app_size]; omega), ?_⟩))
      all_goals first | omega | (rw [he]; simp only [appA]; done)
    · have hL : opLeft x.Name = opLev x.Name := by unfold opLeft; rw [if_neg h2]
      rw [hL] at he
      rw [he] at hz
      simp only [app_size] at hz
      repeat' (first | (simp (disch := (first | omega | rfl | exact rfl | (simp only [cells_v, List.length_cons, List.length_nil]; done) | exact VExp.width _)) only [VExp.cells, VExp.isAgg, VExp.storable, VExp.eta, hl0, hl1, w1, sArrow_l, sSp_l, sUnit_l, sComma_l, b40, b41, sFun_l, sLet_l, sLetRec_l, sIs_l, sIn_l, sIf_l, sThen_l, sElse_l, sMatch_l, sWith_l, sEnd_l, sBar_l, wrapS, wrapA, wrapA1, lt0, WA, Nat.reduceEqDiff, Nat.reduceAdd, Nat.reduceLT, Nat.reduceLeDiff, Nat.reduceMul, reduceIte, reduceCtorEq, Int.reduceEq, Int.reduceLT, Int.reduceLE, Int.reduceNe]) | (refine ite_dec (fun hq => ?_) (fun hq => ?_) <;> (try simp only [hq, decide_true, decide_false, Bool.not_true, Bool.not_false, Bool.not_eq_true', Bool.not_eq_false']) <;> (try (exfalso; omega))) | (refine ite_ndec (fun hq => ?_) (fun hq => ?_) <;> (try simp only [hq, decide_true, decide_false, Bool.not_true, Bool.not_false, Bool.not_eq_true', Bool.not_eq_false']) <;> (try (exfalso; omega))) | (refine ite_intro (fun hq => ?_) (fun hq => ?_) <;> (try simp only [hq, decide_true, decide_false, Bool.not_true, Bool.not_false, Bool.not_eq_true', Bool.not_eq_false']) <;> (try (exfalso; omega))) | (refine bind_push ?_) | (refine call_v (spec_l2OpLevel_c _) ?_) | (refine call_v (spec_l2Text_c x.Kids[0] (opLev x.Name) (hkw _ hm0) (hk _ hm0) (hk2 _ hm0)) ?_) | (refine call_v (spec_l2Text_c x.Kids[1] (opLev x.Name + 1) (hkw _ hm1) (hk _ hm1) (hk2 _ hm1)) ?_) | (show ((_ : Nat) : Int) ≤ 9223372036854775807 ∧ _; refine ⟨by first | omega | (simp only [app_size]; omega), ?_⟩))
      all_goals first | omega | (rw [he]; simp only [appA]; done)
  by_cases h9 : x.Kind = 9
  · have hln := h9n h9
    have hm0 : x.Kids[0] ∈ x.Kids := List.getElem_mem _
    have hm1 : x.Kids[1] ∈ x.Kids := List.getElem_mem _
    have hl0 : ∀ k K, elemP 7 (.sl (x.Kids.map VExp.av)) (.v (.int k 0)) K = goT K x.Kids[0].av := fun k K => elem_0 (get_0 (by omega)) VExp.av 7 k K (VExp.width _)
    have hl1 : ∀ k K, elemP 7 (.sl (x.Kids.map VExp.av)) (.v (.int k 1)) K = goT K x.Kids[1].av := fun k K => elem_1 (get_1 (by omega)) VExp.av 7 k K (VExp.width _)
    rw [if_neg (by omega), if_neg (by omega), if_neg (by omega), if_neg (by omega), if_neg (by omega), if_neg (by omega), if_neg (by omega), if_neg (by omega), if_pos (by omega), kid_get _ (by omega), kid_get _ (by omega), appAsk_get (by omega)] at he
    have hK : (x.Kids[0].Kids.map VExp.av).length = x.Kids[0].Kids.length := List.length_map _
    by_cases hs : x.Kids[0].Kind = 6 ∧ x.Kids[0].Kids.length = 0
    · rw [if_pos hs] at he
      rw [he] at hz
      simp only [app_size] at hz
      repeat' (first | (simp (disch := (first | omega | rfl | exact rfl | (simp only [cells_v, List.length_cons, List.length_nil]; done) | exact VExp.width _)) only [VExp.cells, VExp.isAgg, VExp.storable, VExp.eta, hl0, hl1, hK, sArrow_l, sSp_l, sUnit_l, sComma_l, b40, b41, sFun_l, sLet_l, sLetRec_l, sIs_l, sIn_l, sIf_l, sThen_l, sElse_l, sMatch_l, sWith_l, sEnd_l, sBar_l, wrapS, wrapA, wrapA1, lt0, WA, Nat.reduceEqDiff, Nat.reduceAdd, Nat.reduceLT, Nat.reduceLeDiff, Nat.reduceMul, reduceIte, reduceCtorEq, Int.reduceEq, Int.reduceLT, Int.reduceLE, Int.reduceNe]) | (refine ite_dec (fun hq => ?_) (fun hq => ?_) <;> (try simp only [hq, decide_true, decide_false, Bool.not_true, Bool.not_false, Bool.not_eq_true', Bool.not_eq_false']) <;> (try (exfalso; omega))) | (refine ite_ndec (fun hq => ?_) (fun hq => ?_) <;> (try simp only [hq, decide_true, decide_false, Bool.not_true, Bool.not_false, Bool.not_eq_true', Bool.not_eq_false']) <;> (try (exfalso; omega))) | (refine ite_intro (fun hq => ?_) (fun hq => ?_) <;> (try simp only [hq, decide_true, decide_false, Bool.not_true, Bool.not_false, Bool.not_eq_true', Bool.not_eq_false']) <;> (try (exfalso; omega))) | (refine bind_push ?_) | (refine call_v (spec_l2Text_c x.Kids[0] 7 (hkw _ hm0) (hk _ hm0) (hk2 _ hm0)) ?_) | (refine call_v (spec_l2Text_c x.Kids[1] 6 (hkw _ hm1) (hk _ hm1) (hk2 _ hm1)) ?_) | (show ((_ : Nat) : Int) ≤ 9223372036854775807 ∧ _; refine ⟨by first | omega | (simp only [app_size]; omega), ?_⟩))
      all_goals first | omega | (rw [he]; simp only [appA]; done)
    · rw [if_neg hs] at he
      rw [he] at hz
      simp only [app_size] at hz
      repeat' (first | (simp (disch := (first | omega | rfl | exact rfl | (simp only [cells_v, List.length_cons, List.length_nil]; done) | exact VExp.width _)) only [VExp.cells, VExp.isAgg, VExp.storable, VExp.eta, hl0, hl1, hK, sArrow_l, sSp_l, sUnit_l, sComma_l, b40, b41, sFun_l, sLet_l, sLetRec_l, sIs_l, sIn_l, sIf_l, sThen_l, sElse_l, sMatch_l, sWith_l, sEnd_l, sBar_l, wrapS, wrapA, wrapA1, lt0, WA, Nat.reduceEqDiff, Nat.reduceAdd, Nat.reduceLT, Nat.reduceLeDiff, Nat.reduceMul, reduceIte, reduceCtorEq, Int.reduceEq, Int.reduceLT, Int.reduceLE, Int.reduceNe]) | (refine ite_dec (fun hq => ?_) (fun hq => ?_) <;> (try simp only [hq, decide_true, decide_false, Bool.not_true, Bool.not_false, Bool.not_eq_true', Bool.not_eq_false']) <;> (try (exfalso; omega))) | (refine ite_ndec (fun hq => ?_) (fun hq => ?_) <;> (try simp only [hq, decide_true, decide_false, Bool.not_true, Bool.not_false, Bool.not_eq_true', Bool.not_eq_false']) <;> (try (exfalso; omega))) | (refine ite_intro (fun hq => ?_) (fun hq => ?_) <;> (try simp only [hq, decide_true, decide_false, Bool.not_true, Bool.not_false, Bool.not_eq_true', Bool.not_eq_false']) <;> (try (exfalso; omega))) | (refine bind_push ?_) | (refine call_v (spec_l2Text_c x.Kids[0] 5 (hkw _ hm0) (hk _ hm0) (hk2 _ hm0)) ?_) | (refine call_v (spec_l2Text_c x.Kids[1] 6 (hkw _ hm1) (hk _ hm1) (hk2 _ hm1)) ?_) | (show ((_ : Nat) : Int) ≤ 9223372036854775807 ∧ _; refine ⟨by first | omega | (simp only [app_size]; omega), ?_⟩))
      all_goals first | omega | (rw [he]; simp only [appA]; done)
  by_cases h615 : (x.Kind = 6 ∨ x.Kind = 15) ∧ x.Kids.length ≠ 0
  · have hln : x.Kids.length = 1 := by omega
    have hm0 : x.Kids[0] ∈ x.Kids := List.getElem_mem _
    have hl0 : ∀ k K, elemP 7 (.sl (x.Kids.map VExp.av)) (.v (.int k 0)) K = goT K x.Kids[0].av := fun k K => elem_0 (get_0 (by omega)) VExp.av 7 k K (VExp.width _)
    rw [if_neg (by omega), if_neg (by omega), if_neg (by omega), if_neg (by omega), if_neg (by omega), if_pos (by omega), if_neg h615.2, kid_get _ (by omega)] at he
    rw [he] at hz
    simp only [app_size] at hz
    repeat' (first | (simp (disch := (first | omega | rfl | exact rfl | (simp only [cells_v, List.length_cons, List.length_nil]; done) | exact VExp.width _)) only [VExp.cells, VExp.isAgg, VExp.storable, VExp.eta, hl0, List.length_map, sArrow_l, sSp_l, sUnit_l, sComma_l, b40, b41, sFun_l, sLet_l, sLetRec_l, sIs_l, sIn_l, sIf_l, sThen_l, sElse_l, sMatch_l, sWith_l, sEnd_l, sBar_l, wrapS, wrapA, wrapA1, lt0, WA, Nat.reduceEqDiff, Nat.reduceAdd, Nat.reduceLT, Nat.reduceLeDiff, Nat.reduceMul, reduceIte, reduceCtorEq, Int.reduceEq, Int.reduceLT, Int.reduceLE, Int.reduceNe]) | (refine ite_dec (fun hq => ?_) (fun hq => ?_) <;> (try simp only [hq, decide_true, decide_false, Bool.not_true, Bool.not_false, Bool.not_eq_true', Bool.not_eq_false']) <;> (try (exfalso; omega))) | (refine ite_ndec (fun hq => ?_) (fun hq => ?_) <;> (try simp only [hq, decide_true, decide_false, Bool.not_true, Bool.not_false, Bool.not_eq_true', Bool.not_eq_false']) <;> (try (exfalso; omega))) | (refine ite_intro (fun hq => ?_) (fun hq => ?_) <;> (try simp only [hq, decide_true, decide_false, Bool.not_true, Bool.not_false, Bool.not_eq_true', Bool.not_eq_false']) <;> (try (exfalso; omega))) | (refine bind_push ?_) | (refine call_v (spec_l2Text_c x.Kids[0] 6 (hkw _ hm0) (hk _ hm0) (hk2 _ hm0)) ?_) | (show ((_ : Nat) : Int) ≤ 9223372036854775807 ∧ _; refine ⟨by first | omega | (simp only [app_size]; omega), ?_⟩))
    all_goals first | omega | (rw [he]; simp only [appA]; done)
  by_cases h7 : x.Kind = 7
  · have hj := joinB_size sComma (x.Kids.map fun y => y.txt 0)
    rw [if_neg (by omega), if_neg (by omega), if_neg (by omega), if_neg (by omega), if_neg (by omega), if_neg (by omega), if_pos (by omega)] at he
    rw [he] at hz
    simp only [app_size] at hz
    repeat' (first | (simp (disch := (first | omega | rfl | exact rfl | (simp only [cells_v, List.length_cons, List.length_nil]; done) | exact VExp.width _)) only [VExp.cells, VExp.isAgg, VExp.storable, VExp.eta, List.length_map, sArrow_l, sSp_l, sUnit_l, sComma_l, b40, b41, sFun_l, sLet_l, sLetRec_l, sIs_l, sIn_l, sIf_l, sThen_l, sElse_l, sMatch_l, sWith_l, sEnd_l, sBar_l, wrapS, wrapA, wrapA1, lt0, WA, Nat.reduceEqDiff, Nat.reduceAdd, Nat.reduceLT, Nat.reduceLeDiff, Nat.reduceMul, reduceIte, reduceCtorEq, Int.reduceEq, Int.reduceLT, Int.reduceLE, Int.reduceNe]) | (refine ite_dec (fun hq => ?_) (fun hq => ?_) <;> (try simp only [hq, decide_true, decide_false, Bool.not_true, Bool.not_false, Bool.not_eq_true', Bool.not_eq_false']) <;> (try (exfalso; omega))) | (refine ite_ndec (fun hq => ?_) (fun hq => ?_) <;> (try simp only [hq, decide_true, decide_false, Bool.not_true, Bool.not_false, Bool.not_eq_true', Bool.not_eq_false']) <;> (try (exfalso; omega))) | (refine ite_intro (fun hq => ?_) (fun hq => ?_) <;> (try simp only [hq, decide_true, decide_false, Bool.not_true, Bool.not_false, Bool.not_eq_true', Bool.not_eq_false']) <;> (try (exfalso; omega))) | (refine bind_push ?_))
    all_goals first | omega | skip
    refine loop_list x.Kids (fun i (acc : ByteArray) => [avB acc, avI i]) (fun i rest acc => byteB 40 ++ joinB sComma (x.Kids.map fun y => y.txt 0) = jrest sComma i acc (rest.map fun y => y.txt 0)) (byteB 40) rfl (by unfold jrest; rw [if_pos rfl]) (fun i k rest acc hi3 hx hm hel hd hg => ?_) (fun acc hd hg => ?_)
    · have hs := (k.sizes (hk k hm) (hk2 k hm))
      have hrs := roundB_size k.form k.level 0
      have ha := jrest_size sComma acc i ((k :: rest).map fun y => y.txt 0)
      rw [← hg, app_size] at ha
      have hkk := hkw k hm
      rw [List.map_cons] at hg
      have hc : (if i = 0 then acc else acc ++ sComma).size ≤ acc.size + 2 := by
        split
        · omega
        · rw [app_size]; omega
      have hts : (k.txt 0).size ≤ 900000000 := by rw [VExp.txt]; omega
      simp only [VExp.cells, List.length_map, hd, WA, Nat.reduceEqDiff, Nat.reduceAdd, Nat.reduceLT, Nat.reduceLeDiff, Nat.reduceMul, reduceIte, reduceCtorEq, Int.reduceEq, Int.reduceLT, Int.reduceLE, Int.reduceNe]
      refine bind_push ?_
      simp only [WA, Nat.reduceEqDiff, Nat.reduceAdd, Nat.reduceLT, Nat.reduceLeDiff, Nat.reduceMul, reduceIte, reduceCtorEq, Int.reduceEq, Int.reduceLT, Int.reduceLE, Int.reduceNe]
      refine bind_post (fun vs => vs = [avB (if i = 0 then acc else acc ++ sComma)]) ?_ ?_
      · simp only [WA, Nat.reduceEqDiff, Nat.reduceAdd, Nat.reduceLT, Nat.reduceLeDiff, Nat.reduceMul, reduceIte, reduceCtorEq, Int.reduceEq, Int.reduceLT, Int.reduceLE, Int.reduceNe]
        refine ite_dec (fun h => ?_) (fun h => ?_)
        · rw [if_neg (by omega)]
          simp only [sComma_l, c0, WA, Nat.reduceEqDiff, Nat.reduceAdd, Nat.reduceLT, Nat.reduceLeDiff, Nat.reduceMul, reduceIte, reduceCtorEq, Int.reduceEq, Int.reduceLT, Int.reduceLE, Int.reduceNe]
          omega
        · rw [if_pos (by omega)]
          simp only [WA, Nat.reduceEqDiff, Nat.reduceAdd, Nat.reduceLT, Nat.reduceLeDiff, Nat.reduceMul, reduceIte, reduceCtorEq, Int.reduceEq, Int.reduceLT, Int.reduceLE, Int.reduceNe]
      · rintro vs rfl _
        repeat' (first | (simp (disch := (first | omega | rfl | exact rfl | (simp only [cells_v, List.length_cons, List.length_nil]; done) | exact VExp.width _)) only [hel, hd, VExp.cells, VExp.isAgg, VExp.storable, VExp.eta, wrapS, wrapA, wrapA1, lt0, WA, Nat.reduceEqDiff, Nat.reduceAdd, Nat.reduceLT, Nat.reduceLeDiff, Nat.reduceMul, reduceIte, reduceCtorEq, Int.reduceEq, Int.reduceLT, Int.reduceLE, Int.reduceNe]) | (simp (disch := (first | omega | rfl | exact rfl | (simp only [cells_v, List.length_cons, List.length_nil]; done) | exact VExp.width _)) only [hd, VExp.cells, VExp.isAgg, VExp.storable, VExp.eta, wrapS, wrapA, wrapA1, lt0, WA, Nat.reduceEqDiff, Nat.reduceAdd, Nat.reduceLT, Nat.reduceLeDiff, Nat.reduceMul, reduceIte, reduceCtorEq, Int.reduceEq, Int.reduceLT, Int.reduceLE, Int.reduceNe]) | (simp (disch := (first | omega | rfl | exact rfl | (simp only [cells_v, List.length_cons, List.length_nil]; done) | exact VExp.width _)) only [VExp.cells, VExp.isAgg, VExp.storable, VExp.eta, wrapS, wrapA, wrapA1, lt0, WA, Nat.reduceEqDiff, Nat.reduceAdd, Nat.reduceLT, Nat.reduceLeDiff, Nat.reduceMul, reduceIte, reduceCtorEq, Int.reduceEq, Int.reduceLT, Int.reduceLE, Int.reduceNe]) | (refine ite_dec (fun hq => ?_) (fun hq => ?_) <;> (try simp only [hq, decide_true, decide_false, Bool.not_true, Bool.not_false, Bool.not_eq_true', Bool.not_eq_false'])) | (refine ite_ndec (fun hq => ?_) (fun hq => ?_) <;> (try simp only [hq, decide_true, decide_false, Bool.not_true, Bool.not_false, Bool.not_eq_true', Bool.not_eq_false'])) | (refine ite_intro (fun hq => ?_) (fun hq => ?_) <;> (try simp only [hq, decide_true, decide_false, Bool.not_true, Bool.not_false, Bool.not_eq_true', Bool.not_eq_false'])) | (refine bind_push ?_) | (refine call_v (spec_l2Text_c k 0 hkk (hk _ hm) (hk2 _ hm)) ?_) | (show ((_ : Nat) : Int) ≤ 9223372036854775807 ∧ _; refine ⟨by first | omega | (simp only [app_size]; omega), ?_⟩))
        refine ⟨hi3, _, ?_, rfl⟩
        by_cases h : i = 0
        · subst h
          rw [hg, jrest_0, if_pos rfl]
        · rw [hg, jrest_s _ _ _ _ _ h, if_neg h]
    · rw [List.map_nil, jrest_nil] at hg
      rw [← hg]
      repeat' (first | (simp (disch := (first | omega | rfl | exact rfl | (simp only [cells_v, List.length_cons, List.length_nil]; done) | exact VExp.width _)) only [hel, hd, VExp.cells, VExp.isAgg, VExp.storable, VExp.eta, List.length_map, sArrow_l, sSp_l, sUnit_l, sComma_l, b40, b41, sFun_l, sLet_l, sLetRec_l, sIs_l, sIn_l, sIf_l, sThen_l, sElse_l, sMatch_l, sWith_l, sEnd_l, sBar_l, wrapS, wrapA, wrapA1, lt0, WA, Nat.reduceEqDiff, Nat.reduceAdd, Nat.reduceLT, Nat.reduceLeDiff, Nat.reduceMul, reduceIte, reduceCtorEq, Int.reduceEq, Int.reduceLT, Int.reduceLE, Int.reduceNe]) | (simp (disch := (first | omega | rfl | exact rfl | (simp only [cells_v, List.length_cons, List.length_nil]; done) | exact VExp.width _)) only [hd, VExp.cells, VExp.isAgg, VExp.storable, VExp.eta, List.length_map, sArrow_l, sSp_l, sUnit_l, sComma_l, b40, b41, sFun_l, sLet_l, sLetRec_l, sIs_l, sIn_l, sIf_l, sThen_l, sElse_l, sMatch_l, sWith_l, sEnd_l, sBar_l, wrapS, wrapA, wrapA1, lt0, WA, Nat.reduceEqDiff, Nat.reduceAdd, Nat.reduceLT, Nat.reduceLeDiff, Nat.reduceMul, reduceIte, reduceCtorEq, Int.reduceEq, Int.reduceLT, Int.reduceLE, Int.reduceNe]) | (simp (disch := (first | omega | rfl | exact rfl | (simp only [cells_v, List.length_cons, List.length_nil]; done) | exact VExp.width _)) only [VExp.cells, VExp.isAgg, VExp.storable, VExp.eta, List.length_map, sArrow_l, sSp_l, sUnit_l, sComma_l, b40, b41, sFun_l, sLet_l, sLetRec_l, sIs_l, sIn_l, sIf_l, sThen_l, sElse_l, sMatch_l, sWith_l, sEnd_l, sBar_l, wrapS, wrapA, wrapA1, lt0, WA, Nat.reduceEqDiff, Nat.reduceAdd, Nat.reduceLT, Nat.reduceLeDiff, Nat.reduceMul, reduceIte, reduceCtorEq, Int.reduceEq, Int.reduceLT, Int.reduceLE, Int.reduceNe]) | (refine ite_dec (fun hq => ?_) (fun hq => ?_) <;> (try simp only [hq, decide_true, decide_false, Bool.not_true, Bool.not_false, Bool.not_eq_true', Bool.not_eq_false'])) | (refine ite_ndec (fun hq => ?_) (fun hq => ?_) <;> (try simp only [hq, decide_true, decide_false, Bool.not_true, Bool.not_false, Bool.not_eq_true', Bool.not_eq_false'])) | (refine ite_intro (fun hq => ?_) (fun hq => ?_) <;> (try simp only [hq, decide_true, decide_false, Bool.not_true, Bool.not_false, Bool.not_eq_true', Bool.not_eq_false'])) | (refine bind_push ?_) | (show ((_ : Nat) : Int) ≤ 9223372036854775807 ∧ _; refine ⟨by first | omega | (simp only [app_size]; omega), ?_⟩))
      rw [he]; simp only [appA]
  repeat' (first | (simp (disch := (first | omega | rfl | exact rfl | (simp only [cells_v, List.length_cons, List.length_nil]; done) | exact VExp.width _)) only [hel, hd, VExp.cells, VExp.isAgg, VExp.storable, VExp.eta, sUnit_l, List.length_map, wrapS, wrapA, wrapA1, lt0, WA, Nat.reduceEqDiff, Nat.reduceAdd, Nat.reduceLT, Nat.reduceLeDiff, Nat.reduceMul, reduceIte, reduceCtorEq, Int.reduceEq, Int.reduceLT, Int.reduceLE, Int.reduceNe]) | (simp (disch := (first | omega | rfl | exact rfl | (simp only [cells_v, List.length_cons, List.length_nil]; done) | exact VExp.width _)) only [hd, VExp.cells, VExp.isAgg, VExp.storable, VExp.eta, sUnit_l, List.length_map, wrapS, wrapA, wrapA1, lt0, WA, Nat.reduceEqDiff, Nat.reduceAdd, Nat.reduceLT, Nat.reduceLeDiff, Nat.reduceMul, reduceIte, reduceCtorEq, Int.reduceEq, Int.reduceLT, Int.reduceLE, Int.reduceNe]) | (simp (disch := (first | omega | rfl | exact rfl | (simp only [cells_v, List.length_cons, List.length_nil]; done) | exact VExp.width _)) only [VExp.cells, VExp.isAgg, VExp.storable, VExp.eta, sUnit_l, List.length_map, wrapS, wrapA, wrapA1, lt0, WA, Nat.reduceEqDiff, Nat.reduceAdd, Nat.reduceLT, Nat.reduceLeDiff, Nat.reduceMul, reduceIte, reduceCtorEq, Int.reduceEq, Int.reduceLT, Int.reduceLE, Int.reduceNe]) | (refine ite_dec (fun hq => ?_) (fun hq => ?_) <;> (try simp only [hq, decide_true, decide_false, Bool.not_true, Bool.not_false, Bool.not_eq_true', Bool.not_eq_false']) <;> (try (exfalso; omega))) | (refine ite_ndec (fun hq => ?_) (fun hq => ?_) <;> (try simp only [hq, decide_true, decide_false, Bool.not_true, Bool.not_false, Bool.not_eq_true', Bool.not_eq_false']) <;> (try (exfalso; omega))) | (refine ite_intro (fun hq => ?_) (fun hq => ?_) <;> (try simp only [hq, decide_true, decide_false, Bool.not_true, Bool.not_false, Bool.not_eq_true', Bool.not_eq_false']) <;> (try (exfalso; omega))) | (refine bind_push ?_) | (refine call_v (spec_l1Decimal_c x.Num (by have := h1n (by omega); omega) hi1) ?_) | (refine call_v (spec_l2Bool_c x.Num) ?_) | (refine call_v (spec_l1Quoted_c _ (by omega)) ?_))
  all_goals first | omega | (rw [he]; simp_all; done) | trace_state
termination_by (SizeOf.sizeOf x, 1)
decreasing_by all_goals first | exact .right _ (by omega) | exact .left _ _ (VExp.Kids_lt hm0) | exact .left _ _ (VExp.Kids_lt hm1) | exact .left _ _ (VExp.Kids_lt hm)
theorem spec_l2Text_c (x : VExp) (a : Int) (hb : x.wt ≤ 1048576) (ho : x.okM = true) (hi : x.ok) : PCon Tryz.prog F.spec_l2Text [x.av, avI a] (avB (x.txt a)) := by
  have hz := x.sizes ho hi
  refine T.spec_l2Text_con rfl (by simp [AV.norefs, AV.noref, VExp.noref]) ?_
  simp only [T.spec_l2Text, VExp.cells, VExp.isAgg, VExp.storable, WA, Nat.reduceEqDiff, Nat.reduceAdd, Nat.reduceLT, Nat.reduceLeDiff, Nat.reduceMul, reduceIte, reduceCtorEq, Int.reduceEq, Int.reduceLT, Int.reduceLE, Int.reduceNe]
  repeat' (first | (simp (disch := (first | omega | rfl | exact rfl | (simp only [cells_v, List.length_cons, List.length_nil]; done) | exact VExp.width _)) only [VExp.cells, VExp.isAgg, VExp.storable, VExp.eta, wrapS, wrapA, wrapA1, lt0, WA, Nat.reduceEqDiff, Nat.reduceAdd, Nat.reduceLT, Nat.reduceLeDiff, Nat.reduceMul, reduceIte, reduceCtorEq, Int.reduceEq, Int.reduceLT, Int.reduceLE, Int.reduceNe]) | (refine ite_dec (fun hq => ?_) (fun hq => ?_) <;> (try simp only [hq, decide_true, decide_false, Bool.not_true, Bool.not_false, Bool.not_eq_true', Bool.not_eq_false'])) | (refine ite_ndec (fun hq => ?_) (fun hq => ?_) <;> (try simp only [hq, decide_true, decide_false, Bool.not_true, Bool.not_false, Bool.not_eq_true', Bool.not_eq_false'])) | (refine ite_intro (fun hq => ?_) (fun hq => ?_) <;> (try simp only [hq, decide_true, decide_false, Bool.not_true, Bool.not_false, Bool.not_eq_true', Bool.not_eq_false'])) | (refine bind_push ?_) | (refine call_v (spec_l2Form_c x hb ho hi) ?_) | (refine call_v (spec_l2Level_c x ho) ?_) | (refine call_v (spec_l2Round_c x.form x.level a (by omega)) ?_))
  rfl
termination_by (SizeOf.sizeOf x, 2)
decreasing_by all_goals exact .right _ (by omega)
end
end Go.Proofs.Ab
