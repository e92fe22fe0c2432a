/-
  TEXTS OF PATTERNS.
-/
import Derived.Test.YtimcinieaeaolaaGreatDoorCTyText
import Derived.Test.YtimcinieaeaolaaGreatDoorCExp2
set_option linter.unusedVariables false
set_option linter.unusedSimpArgs false
set_option linter.defProp false
namespace Go.Ab
set_option maxRecDepth 100000
set_option maxHeartbeats 4000000
theorem VPat.parts {x : VPat} (ho : x.okM = true) : x.headP = true ∧ ∀ y ∈ x.Kids, y.okM = true := by
  have hq := x.okM_eq
  rw [ho] at hq
  replace hq := hq.symm
  simpa only [Bool.and_eq_true, List.all_eq_true] using hq
theorem VPat.heads {x : VPat} (h : x.headP = true) : (1 ≤ x.Kind ∧ x.Kind ≤ 7) ∧ (x.Kind = 3 → 0 ≤ x.Num) ∧ (x.Kind = 7 → x.Kids.length ≤ 1) := by
  unfold VPat.headP at h
  refine ⟨?_, fun e => ?_, fun e => ?_⟩
  · by_cases h1 : x.Kind = 1 ∨ x.Kind = 5
    · omega
    · by_cases h2 : x.Kind = 2
      · omega
      · by_cases h3 : x.Kind = 3
        · omega
        · by_cases h4 : x.Kind = 4
          · omega
          · by_cases h6 : x.Kind = 6
            · omega
            · by_cases h7 : x.Kind = 7
              · omega
              · simp [h1, h2, h3, h4, h6, h7] at h
  · simp [e] at h; omega
  · simp [e] at h; omega
end Go.Ab
namespace Go.Proofs.Ab
open Go.Ab
set_option maxRecDepth 100000
set_option maxHeartbeats 4000000
theorem sUnit_l : (⟨#[40, 41]⟩ : ByteArray) = sUnit := rfl
theorem sComma_l : (⟨#[44, 32]⟩ : ByteArray) = sComma := rfl
theorem b95_l : (⟨#[95]⟩ : ByteArray) = byteB 95 := rfl
theorem impl_boolWord_c (n : Int) : PCon Tryz.prog F.impl_boolWord [avI n] (avB (boolB n)) := by
  refine T.impl_boolWord_con rfl rfl ?_
  simp only [T.impl_boolWord, WA, Nat.reduceEqDiff, Nat.reduceAdd, Nat.reduceLT, Nat.reduceLeDiff, Nat.reduceMul, reduceIte, reduceCtorEq, Int.reduceEq, Int.reduceLT, Int.reduceLE, Int.reduceNe]
  repeat' (first | (simp (disch := (first | omega | rfl | exact rfl | (simp only [cells_v, List.length_cons, List.length_nil]; done))) only [wrapS, wrapA, wrapA1, lt0, WA, Nat.reduceEqDiff, Nat.reduceAdd, Nat.reduceLT, Nat.reduceLeDiff, Nat.reduceMul, reduceIte, reduceCtorEq, Int.reduceEq, Int.reduceLT, Int.reduceLE, Int.reduceNe]) | (refine ite_dec (fun hq => ?_) (fun hq => ?_) <;> (try simp only [hq, decide_true, decide_false, Bool.not_true, Bool.not_false, Bool.not_eq_true', Bool.not_eq_false'])) | (refine ite_ndec (fun hq => ?_) (fun hq => ?_) <;> (try simp only [hq, decide_true, decide_false, Bool.not_true, Bool.not_false, Bool.not_eq_true', Bool.not_eq_false'])) | (refine ite_intro (fun hq => ?_) (fun hq => ?_) <;> (try simp only [hq, decide_true, decide_false, Bool.not_true, Bool.not_false, Bool.not_eq_true', Bool.not_eq_false'])) | (refine bind_push ?_))
  all_goals simp_all [boolB]
theorem impl_forms_Pat_c (l : List VPat) (g : FuncId) (f : VPat → ByteArray) (a : Int) (sep : ByteArray) (hl : l.length ≤ 1073741824) (hz : (joinB sep (l.map f)).size ≤ 1000000000) (hc : ∀ x ∈ l, PCon Tryz.prog g [x.av, avI a] (avB (f x))) :
    PCon Tryz.prog F.impl_forms_impl_Pat [.sl (l.map VPat.av), avI a, avB sep, .fn g []] (avB (joinB sep (l.map f))) :=
  T.impl_forms_impl_Pat_con rfl (by have hL : AV.norefs (l.map VPat.av) = true := norefsM (f := VPat.av) VPat.noref
                                    simp [AV.norefs, AV.noref, hL])
    (forms_T (fun x => VPat.shape x) hl hc (join_c (l.map f) sep (by simp; omega) (by omega)))
theorem impl_forms_Exp_c (l : List VExp) (g : FuncId) (f : VExp → ByteArray) (a : Int) (sep : ByteArray) (hl : l.length ≤ 1073741824) (hz : (joinB sep (l.map f)).size ≤ 1000000000) (hc : ∀ x ∈ l, PCon Tryz.prog g [x.av, avI a] (avB (f x))) :
    PCon Tryz.prog F.impl_forms_impl_Exp [.sl (l.map VExp.av), avI a, avB sep, .fn g []] (avB (joinB sep (l.map f))) :=
  T.impl_forms_impl_Exp_con rfl (by have hL : AV.norefs (l.map VExp.av) = true := norefsM (f := VExp.av) VExp.noref
                                    simp [AV.norefs, AV.noref, hL])
    (forms_T (fun x => VExp.shape x) hl hc (join_c (l.map f) sep (by simp; omega) (by omega)))
theorem impl_patForm_c (x : VPat) (a : Int) (ha : a ≤ 1) (hb : x.wt ≤ 1048576) (ho : x.okM = true) (hi : x.ok) : PCon Tryz.prog F.impl_patForm [x.av, avI a] (avB (x.txt a)) := by
  have hw := x.wt_eq
  obtain ⟨hh, hk⟩ := VPat.parts ho
  obtain ⟨hr, h3n, h7n⟩ := VPat.heads hh
  have hi' := (VPat.ok_iff x).1 hi
  have hi1 := hi'.2.1.2
  have hz := x.sizes ho hi
  have he := x.form_eq
  have hkw : ∀ y ∈ x.Kids, y.wt ≤ 1048576 := fun y hy => by have := le_sum VPat.wt hy; omega
  have hk2 := hi'.2.2.2
  have c1 : sComma.size = 2 := rfl
  have c2 : sSp.size = 1 := rfl
  have c4 : (byteB 40).size = 1 := rfl
  have c5 : (byteB 41).size = 1 := rfl
  refine T.impl_patForm_con rfl (by simp [AV.norefs, AV.noref, VPat.noref]) ?_
  simp only [T.impl_patForm, VPat.cells, VPat.isAgg, VPat.storable, WA, Nat.reduceEqDiff, Nat.reduceAdd, Nat.reduceLT, Nat.reduceLeDiff, Nat.reduceMul, reduceIte, reduceCtorEq, Int.reduceEq, Int.reduceLT, Int.reduceLE, Int.reduceNe]
  by_cases h7 : x.Kind = 7 ∧ x.Kids.length ≠ 0
  · have hlev : x.level = 0 := by unfold VPat.level; rw [if_pos h7]
    have hl1 := h7n h7.1
    have hm0 : x.Kids[0] ∈ x.Kids := List.getElem_mem _
    have hl0 : ∀ k K, elemP 5 (.sl (x.Kids.map VPat.av)) (.v (.int k 0)) K = goT K x.Kids[0].av := fun k K => elem_0 (get_0 (by omega)) VPat.av 5 k K (VPat.width _)
    rw [if_neg (by omega), if_neg (by omega), if_neg (by omega), if_neg (by omega), if_neg (by omega), if_pos h7.1, if_neg h7.2, kid_get _ (by omega)] at he
    rw [he] at hz
    simp only [app_size] at hz
    repeat' (first | (simp (disch := (first | omega | rfl | exact rfl | (simp only [cells_v, List.length_cons, List.length_nil]; done) | exact VPat.width _)) only [VPat.cells, VPat.isAgg, VPat.storable, VPat.eta, hl0, sSp_l, List.length_map, wrapS, wrapA, wrapA1, lt0, WA, Nat.reduceEqDiff, Nat.reduceAdd, Nat.reduceLT, Nat.reduceLeDiff, Nat.reduceMul, reduceIte, reduceCtorEq, Int.reduceEq, Int.reduceLT, Int.reduceLE, Int.reduceNe]) | (refine ite_dec (fun hq => ?_) (fun hq => ?_) <;> (try simp only [hq, decide_true, decide_false, Bool.not_true, Bool.not_false, Bool.not_eq_true', Bool.not_eq_false'])) | (refine ite_ndec (fun hq => ?_) (fun hq => ?_) <;> (try simp only [hq, decide_true, decide_false, Bool.not_true, Bool.not_false, Bool.not_eq_true', Bool.not_eq_false'])) | (refine ite_intro (fun hq => ?_) (fun hq => ?_) <;> (try simp only [hq, decide_true, decide_false, Bool.not_true, Bool.not_false, Bool.not_eq_true', Bool.not_eq_false'])) | (refine bind_push ?_) | (refine call_v (impl_patForm_c x.Kids[0] 1 (by omega) (hkw _ hm0) (hk _ hm0) (hk2 _ hm0)) ?_) | (refine call_v (impl_bracketed_c _ 0 a (by simp only [app_size]; omega)) ?_) | (show ((_ : Nat) : Int) ≤ 9223372036854775807 ∧ _; refine ⟨by first | omega | (simp only [app_size]; omega), ?_⟩))
    all_goals first | omega | (simp only [VPat.txt, hlev, he, appA]; done)
  have hlev : x.level = 1 := by unfold VPat.level; rw [if_neg h7]
  have htx : x.txt a = x.form := by rw [VPat.txt, hlev, roundB, if_neg (by omega)]
  have hj := joinB_size sComma (x.Kids.map fun y => y.txt 0)
  rw [htx]
  by_cases h6 : x.Kind = 6
  · rw [if_neg (by omega), if_neg (by omega), if_neg (by omega), if_neg (by omega), if_pos h6] at he
    rw [he] at hz
    simp only [app_size] at hz
    repeat' (first | (simp (disch := (first | omega | rfl | exact rfl | (simp only [cells_v, List.length_cons, List.length_nil]; done) | exact VPat.width _)) only [VPat.cells, VPat.isAgg, VPat.storable, VPat.eta, sComma_l, b40, b41, wrapS, wrapA, wrapA1, lt0, WA, Nat.reduceEqDiff, Nat.reduceAdd, Nat.reduceLT, Nat.reduceLeDiff, Nat.reduceMul, reduceIte, reduceCtorEq, Int.reduceEq, Int.reduceLT, Int.reduceLE, Int.reduceNe]) | (refine ite_dec (fun hq => ?_) (fun hq => ?_) <;> (try simp only [hq, decide_true, decide_false, Bool.not_true, Bool.not_false, Bool.not_eq_true', Bool.not_eq_false'])) | (refine ite_ndec (fun hq => ?_) (fun hq => ?_) <;> (try simp only [hq, decide_true, decide_false, Bool.not_true, Bool.not_false, Bool.not_eq_true', Bool.not_eq_false'])) | (refine ite_intro (fun hq => ?_) (fun hq => ?_) <;> (try simp only [hq, decide_true, decide_false, Bool.not_true, Bool.not_false, Bool.not_eq_true', Bool.not_eq_false'])) | (refine bind_push ?_) | (refine call_v (impl_forms_Pat_c x.Kids F.impl_patForm (fun y => y.txt 0) 0 sComma (by omega) (by omega) (fun y hy => impl_patForm_c y 0 (by omega) (hkw _ hy) (hk _ hy) (hk2 _ hy))) ?_) | (show ((_ : Nat) : Int) ≤ 9223372036854775807 ∧ _; refine ⟨by first | omega | (simp only [app_size]; omega), ?_⟩))
    all_goals first | omega | (simp only [he, appA]; done)
  repeat' (first | (simp (disch := (first | omega | rfl | exact rfl | (simp only [cells_v, List.length_cons, List.length_nil]; done) | exact VPat.width _)) only [VPat.cells, VPat.isAgg, VPat.storable, VPat.eta, sUnit_l, b95_l, List.length_map, wrapS, wrapA, wrapA1, lt0, WA, Nat.reduceEqDiff, Nat.reduceAdd, Nat.reduceLT, Nat.reduceLeDiff, Nat.reduceMul, reduceIte, reduceCtorEq, Int.reduceEq, Int.reduceLT, Int.reduceLE, Int.reduceNe]) | (refine ite_dec (fun hq => ?_) (fun hq => ?_) <;> (try simp only [hq, decide_true, decide_false, Bool.not_true, Bool.not_false, Bool.not_eq_true', Bool.not_eq_false'])) | (refine ite_ndec (fun hq => ?_) (fun hq => ?_) <;> (try simp only [hq, decide_true, decide_false, Bool.not_true, Bool.not_false, Bool.not_eq_true', Bool.not_eq_false'])) | (refine ite_intro (fun hq => ?_) (fun hq => ?_) <;> (try simp only [hq, decide_true, decide_false, Bool.not_true, Bool.not_false, Bool.not_eq_true', Bool.not_eq_false'])) | (refine bind_push ?_) | (refine call_v (itoa_c x.Num (by have := h3n (by omega); omega) hi1) ?_) | (refine call_v (impl_boolWord_c x.Num) ?_))
  all_goals first | omega | (rw [he]; simp_all; done)
termination_by SizeOf.sizeOf x
decreasing_by all_goals first | exact VPat.Kids_lt hm0 | exact VPat.Kids_lt hy
end Go.Proofs.Ab
