/-
  TREES THAT ARE ALIKE BUT FOR THE NAMES THAT THEY BIND: the other walk, and the law's contracts.
-/
import Derived.Test.YtbejmmfalfjinaaCAlpha
import Derived.Test.YtbejmmfalfjinaaGM
set_option linter.unusedVariables false
set_option linter.unusedSimpArgs false
set_option linter.defProp false
namespace Go.Ab
set_option maxRecDepth 100000
set_option maxHeartbeats 4000000
def VPat.headA (x y : VPat) : Bool := decide (x.Kind = y.Kind) && decide (x.Num = y.Num) && decide (x.Kids.length = y.Kids.length) && (decide (x.Kind = 2) || decide (x.Name = y.Name))
mutual
def VPat.pats : VPat → VPat → List ByteArray → List ByteArray → List ByteArray × List ByteArray × Bool
  | .mk k n m p kids, y, a, b => if (VPat.mk k n m p kids).headA y = true then (if k = 2 then (a ++ [n], b ++ [y.Name], true) else VPat.patsL kids y.Kids a b) else (a, b, false)
def VPat.patsL : List VPat → List VPat → List ByteArray → List ByteArray → List ByteArray × List ByteArray × Bool
  | x :: l, y :: m, a, b => if (x.pats y a b).2.2 = true then VPat.patsL l m (x.pats y a b).1 (x.pats y a b).2.1 else (a, b, false)
  | [], _, a, b => (a, b, true)
  | _, [], a, b => (a, b, true)
end
theorem VPat.pats_eq (x y : VPat) (a b : List ByteArray) : x.pats y a b = if x.headA y = true then (if x.Kind = 2 then (a ++ [x.Name], b ++ [y.Name], true) else VPat.patsL x.Kids y.Kids a b) else (a, b, false) := by
  cases x; rw [VPat.pats]; rfl
theorem VPat.patsL_nil (a b : List ByteArray) : VPat.patsL [] [] a b = (a, b, true) := by rw [VPat.patsL]
theorem VPat.patsL_cons (x y : VPat) (l m : List VPat) (a b : List ByteArray) : VPat.patsL (x :: l) (y :: m) a b = if (x.pats y a b).2.2 = true then VPat.patsL l m (x.pats y a b).1 (x.pats y a b).2.1 else (a, b, false) := by
  rw [VPat.patsL]
mutual
theorem VPat.pats_len : ∀ (x y : VPat) (a b : List ByteArray), (x.pats y a b).1.length ≤ a.length + (x.wt + 1) ∧ (x.pats y a b).2.1.length ≤ b.length + (x.wt + 1)
  | .mk k n m p kids, y, a, b => by
    have h := VPat.patsL_len kids y.Kids a b
    have hw := (VPat.mk k n m p kids).wt_eq
    simp only [VPat.Kids] at hw
    rw [VPat.pats]
    split
    · split
      · simp
      · omega
    · simp
theorem VPat.patsL_len : ∀ (l m : List VPat) (a b : List ByteArray), (VPat.patsL l m a b).1.length ≤ a.length + ((l.map VPat.wt).sum + l.length) ∧ (VPat.patsL l m a b).2.1.length ≤ b.length + ((l.map VPat.wt).sum + l.length)
  | [], _, a, b => by simp [VPat.patsL]
  | _ :: _, [], a, b => by simp [VPat.patsL]
  | x :: l, y :: m, a, b => by
    have h1 := VPat.pats_len x y a b
    have h2 := VPat.patsL_len l m (x.pats y a b).1 (x.pats y a b).2.1
    rw [VPat.patsL_cons]
    simp only [List.map_cons, List.sum_cons, List.length_cons]
    split
    · omega
    · simp
end
/-- a pattern that is right: a variable has no kids -/
theorem VPat.ok_var {x : VPat} (h : x.okM = true) (hk : x.Kind = 2) : x.Kids = [] := by
  rw [VPat.okM_eq] at h
  simp [VPat.headP, hk] at h
  first | exact h.1.2.2 | exact h.2.2.2 | (trace_state; done)
theorem VPat.ok_kids {x : VPat} (h : x.okM = true) : ∀ y ∈ x.Kids, y.okM = true := by
  rw [VPat.okM_eq] at h
  simp at h
  exact h.2
def patsSay (x y : VPat) (a b : List ByteArray) : Prop := (x.pats y a b).2.2 = x.alike y ∧ (x.alike y = true → (x.pats y a b).1 = a ++ x.binds ∧ (x.pats y a b).2.1 = b ++ y.binds)
theorem VPat.patsL_say : ∀ (l m : List VPat) (a b : List ByteArray), l.length = m.length → (∀ x ∈ l, ∀ y ∈ m, ∀ a b, patsSay x y a b) →
    (VPat.patsL l m a b).2.2 = all2 VPat.alike l m ∧ (all2 VPat.alike l m = true → (VPat.patsL l m a b).1 = a ++ VPat.bindsL l ∧ (VPat.patsL l m a b).2.1 = b ++ VPat.bindsL m)
  | [], [], a, b, _, _ => by simp [VPat.patsL, VPat.bindsL, all2]
  | [], _ :: _, a, b, h, _ => by simp at h
  | _ :: _, [], a, b, h, _ => by simp at h
  | x :: l, y :: m, a, b, h, hs => by
    have h1 := hs x (by simp) y (by simp) a b
    have h2 := VPat.patsL_say l m (x.pats y a b).1 (x.pats y a b).2.1 (by simpa using h) (fun x' hx y' hy => hs x' (by simp [hx]) y' (by simp [hy]))
    rw [VPat.patsL_cons, all2]
    unfold patsSay at h1
    cases hb : x.alike y
    · rw [hb] at h1
      simp [h1.1]
    · rw [hb] at h1
      have h3 := h1.2 rfl
      simp only [h1.1, if_true, Bool.true_and]
      refine ⟨h2.1, fun h4 => ?_⟩
      have h5 := h2.2 h4
      rw [h5.1, h5.2, h3.1, h3.2, VPat.bindsL, VPat.bindsL]
      simp
theorem VPat.pats_say (x y : VPat) (hx : x.okM = true) (hy : y.okM = true) (a b : List ByteArray) : patsSay x y a b := by
  have hrec : ∀ x' ∈ x.Kids, ∀ y' ∈ y.Kids, ∀ a b, patsSay x' y' a b := fun x' hx' y' hy' a b => VPat.pats_say x' y' (VPat.ok_kids hx _ hx') (VPat.ok_kids hy _ hy') a b
  unfold patsSay
  rw [VPat.pats_eq, VPat.alike_eq, VPat.binds_eq, VPat.binds_eq]
  by_cases h : x.headA y = true
  · have h' := h
    unfold VPat.headA at h'
    simp at h'
    obtain ⟨⟨⟨h1, h2⟩, h3⟩, h4⟩ := h'
    rw [if_pos h]
    by_cases hk : x.Kind = 2
    · have e1 := VPat.ok_var hx hk
      have e2 := VPat.ok_var hy (by rw [← h1]; exact hk)
      rw [if_pos hk]
      simp [hk, ← h1, h2, e1, e2, all2, VPat.bindsL]
    · rw [if_neg hk]
      have h5 := VPat.patsL_say x.Kids y.Kids a b h3 hrec
      have h6 : x.Name = y.Name := by rcases h4 with h4 | h4; exact absurd h4 hk; exact h4
      have hk2 : y.Kind ≠ 2 := by rw [← h1]; exact hk
      simp only [h1, h2, h6, decide_true, Bool.true_and, Bool.or_true, if_neg hk2, List.nil_append]
      exact h5
  · rw [if_neg h]
    have h' : (decide (x.Kind = y.Kind) && (decide (x.Kind = 2) || decide (x.Name = y.Name)) && decide (x.Num = y.Num) && all2 VPat.alike x.Kids y.Kids) = false := by
      rw [Bool.eq_false_iff]
      intro hh
      apply h
      simp only [Bool.and_eq_true] at hh
      have hl : x.Kids.length = y.Kids.length := by
        by_cases hl : x.Kids.length = y.Kids.length
        · exact hl
        · rw [all2_len _ _ _ hl] at hh; simp at hh
      unfold VPat.headA
      simp only [hh.1.1.1, hh.1.2, hh.1.1.2, hl, decide_true, Bool.and_self]
    rw [h']
    simp
termination_by SizeOf.sizeOf x
decreasing_by all_goals exact VPat.Kids_lt hx'
/- Exps that are right -/
theorem VExp.ok_kids {x : VExp} (h : x.okM = true) : ∀ y ∈ x.Kids, y.okM = true := by
  rw [VExp.okM_eq] at h
  simp at h
  exact h.1.2
theorem VExp.ok_arms {x : VExp} (h : x.okM = true) : ∀ y ∈ x.Arms, y.P.okM = true ∧ y.E.okM = true := by
  rw [VExp.okM_eq] at h
  simp [VArm.okM] at h
  exact h.2
theorem VExp.ok_form {x : VExp} (h : x.okM = true) : (x.Kind = 5 → x.Kids = []) ∧ (x.Kind = 8 → x.Kids.length = 1 ∧ x.Arms = []) ∧ (x.Kind = 10 → x.Kids.length = 2 ∧ x.Arms = []) ∧ (x.Kind = 11 → x.Kids.length = 2 ∧ x.Arms = []) := by
  rw [VExp.okM_eq] at h
  have h1 : x.headM = true := by simp at h; exact h.1.1
  refine ⟨fun hk => ?_, fun hk => ?_, fun hk => ?_, fun hk => ?_⟩
  all_goals
    unfold VExp.headM VExp.plainX at h1
    simp [hk] at h1
    simp_all
end Go.Ab
namespace Go.Proofs.Ab
open Go.Ab
set_option maxRecDepth 100000
set_option maxHeartbeats 4000000
theorem spec_l19Pats_c (x z : VPat) (a b : List ByteArray) (hb : x.wt ≤ 1048576) (ha : a.length + (x.wt + 1) ≤ 4398046511104) (hb' : b.length + (x.wt + 1) ≤ 4398046511104) :
    PCon Try.prog F.spec_l19Pats [x.av, z.av, .sl (a.map avB), .sl (b.map avB)] (.tup [.sl ((x.pats z a b).1.map avB), .sl ((x.pats z a b).2.1.map avB), .v (.bool (x.pats z a b).2.2)]) := by
  have hw := x.wt_eq
  have hv := x.pats_eq z a b
  refine T.spec_l19Pats_con rfl (by simp [AV.norefs, AV.noref, VPat.noref, norS]) ?_
  simp only [T.spec_l19Pats, VPat.cells, VPat.isAgg, VPat.storable, W00, W01, W02, W03, W04, W05, W06, W07, W08, W09, Nat.reduceEqDiff, Nat.reduceAdd, Nat.reduceLT, Nat.reduceLeDiff, Nat.reduceMul, reduceIte, reduceCtorEq, Int.reduceEq, Int.reduceLT, Int.reduceLE, Int.reduceNe]
  repeat' (first | (simp (disch := (first | omega | rfl | exact rfl | (simp only [cells_v, List.length_cons, List.length_nil]; done) | exact VPat.width _)) only [hel, hely, hd, hdy, VPat.cells, VPat.isAgg, VPat.storable, VPat.eta, wrapS, wrapA, wrapA1, lt0, W00, W01, W02, W03, W04, W05, W06, W07, W08, W09, Nat.reduceEqDiff, Nat.reduceAdd, Nat.reduceLT, Nat.reduceLeDiff, Nat.reduceMul, reduceIte, reduceCtorEq, Int.reduceEq, Int.reduceLT, Int.reduceLE, Int.reduceNe]) | (simp (disch := (first | omega | rfl | exact rfl | (simp only [cells_v, List.length_cons, List.length_nil]; done) | exact VPat.width _)) only [hel, hd, VPat.cells, VPat.isAgg, VPat.storable, VPat.eta, wrapS, wrapA, wrapA1, lt0, W00, W01, W02, W03, W04, W05, W06, W07, W08, W09, Nat.reduceEqDiff, Nat.reduceAdd, Nat.reduceLT, Nat.reduceLeDiff, Nat.reduceMul, reduceIte, reduceCtorEq, Int.reduceEq, Int.reduceLT, Int.reduceLE, Int.reduceNe]) | (simp (disch := (first | omega | rfl | exact rfl | (simp only [cells_v, List.length_cons, List.length_nil]; done) | exact VPat.width _)) only [hd, hdy, VPat.cells, VPat.isAgg, VPat.storable, VPat.eta, wrapS, wrapA, wrapA1, lt0, W00, W01, W02, W03, W04, W05, W06, W07, W08, W09, Nat.reduceEqDiff, Nat.reduceAdd, Nat.reduceLT, Nat.reduceLeDiff, Nat.reduceMul, reduceIte, reduceCtorEq, Int.reduceEq, Int.reduceLT, Int.reduceLE, Int.reduceNe]) | (simp (disch := (first | omega | rfl | exact rfl | (simp only [cells_v, List.length_cons, List.length_nil]; done) | exact VPat.width _)) only [hix, hd, VPat.cells, VPat.isAgg, VPat.storable, VPat.eta, wrapS, wrapA, wrapA1, lt0, W00, W01, W02, W03, W04, W05, W06, W07, W08, W09, Nat.reduceEqDiff, Nat.reduceAdd, Nat.reduceLT, Nat.reduceLeDiff, Nat.reduceMul, reduceIte, reduceCtorEq, Int.reduceEq, Int.reduceLT, Int.reduceLE, Int.reduceNe]) | (simp (disch := (first | omega | rfl | exact rfl | (simp only [cells_v, List.length_cons, List.length_nil]; done) | exact VPat.width _)) only [hd, VPat.cells, VPat.isAgg, VPat.storable, VPat.eta, wrapS, wrapA, wrapA1, lt0, W00, W01, W02, W03, W04, W05, W06, W07, W08, W09, Nat.reduceEqDiff, Nat.reduceAdd, Nat.reduceLT, Nat.reduceLeDiff, Nat.reduceMul, reduceIte, reduceCtorEq, Int.reduceEq, Int.reduceLT, Int.reduceLE, Int.reduceNe]) | (simp (disch := (first | omega | rfl | exact rfl | (simp only [cells_v, List.length_cons, List.length_nil]; done) | exact VPat.width _)) only [VPat.cells, VPat.isAgg, VPat.storable, VPat.eta, wrapS, wrapA, wrapA1, lt0, W00, W01, W02, W03, W04, W05, W06, W07, W08, W09, Nat.reduceEqDiff, Nat.reduceAdd, Nat.reduceLT, Nat.reduceLeDiff, Nat.reduceMul, reduceIte, reduceCtorEq, Int.reduceEq, Int.reduceLT, Int.reduceLE, Int.reduceNe]) | (refine ite_dec (fun hq => ?_) (fun hq => ?_) <;> (try simp only [hq, decide_true, decide_false, Bool.not_true, Bool.not_false, Bool.not_eq_true', Bool.not_eq_false'])) | (refine ite_ndec (fun hq => ?_) (fun hq => ?_) <;> (try simp only [hq, decide_true, decide_false, Bool.not_true, Bool.not_false, Bool.not_eq_true', Bool.not_eq_false'])) | (refine ite_intro (fun hq => ?_) (fun hq => ?_) <;> (try simp only [hq, decide_true, decide_false, Bool.not_true, Bool.not_false, Bool.not_eq_true', Bool.not_eq_false'])) | (refine bind_push ?_) | (refine call_p (spec_l5With_c a [x.Name] (by simp; omega)) (norS _) ?_) | (refine call_p (spec_l5With_c b [z.Name] (by simp; omega)) (norS _) ?_) | (refine loop_zip x.Kids z.Kids (by omega) (fun i (s : List ByteArray × List ByteArray) => [.sl (s.1.map avB), .sl (s.2.map avB), avI i]) (fun i rest resty s => VPat.patsL x.Kids z.Kids a b = VPat.patsL rest resty s.1 s.2 ∧ s.1.length + ((rest.map VPat.wt).sum + rest.length) ≤ 4398046511104 ∧ s.2.length + ((rest.map VPat.wt).sum + rest.length) ≤ 4398046511104) (a, b) rfl ?_ (fun i k y rest resty b hi hm hmy hel hely hd hdy hg => ?_) (fun b hd hdy hg => ?_)) | (refine call_p (spec_l19Pats_c k y _ _ (by have := le_sum VPat.wt hm; omega) (by have := hg.2.1; simp only [List.map_cons, List.sum_cons, List.length_cons] at this; omega) (by have := hg.2.2; simp only [List.map_cons, List.sum_cons, List.length_cons] at this; omega)) (by simp [AV.noref, AV.norefs, norS]) ?_))
  all_goals first
    | omega
    | (have h3 := VPat.pats_len k y b.1 b.2
       have h4 := hg.2
       simp only [List.map_cons, List.sum_cons, List.length_cons] at h4
       refine ⟨hi, ((k.pats y b.1 b.2).1, (k.pats y b.1 b.2).2.1), ⟨?_, ?_, ?_⟩, rfl⟩
       · rw [hg.1, VPat.patsL_cons, if_pos (by simpa using hq)]
       · dsimp only; omega
       · dsimp only; omega)
    | (first | (have hl : x.Kids.length = z.Kids.length := by omega) | (have hl : ¬ x.Kids.length = z.Kids.length := by omega) | skip
       try have h5 := hg.1
       clear hw ha hb' hb
       rw [hv]
       simp_all [VPat.headA, VPat.patsL_cons, VPat.patsL_nil]
       done)
termination_by SizeOf.sizeOf x
decreasing_by all_goals exact VPat.Kids_lt hm
end Go.Proofs.Ab
