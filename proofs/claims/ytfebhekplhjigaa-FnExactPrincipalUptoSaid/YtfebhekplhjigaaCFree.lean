/-
  Free: what is free in a type.
-/
import Derived.Test.YtfebhekplhjigaaCSmall
set_option linter.unusedVariables false
set_option linter.unusedSimpArgs false
set_option linter.defProp false
namespace Go.Ab
set_option maxRecDepth 100000
set_option maxHeartbeats 4000000
def hasN (n : Int) (l : List Int) : Bool := l.any fun y => decide (n = y)
def addN (o : List Int) (n : Int) : List Int := if hasN n o = true then o else o ++ [n]
def addAll (o l : List Int) : List Int := l.foldl addN o
theorem hasN_iff (n : Int) (l : List Int) : hasN n l = true ↔ n ∈ l := by simp [hasN]
theorem addN_mem (o : List Int) (n x : Int) : x ∈ addN o n ↔ x ∈ o ∨ x = n := by
  unfold addN
  split
  · rename_i h; rw [hasN_iff] at h
    exact ⟨.inl, fun h' => h'.elim id fun e => by rw [e]; exact h⟩
  · simp
theorem addAll_mem : ∀ (l o : List Int) (x : Int), x ∈ addAll o l ↔ x ∈ o ∨ x ∈ l
  | [], o, x => by simp [addAll]
  | n :: l, o, x => by
    have : addAll o (n :: l) = addAll (addN o n) l := rfl
    rw [this, addAll_mem, addN_mem]
    simp only [List.mem_cons]
    exact or_assoc
theorem addAll_append (o l m : List Int) : addAll o (l ++ m) = addAll (addAll o l) m := by simp [addAll, List.foldl_append]
theorem addN_len (o : List Int) (n : Int) : (addN o n).length ≤ o.length + 1 := by
  unfold addN; split
  · omega
  · simp
theorem addAll_len : ∀ (l o : List Int), (addAll o l).length ≤ o.length + l.length
  | [], o => by simp [addAll]
  | n :: l, o => by
    have : addAll o (n :: l) = addAll (addN o n) l := rfl
    have h1 := addAll_len l (addN o n)
    have h2 := addN_len o n
    rw [this, List.length_cons]; omega
theorem addN_has {o : List Int} {n : Int} (h : n ∈ o) : addN o n = o := by unfold addN; rw [if_pos ((hasN_iff _ _).2 h)]
theorem addN_not {o : List Int} {n : Int} (h : n ∉ o) : addN o n = o ++ [n] := by unfold addN; rw [if_neg (fun h' => h ((hasN_iff _ _).1 h'))]
/-- what is doubled ahead may be left out -/
theorem addAll_addAll : ∀ (l p o : List Int), addAll o (addAll p l) = addAll (addAll o p) l
  | [], p, o => rfl
  | n :: l, p, o => by
    have e1 : ∀ q, addAll q (n :: l) = addAll (addN q n) l := fun _ => rfl
    rw [e1, e1, addAll_addAll l (addN p n) o]
    congr 1
    by_cases h : n ∈ p
    · rw [addN_has h, addN_has ((addAll_mem p o n).2 (.inr h))]
    · rw [addN_not h, addAll_append]; rfl
theorem addAll_nil (l o : List Int) : addAll o (addAll [] l) = addAll o l := addAll_addAll l [] o
mutual
def VTy.frees : VTy → Int → List Int
  | .mk kd n _ kids, k => (if kd = k then [n] else []) ++ VTy.freesL kids k
def VTy.freesL : List VTy → Int → List Int
  | [], _ => []
  | x :: l, k => x.frees k ++ VTy.freesL l k
end
theorem VTy.frees_eq (x : VTy) (k : Int) : x.frees k = (if x.Kind = k then [x.N] else []) ++ VTy.freesL x.Kids k := by cases x; rw [VTy.frees]; rfl
mutual
theorem VTy.frees_len : ∀ (x : VTy) (k : Int), (x.frees k).length ≤ x.wt + 1
  | .mk kd n s kids, k => by
    have := VTy.freesL_len kids k
    have hw := VTy.wt_eq (.mk kd n s kids)
    simp only [VTy.Kids, VTy.Name] at hw
    rw [VTy.frees, List.length_append, hw]
    split <;> simp <;> omega
theorem VTy.freesL_len : ∀ (l : List VTy) (k : Int), (VTy.freesL l k).length ≤ l.length + (l.map VTy.wt).sum
  | [], k => by simp [VTy.freesL]
  | x :: l, k => by
    have := VTy.frees_len x k
    have := VTy.freesL_len l k
    simp only [VTy.freesL, List.length_append, List.length_cons, List.map_cons, List.sum_cons]
    omega
end
end Go.Ab
namespace Go.Proofs.Ab
open Go.Ab
set_option maxRecDepth 100000
set_option maxHeartbeats 4000000
theorem spec_l4Has_c (l : List Int) (n : Int) (hl : l.length ≤ 1073741824) : PCon Try.prog F.spec_l4Has [.sl (l.map avI), avI n] (.v (.bool (hasN n l))) := by
  refine T.spec_l4Has_con rfl (by simp only [AV.norefs, AV.noref, Bool.and_true]; exact norefsM (f := avI) fun _ => rfl) ?_
  have e : ∀ m : List Int, hasN n m = m.any fun y => decide (y = n) := fun m => by simp only [hasN, eq_comm]
  have hv : hasN n l = l.any fun y => decide (y = n) := e l
  simp only [T.spec_l4Has, WA, Nat.reduceEqDiff, Nat.reduceAdd, Nat.reduceLT, Nat.reduceLeDiff, Nat.reduceMul, reduceIte, reduceCtorEq, Int.reduceEq, Int.reduceLT, Int.reduceLE, Int.reduceNe]
  repeat' (first | (simp (disch := (first | omega | rfl | exact rfl | (simp only [cells_v, List.length_cons, List.length_nil]; done))) only [hel, hely, hd, hdy, wrapS, wrapA, wrapA1, lt0, WA, Nat.reduceEqDiff, Nat.reduceAdd, Nat.reduceLT, Nat.reduceLeDiff, Nat.reduceMul, reduceIte, reduceCtorEq, Int.reduceEq, Int.reduceLT, Int.reduceLE, Int.reduceNe]) | (simp (disch := (first | omega | rfl | exact rfl | (simp only [cells_v, List.length_cons, List.length_nil]; done))) only [hel, hd, wrapS, wrapA, wrapA1, lt0, WA, Nat.reduceEqDiff, Nat.reduceAdd, Nat.reduceLT, Nat.reduceLeDiff, Nat.reduceMul, reduceIte, reduceCtorEq, Int.reduceEq, Int.reduceLT, Int.reduceLE, Int.reduceNe]) | (simp (disch := (first | omega | rfl | exact rfl | (simp only [cells_v, List.length_cons, List.length_nil]; done))) only [hd, hdy, wrapS, wrapA, wrapA1, lt0, WA, Nat.reduceEqDiff, Nat.reduceAdd, Nat.reduceLT, Nat.reduceLeDiff, Nat.reduceMul, reduceIte, reduceCtorEq, Int.reduceEq, Int.reduceLT, Int.reduceLE, Int.reduceNe]) | (simp (disch := (first | omega | rfl | exact rfl | (simp only [cells_v, List.length_cons, List.length_nil]; done))) only [hix, hd, wrapS, wrapA, wrapA1, lt0, WA, Nat.reduceEqDiff, Nat.reduceAdd, Nat.reduceLT, Nat.reduceLeDiff, Nat.reduceMul, reduceIte, reduceCtorEq, Int.reduceEq, Int.reduceLT, Int.reduceLE, Int.reduceNe]) | (simp (disch := (first | omega | rfl | exact rfl | (simp only [cells_v, List.length_cons, List.length_nil]; done))) only [hd, wrapS, wrapA, wrapA1, lt0, WA, Nat.reduceEqDiff, Nat.reduceAdd, Nat.reduceLT, Nat.reduceLeDiff, Nat.reduceMul, reduceIte, reduceCtorEq, Int.reduceEq, Int.reduceLT, Int.reduceLE, Int.reduceNe]) | (simp (disch := (first | omega | rfl | exact rfl | (simp only [cells_v, List.length_cons, List.length_nil]; done))) only [wrapS, wrapA, wrapA1, lt0, WA, Nat.reduceEqDiff, Nat.reduceAdd, Nat.reduceLT, Nat.reduceLeDiff, Nat.reduceMul, reduceIte, reduceCtorEq, Int.reduceEq, Int.reduceLT, Int.reduceLE, Int.reduceNe]) | (refine ite_dec (fun hq => ?_) (fun hq => ?_) <;> (try simp only [hq, decide_true, decide_false, Bool.not_true, Bool.not_false, Bool.not_eq_true', Bool.not_eq_false'])) | (refine ite_ndec (fun hq => ?_) (fun hq => ?_) <;> (try simp only [hq, decide_true, decide_false, Bool.not_true, Bool.not_false, Bool.not_eq_true', Bool.not_eq_false'])) | (refine ite_intro (fun hq => ?_) (fun hq => ?_) <;> (try simp only [hq, decide_true, decide_false, Bool.not_true, Bool.not_false, Bool.not_eq_true', Bool.not_eq_false'])) | (refine bind_push ?_) | (refine loop_list l (fun i (_ : Unit) => [avI i]) (fun _ rest _ => hasN n l = rest.any fun y => decide (y = n)) () rfl ?_ (fun i k rest b hi hx hm hel hd hg => ?_) (fun b hd hg => ?_)))
  all_goals first | (have hg1 := hg; clear hv; simp_all; done) | (have hg1 := hg; simp_all; done) | (have hg1 := hg; clear hv; simp_all [-List.all_eq_true, -List.any_eq_true, -List.all_eq_false, -List.any_eq_false]; done) | (simp_all; done) | (simp_all [-List.all_eq_true, -List.any_eq_true, -List.all_eq_false, -List.any_eq_false]; done) | (refine avb ?_; (try clear hv); simp_all <;> (intros; omega)) | (refine avb ?_; simp_all <;> (intros; omega)) | (simp_all <;> (intros; omega)) | omega
theorem norI (l : List Int) : AV.norefs (l.map avI) = true := norefsM (f := avI) fun _ => rfl
theorem free_step {x : VTy} {kd : Int} {o b : List Int} {y : VTy} {rest : List VTy} (hg : addAll b (VTy.freesL (y :: rest) kd) = addAll o (x.frees kd) ∧ b.length + ((y :: rest).length + ((y :: rest).map VTy.wt).sum) ≤ 4194304) :
    addAll (addAll b (y.frees kd)) (VTy.freesL rest kd) = addAll o (x.frees kd) ∧ (addAll b (y.frees kd)).length + (rest.length + (rest.map VTy.wt).sum) ≤ 4194304 := by
  have h1 := addAll_len (y.frees kd) b
  have h2 := y.frees_len kd
  simp only [VTy.freesL, addAll_append, List.length_cons, List.map_cons, List.sum_cons] at hg
  exact ⟨hg.1, by omega⟩
theorem free_init {x : VTy} {kd : Int} {o : List Int} (ho : o.length + (x.wt + 1) ≤ 4194304) : addAll (addAll o (if x.Kind = kd then [x.N] else [])) (VTy.freesL x.Kids kd) = addAll o (x.frees kd) ∧
    (addAll o (if x.Kind = kd then [x.N] else [])).length + (x.Kids.length + (x.Kids.map VTy.wt).sum) ≤ 4194304 := by
  have hw := x.wt_eq
  have h1 := addAll_len (if x.Kind = kd then [x.N] else []) o
  have h2 : (if x.Kind = kd then [x.N] else []).length ≤ 1 := by split <;> simp
  refine ⟨by rw [x.frees_eq, addAll_append], by omega⟩
theorem spec_l4Free_c (x : VTy) (kd : Int) (o : List Int) (hb : x.wt ≤ 1048576) (ho : o.length + (x.wt + 1) ≤ 4194304) : SCon Try.prog F.spec_l4Free G.spec_l4Free [x.av, avI kd, .sl (o.map avI)] [.sl ((addAll o (x.frees kd)).map avI)] := by
  have hw := x.wt_eq
  refine T.spec_l4Free_scon rfl rfl (by simp only [AV.norefs, AV.noref, VTy.noref, Bool.and_true, Bool.true_and]; exact norI _) ?_
  simp only [T.spec_l4Free, VTy.cells, VTy.isAgg, VTy.storable, WA, Nat.reduceEqDiff, Nat.reduceAdd, Nat.reduceLT, Nat.reduceLeDiff, Nat.reduceMul, reduceIte, reduceCtorEq, Int.reduceEq, Int.reduceLT, Int.reduceLE, Int.reduceNe]
  refine bind_cut [.sl ((addAll o (if x.Kind = kd then [x.N] else [])).map avI)] rfl ?_ ?_
  · repeat' (first | (simp (disch := (first | omega | rfl | exact rfl | (simp only [cells_v, List.length_cons, List.length_nil]; done) | exact VTy.width _)) only [VTy.cells, VTy.isAgg, VTy.storable, VTy.eta, List.length_map, wrapS, wrapA, wrapA1, lt0, WA, Nat.reduceEqDiff, Nat.reduceAdd, Nat.reduceLT, Nat.reduceLeDiff, Nat.reduceMul, reduceIte, reduceCtorEq, Int.reduceEq, Int.reduceLT, Int.reduceLE, Int.reduceNe]) | (refine ite_dec (fun hq => ?_) (fun hq => ?_) <;> (try simp only [hq, decide_true, decide_false, Bool.not_true, Bool.not_false, Bool.not_eq_true', Bool.not_eq_false'])) | (refine ite_ndec (fun hq => ?_) (fun hq => ?_) <;> (try simp only [hq, decide_true, decide_false, Bool.not_true, Bool.not_false, Bool.not_eq_true', Bool.not_eq_false'])) | (refine ite_intro (fun hq => ?_) (fun hq => ?_) <;> (try simp only [hq, decide_true, decide_false, Bool.not_true, Bool.not_false, Bool.not_eq_true', Bool.not_eq_false'])) | (refine bind_push ?_) | (refine call_v (spec_l4Has_c o _ (by omega)) ?_))
    · refine ⟨fun y hy => by rw [hy]; rfl, by omega, by omega, ?_⟩
      have : hasN x.N o ≠ true := by simpa using hq
      simp [addAll, addN, this]
    · have : hasN x.N o = true := by simpa using hq
      simp [addAll, addN, this]
    · rfl
  · repeat' (first | (simp (disch := (first | omega | rfl | exact rfl | (simp only [cells_v, List.length_cons, List.length_nil]; done) | exact VTy.width _)) only [hel, hely, hd, hdy, VTy.cells, VTy.isAgg, VTy.storable, VTy.eta, wrapS, wrapA, wrapA1, lt0, WA, Nat.reduceEqDiff, Nat.reduceAdd, Nat.reduceLT, Nat.reduceLeDiff, Nat.reduceMul, reduceIte, reduceCtorEq, Int.reduceEq, Int.reduceLT, Int.reduceLE, Int.reduceNe]) | (simp (disch := (first | omega | rfl | exact rfl | (simp only [cells_v, List.length_cons, List.length_nil]; done) | exact VTy.width _)) only [hel, hd, VTy.cells, VTy.isAgg, VTy.storable, VTy.eta, wrapS, wrapA, wrapA1, lt0, WA, Nat.reduceEqDiff, Nat.reduceAdd, Nat.reduceLT, Nat.reduceLeDiff, Nat.reduceMul, reduceIte, reduceCtorEq, Int.reduceEq, Int.reduceLT, Int.reduceLE, Int.reduceNe]) | (simp (disch := (first | omega | rfl | exact rfl | (simp only [cells_v, List.length_cons, List.length_nil]; done) | exact VTy.width _)) only [hd, hdy, VTy.cells, VTy.isAgg, VTy.storable, VTy.eta, wrapS, wrapA, wrapA1, lt0, WA, Nat.reduceEqDiff, Nat.reduceAdd, Nat.reduceLT, Nat.reduceLeDiff, Nat.reduceMul, reduceIte, reduceCtorEq, Int.reduceEq, Int.reduceLT, Int.reduceLE, Int.reduceNe]) | (simp (disch := (first | omega | rfl | exact rfl | (simp only [cells_v, List.length_cons, List.length_nil]; done) | exact VTy.width _)) only [hix, hd, VTy.cells, VTy.isAgg, VTy.storable, VTy.eta, wrapS, wrapA, wrapA1, lt0, WA, Nat.reduceEqDiff, Nat.reduceAdd, Nat.reduceLT, Nat.reduceLeDiff, Nat.reduceMul, reduceIte, reduceCtorEq, Int.reduceEq, Int.reduceLT, Int.reduceLE, Int.reduceNe]) | (simp (disch := (first | omega | rfl | exact rfl | (simp only [cells_v, List.length_cons, List.length_nil]; done) | exact VTy.width _)) only [hd, VTy.cells, VTy.isAgg, VTy.storable, VTy.eta, wrapS, wrapA, wrapA1, lt0, WA, Nat.reduceEqDiff, Nat.reduceAdd, Nat.reduceLT, Nat.reduceLeDiff, Nat.reduceMul, reduceIte, reduceCtorEq, Int.reduceEq, Int.reduceLT, Int.reduceLE, Int.reduceNe]) | (simp (disch := (first | omega | rfl | exact rfl | (simp only [cells_v, List.length_cons, List.length_nil]; done) | exact VTy.width _)) only [VTy.cells, VTy.isAgg, VTy.storable, VTy.eta, wrapS, wrapA, wrapA1, lt0, WA, Nat.reduceEqDiff, Nat.reduceAdd, Nat.reduceLT, Nat.reduceLeDiff, Nat.reduceMul, reduceIte, reduceCtorEq, Int.reduceEq, Int.reduceLT, Int.reduceLE, Int.reduceNe]) | (refine ite_dec (fun hq => ?_) (fun hq => ?_) <;> (try simp only [hq, decide_true, decide_false, Bool.not_true, Bool.not_false, Bool.not_eq_true', Bool.not_eq_false'])) | (refine ite_ndec (fun hq => ?_) (fun hq => ?_) <;> (try simp only [hq, decide_true, decide_false, Bool.not_true, Bool.not_false, Bool.not_eq_true', Bool.not_eq_false'])) | (refine ite_intro (fun hq => ?_) (fun hq => ?_) <;> (try simp only [hq, decide_true, decide_false, Bool.not_true, Bool.not_false, Bool.not_eq_true', Bool.not_eq_false'])) | (refine bind_push ?_) | (refine loop_list x.Kids (fun i (q : List Int) => [.sl (q.map avI), avI i]) (fun _ rest q => addAll q (VTy.freesL rest kd) = addAll o (x.frees kd) ∧ q.length + (rest.length + (rest.map VTy.wt).sum) ≤ 4194304) (addAll o (if x.Kind = kd then [x.N] else [])) rfl ?_ (fun i k rest b hi hx hm hel hd hg => ?_) (fun b hd hg => ?_)) | (refine scall_v (spec_l4Free_c k kd b (by have := le_sum VTy.wt hm; omega) (by simp only [List.length_cons, List.map_cons, List.sum_cons] at hg; omega)) rfl (by simp only [AV.norefs, AV.noref, Bool.and_true]; exact norI _) ?_))
    · exact free_init ho
    · exact ⟨hi, _, free_step hg, rfl⟩
    · rw [← hg.1]; rfl
termination_by SizeOf.sizeOf x
decreasing_by all_goals exact VTy.Kids_lt hm
theorem spec_Free_f (x : VTy) (kd : Int) (hb : x.wt ≤ 1048576) : FCon Try.prog F.spec_Free [x.av, avI kd] false 3 1 ((if x.okM && inB kd 9 11 then addAll [] (x.frees kd) else []).map avI) := by
  refine T.spec_Free_fcon rfl (by simp [AV.norefs, AV.noref, VTy.noref]) ?_
  simp only [T.spec_Free, VTy.cells, VTy.isAgg, VTy.storable, WA, Nat.reduceEqDiff, Nat.reduceAdd, Nat.reduceLT, Nat.reduceLeDiff, Nat.reduceMul, reduceIte, reduceCtorEq, Int.reduceEq, Int.reduceLT, Int.reduceLE, Int.reduceNe]
  repeat' (first | (simp (disch := (first | omega | rfl | exact rfl | (simp only [cells_v, List.length_cons, List.length_nil]; done) | exact VTy.width _)) only [VTy.cells, VTy.isAgg, VTy.storable, VTy.eta, List.length_map, wrapS, wrapA, wrapA1, lt0, WA, Nat.reduceEqDiff, Nat.reduceAdd, Nat.reduceLT, Nat.reduceLeDiff, Nat.reduceMul, reduceIte, reduceCtorEq, Int.reduceEq, Int.reduceLT, Int.reduceLE, Int.reduceNe]) | (refine ite_dec (fun hq => ?_) (fun hq => ?_) <;> (try simp only [hq, decide_true, decide_false, Bool.not_true, Bool.not_false, Bool.not_eq_true', Bool.not_eq_false'])) | (refine ite_ndec (fun hq => ?_) (fun hq => ?_) <;> (try simp only [hq, decide_true, decide_false, Bool.not_true, Bool.not_false, Bool.not_eq_true', Bool.not_eq_false'])) | (refine ite_intro (fun hq => ?_) (fun hq => ?_) <;> (try simp only [hq, decide_true, decide_false, Bool.not_true, Bool.not_false, Bool.not_eq_true', Bool.not_eq_false'])) | (refine bind_push ?_) | (refine call_v (spec_TyOk_c x hb) ?_) | (refine call_v (spec_l1In_c _ _ _) ?_) | (refine scall_v (spec_l4Free_c x kd [] hb (by simp; omega)) rfl (by simp only [AV.norefs, AV.noref, Bool.and_true]; exact norI _) ?_))
  all_goals first | (have hg1 := hg; clear hv; simp_all; done) | (have hg1 := hg; simp_all; done) | (have hg1 := hg; clear hv; simp_all [-List.all_eq_true, -List.any_eq_true, -List.all_eq_false, -List.any_eq_false]; done) | (simp_all; done) | (simp_all [-List.all_eq_true, -List.any_eq_true, -List.all_eq_false, -List.any_eq_false]; done) | (refine avb ?_; (try clear hv); simp_all <;> (intros; omega)) | (refine avb ?_; simp_all <;> (intros; omega)) | (simp_all <;> (intros; omega)) | omega
theorem getI {l : List Int} {i : Nat} {n : Int} (h : l[i]? = some n) : (l.map avI).getD i .top = avI n := by simp [List.getD, h]
theorem impl_frees_f (x : VTy) (kd : Int) (hb : x.wt ≤ 1048576) : FCon Try.prog F.impl_frees [x.av, avI kd] true 3 1 ((addAll [] (x.frees kd)).map avI) := by
  have hw := x.wt_eq
  refine T.impl_frees_fcon rfl (by simp [AV.norefs, AV.noref, VTy.noref]) ?_
  simp only [T.impl_frees, VTy.cells, VTy.isAgg, VTy.storable, WA, Nat.reduceEqDiff, Nat.reduceAdd, Nat.reduceLT, Nat.reduceLeDiff, Nat.reduceMul, reduceIte, reduceCtorEq, Int.reduceEq, Int.reduceLT, Int.reduceLE, Int.reduceNe]
  refine bind_cut [.sl ((addAll [] (if x.Kind = kd then [x.N] else [])).map avI)] rfl ?_ ?_
  · repeat' (first | (simp (disch := (first | omega | rfl | exact rfl | (simp only [cells_v, List.length_cons, List.length_nil]; done) | exact VTy.width _)) only [VTy.cells, VTy.isAgg, VTy.storable, VTy.eta, List.length_map, wrapS, wrapA, wrapA1, lt0, WA, Nat.reduceEqDiff, Nat.reduceAdd, Nat.reduceLT, Nat.reduceLeDiff, Nat.reduceMul, reduceIte, reduceCtorEq, Int.reduceEq, Int.reduceLT, Int.reduceLE, Int.reduceNe]) | (refine ite_dec (fun hq => ?_) (fun hq => ?_) <;> (try simp only [hq, decide_true, decide_false, Bool.not_true, Bool.not_false, Bool.not_eq_true', Bool.not_eq_false'])) | (refine ite_ndec (fun hq => ?_) (fun hq => ?_) <;> (try simp only [hq, decide_true, decide_false, Bool.not_true, Bool.not_false, Bool.not_eq_true', Bool.not_eq_false'])) | (refine ite_intro (fun hq => ?_) (fun hq => ?_) <;> (try simp only [hq, decide_true, decide_false, Bool.not_true, Bool.not_false, Bool.not_eq_true', Bool.not_eq_false'])) | (refine bind_push ?_))
    · refine ⟨fun y hy => by rw [hy]; rfl, ?_⟩; rfl
    · rfl
  · simp only [VTy.cells, VTy.isAgg, VTy.storable, WA, Nat.reduceEqDiff, Nat.reduceAdd, Nat.reduceLT, Nat.reduceLeDiff, Nat.reduceMul, reduceIte, reduceCtorEq, Int.reduceEq, Int.reduceLT, Int.reduceLE, Int.reduceNe]
    repeat' (first | (simp (disch := (first | omega | rfl | exact rfl | (simp only [cells_v, List.length_cons, List.length_nil]; done) | exact VTy.width _)) only [hel2, hd2, hel, hd, VTy.cells, VTy.isAgg, VTy.storable, VTy.eta, List.length_map, wrapS, wrapA, wrapA1, lt0, WA, Nat.reduceEqDiff, Nat.reduceAdd, Nat.reduceLT, Nat.reduceLeDiff, Nat.reduceMul, reduceIte, reduceCtorEq, Int.reduceEq, Int.reduceLT, Int.reduceLE, Int.reduceNe]) | (simp (disch := (first | omega | rfl | exact rfl | (simp only [cells_v, List.length_cons, List.length_nil]; done) | exact VTy.width _)) only [hix2, hd2, hel, hd, VTy.cells, VTy.isAgg, VTy.storable, VTy.eta, List.length_map, wrapS, wrapA, wrapA1, lt0, WA, Nat.reduceEqDiff, Nat.reduceAdd, Nat.reduceLT, Nat.reduceLeDiff, Nat.reduceMul, reduceIte, reduceCtorEq, Int.reduceEq, Int.reduceLT, Int.reduceLE, Int.reduceNe]) | (simp (disch := (first | omega | rfl | exact rfl | (simp only [cells_v, List.length_cons, List.length_nil]; done) | exact VTy.width _)) only [hix2, hd2, VTy.cells, VTy.isAgg, VTy.storable, VTy.eta, List.length_map, wrapS, wrapA, wrapA1, lt0, WA, Nat.reduceEqDiff, Nat.reduceAdd, Nat.reduceLT, Nat.reduceLeDiff, Nat.reduceMul, reduceIte, reduceCtorEq, Int.reduceEq, Int.reduceLT, Int.reduceLE, Int.reduceNe]) | (simp (disch := (first | omega | rfl | exact rfl | (simp only [cells_v, List.length_cons, List.length_nil]; done) | exact VTy.width _)) only [hd2, hel, hd, VTy.cells, VTy.isAgg, VTy.storable, VTy.eta, List.length_map, wrapS, wrapA, wrapA1, lt0, WA, Nat.reduceEqDiff, Nat.reduceAdd, Nat.reduceLT, Nat.reduceLeDiff, Nat.reduceMul, reduceIte, reduceCtorEq, Int.reduceEq, Int.reduceLT, Int.reduceLE, Int.reduceNe]) | (simp (disch := (first | omega | rfl | exact rfl | (simp only [cells_v, List.length_cons, List.length_nil]; done) | exact VTy.width _)) only [hd2, VTy.cells, VTy.isAgg, VTy.storable, VTy.eta, List.length_map, wrapS, wrapA, wrapA1, lt0, WA, Nat.reduceEqDiff, Nat.reduceAdd, Nat.reduceLT, Nat.reduceLeDiff, Nat.reduceMul, reduceIte, reduceCtorEq, Int.reduceEq, Int.reduceLT, Int.reduceLE, Int.reduceNe]) | (simp (disch := (first | omega | rfl | exact rfl | (simp only [cells_v, List.length_cons, List.length_nil]; done) | exact VTy.width _)) only [hel, hely, hd, hdy, VTy.cells, VTy.isAgg, VTy.storable, VTy.eta, List.length_map, wrapS, wrapA, wrapA1, lt0, WA, Nat.reduceEqDiff, Nat.reduceAdd, Nat.reduceLT, Nat.reduceLeDiff, Nat.reduceMul, reduceIte, reduceCtorEq, Int.reduceEq, Int.reduceLT, Int.reduceLE, Int.reduceNe]) | (simp (disch := (first | omega | rfl | exact rfl | (simp only [cells_v, List.length_cons, List.length_nil]; done) | exact VTy.width _)) only [hel, hd, VTy.cells, VTy.isAgg, VTy.storable, VTy.eta, List.length_map, wrapS, wrapA, wrapA1, lt0, WA, Nat.reduceEqDiff, Nat.reduceAdd, Nat.reduceLT, Nat.reduceLeDiff, Nat.reduceMul, reduceIte, reduceCtorEq, Int.reduceEq, Int.reduceLT, Int.reduceLE, Int.reduceNe]) | (simp (disch := (first | omega | rfl | exact rfl | (simp only [cells_v, List.length_cons, List.length_nil]; done) | exact VTy.width _)) only [hd, hdy, VTy.cells, VTy.isAgg, VTy.storable, VTy.eta, List.length_map, wrapS, wrapA, wrapA1, lt0, WA, Nat.reduceEqDiff, Nat.reduceAdd, Nat.reduceLT, Nat.reduceLeDiff, Nat.reduceMul, reduceIte, reduceCtorEq, Int.reduceEq, Int.reduceLT, Int.reduceLE, Int.reduceNe]) | (simp (disch := (first | omega | rfl | exact rfl | (simp only [cells_v, List.length_cons, List.length_nil]; done) | exact VTy.width _)) only [hix, hd, VTy.cells, VTy.isAgg, VTy.storable, VTy.eta, List.length_map, wrapS, wrapA, wrapA1, lt0, WA, Nat.reduceEqDiff, Nat.reduceAdd, Nat.reduceLT, Nat.reduceLeDiff, Nat.reduceMul, reduceIte, reduceCtorEq, Int.reduceEq, Int.reduceLT, Int.reduceLE, Int.reduceNe]) | (simp (disch := (first | omega | rfl | exact rfl | (simp only [cells_v, List.length_cons, List.length_nil]; done) | exact VTy.width _)) only [hd, VTy.cells, VTy.isAgg, VTy.storable, VTy.eta, List.length_map, wrapS, wrapA, wrapA1, lt0, WA, Nat.reduceEqDiff, Nat.reduceAdd, Nat.reduceLT, Nat.reduceLeDiff, Nat.reduceMul, reduceIte, reduceCtorEq, Int.reduceEq, Int.reduceLT, Int.reduceLE, Int.reduceNe]) | (simp (disch := (first | omega | rfl | exact rfl | (simp only [cells_v, List.length_cons, List.length_nil]; done) | exact VTy.width _)) only [VTy.cells, VTy.isAgg, VTy.storable, VTy.eta, List.length_map, wrapS, wrapA, wrapA1, lt0, WA, Nat.reduceEqDiff, Nat.reduceAdd, Nat.reduceLT, Nat.reduceLeDiff, Nat.reduceMul, reduceIte, reduceCtorEq, Int.reduceEq, Int.reduceLT, Int.reduceLE, Int.reduceNe]) | (refine ite_dec (fun hq => ?_) (fun hq => ?_) <;> (try simp only [hq, decide_true, decide_false, Bool.not_true, Bool.not_false, Bool.not_eq_true', Bool.not_eq_false'])) | (refine ite_ndec (fun hq => ?_) (fun hq => ?_) <;> (try simp only [hq, decide_true, decide_false, Bool.not_true, Bool.not_false, Bool.not_eq_true', Bool.not_eq_false'])) | (refine ite_intro (fun hq => ?_) (fun hq => ?_) <;> (try simp only [hq, decide_true, decide_false, Bool.not_true, Bool.not_false, Bool.not_eq_true', Bool.not_eq_false'])) | (refine bind_push ?_) | (refine loop_list (addAll [] (k.frees kd)) (fun i (q : List Int) => [.sl (q.map avI), avI i]) (fun _ rest q => addAll q rest = addAll b (addAll [] (k.frees kd)) ∧ q.length + rest.length ≤ 4194304) b rfl ?_ (fun i2 k2 rest2 b2 hi2 hx2 hm2 hel2 hd2 hg2 => ?_) (fun b2 hd2 hg2 => ?_)) | (refine loop_list x.Kids (fun i (q : List Int) => [.sl (q.map avI), avI i]) (fun _ rest q => addAll q (VTy.freesL rest kd) = addAll [] (x.frees kd) ∧ q.length + (rest.length + (rest.map VTy.wt).sum) ≤ 4194304) (addAll [] (if x.Kind = kd then [x.N] else [])) rfl ?_ (fun i k rest b hi hx hm hel hd hg => ?_) (fun b hd hg => ?_)) | (refine bind_cut [.sl ((addAll b (addAll [] (k.frees kd))).map avI), avI k.Kind, avI k.N, avB k.Name, .sl (k.Kids.map VTy.av), .sl ((addAll [] (k.frees kd)).map avI)] rfl ?_ ?_) | (refine fcall_v (impl_frees_f k kd (by have := le_sum VTy.wt hm; omega)) (norI _) ?_))
    · exact free_init (by simp; omega)
    · have h1 := addAll_len (k.frees kd) []
      have h2 := k.frees_len kd
      have := hg.2
      simp only [List.length_cons, List.map_cons, List.sum_cons, List.length_nil] at this h1
      omega
    · have h3 := hg2.2
      simp only [List.length_cons] at h3
      refine ⟨by omega, hi2, by rw [getI hx2]; exact Nat.le_refl _, ?_⟩
      rw [getI hx2]
      refine call_v (contE_int b2 k2 (by omega)) ?_
      have e1 : addAll (addN b2 k2) rest2 = addAll b (addAll [] (k.frees kd)) := hg2.1
      have e2 := addN_len b2 k2
      have e3 := addAll_len (k.frees kd) []
      have e4 := k.frees_len kd
      have e5 := le_sum VTy.wt hm
      simp only [List.length_nil] at e3
      repeat' (first | (simp (disch := (first | omega | rfl | exact rfl | (simp only [cells_v, List.length_cons, List.length_nil]; done))) only [List.length_map, cells_v, List.getD_cons_zero, wrapS, wrapA, wrapA1, lt0, WA, Nat.reduceEqDiff, Nat.reduceAdd, Nat.reduceLT, Nat.reduceLeDiff, Nat.reduceMul, reduceIte, reduceCtorEq, Int.reduceEq, Int.reduceLT, Int.reduceLE, Int.reduceNe]) | (refine ite_dec (fun hq => ?_) (fun hq => ?_) <;> (try simp only [hq, decide_true, decide_false, Bool.not_true, Bool.not_false, Bool.not_eq_true', Bool.not_eq_false'])) | (refine ite_ndec (fun hq => ?_) (fun hq => ?_) <;> (try simp only [hq, decide_true, decide_false, Bool.not_true, Bool.not_false, Bool.not_eq_true', Bool.not_eq_false'])) | (refine ite_intro (fun hq => ?_) (fun hq => ?_) <;> (try simp only [hq, decide_true, decide_false, Bool.not_true, Bool.not_false, Bool.not_eq_true', Bool.not_eq_false'])) | (refine bind_push ?_))
      · have hn : hasN k2 b2 = false := by unfold hasN; simpa only [Bool.not_eq_true'] using hq
        refine ⟨fun y hy => by rw [hy]; rfl, by omega, by omega, hi2, addN b2 k2, ⟨e1, by omega⟩, ?_⟩
        simp (disch := omega) only [addN, hn, wrapA1, Bool.false_eq_true, if_false, List.map_append, List.map_cons, List.map_nil]
      · have hn : hasN k2 b2 = true := by unfold hasN; simpa only [Bool.not_eq_false'] using hq
        refine ⟨hi2, addN b2 k2, ⟨e1, by omega⟩, ?_⟩
        simp (disch := omega) only [addN, hn, wrapA1, if_true]
    · refine ⟨hi, _, free_step hg, ?_⟩
      have : b2 = addAll b (k.frees kd) := by rw [← addAll_nil]; exact hg2.1
      rw [this]
    · rw [← hg.1]; rfl
termination_by SizeOf.sizeOf x
decreasing_by all_goals exact VTy.Kids_lt hm
theorem impl_isVarKind_c (kd : Int) : PCon Try.prog F.impl_isVarKind [avI kd] (.v (.bool (inB kd 9 11))) := by
  refine T.impl_isVarKind_con rfl rfl ?_
  simp only [T.impl_isVarKind, WA, Nat.reduceEqDiff, Nat.reduceAdd, Nat.reduceLT, Nat.reduceLeDiff, Nat.reduceMul, reduceIte, reduceCtorEq, Int.reduceEq, Int.reduceLT, Int.reduceLE, Int.reduceNe]
  repeat' (first | (simp (disch := (first | omega | rfl | exact rfl | (simp only [cells_v, List.length_cons, List.length_nil]; done))) only [wrapS, wrapA, wrapA1, lt0, WA, Nat.reduceEqDiff, Nat.reduceAdd, Nat.reduceLT, Nat.reduceLeDiff, Nat.reduceMul, reduceIte, reduceCtorEq, Int.reduceEq, Int.reduceLT, Int.reduceLE, Int.reduceNe]) | (refine ite_dec (fun hq => ?_) (fun hq => ?_) <;> (try simp only [hq, decide_true, decide_false, Bool.not_true, Bool.not_false, Bool.not_eq_true', Bool.not_eq_false'])) | (refine ite_ndec (fun hq => ?_) (fun hq => ?_) <;> (try simp only [hq, decide_true, decide_false, Bool.not_true, Bool.not_false, Bool.not_eq_true', Bool.not_eq_false'])) | (refine ite_intro (fun hq => ?_) (fun hq => ?_) <;> (try simp only [hq, decide_true, decide_false, Bool.not_true, Bool.not_false, Bool.not_eq_true', Bool.not_eq_false'])) | (refine bind_push ?_) | (refine call_v (impl_within_c _ _ _) ?_))
theorem impl_Free_f (x : VTy) (kd : Int) (hb : x.wt ≤ 1048576) : FCon Try.prog F.impl_Free [x.av, avI kd] true 3 1 ((if x.okM && inB kd 9 11 then addAll [] (x.frees kd) else []).map avI) := by
  refine T.impl_Free_fcon rfl (by simp [AV.norefs, AV.noref, VTy.noref]) ?_
  simp only [T.impl_Free, VTy.cells, VTy.isAgg, VTy.storable, WA, Nat.reduceEqDiff, Nat.reduceAdd, Nat.reduceLT, Nat.reduceLeDiff, Nat.reduceMul, reduceIte, reduceCtorEq, Int.reduceEq, Int.reduceLT, Int.reduceLE, Int.reduceNe]
  repeat' (first | (simp (disch := (first | omega | rfl | exact rfl | (simp only [cells_v, List.length_cons, List.length_nil]; done) | exact VTy.width _)) only [VTy.cells, VTy.isAgg, VTy.storable, VTy.eta, List.length_map, wrapS, wrapA, wrapA1, lt0, WA, Nat.reduceEqDiff, Nat.reduceAdd, Nat.reduceLT, Nat.reduceLeDiff, Nat.reduceMul, reduceIte, reduceCtorEq, Int.reduceEq, Int.reduceLT, Int.reduceLE, Int.reduceNe]) | (refine ite_dec (fun hq => ?_) (fun hq => ?_) <;> (try simp only [hq, decide_true, decide_false, Bool.not_true, Bool.not_false, Bool.not_eq_true', Bool.not_eq_false'])) | (refine ite_ndec (fun hq => ?_) (fun hq => ?_) <;> (try simp only [hq, decide_true, decide_false, Bool.not_true, Bool.not_false, Bool.not_eq_true', Bool.not_eq_false'])) | (refine ite_intro (fun hq => ?_) (fun hq => ?_) <;> (try simp only [hq, decide_true, decide_false, Bool.not_true, Bool.not_false, Bool.not_eq_true', Bool.not_eq_false'])) | (refine bind_push ?_) | (refine call_v (impl_TyOk_c x hb) ?_) | (refine call_v (impl_isVarKind_c _) ?_) | (refine fcall_v (impl_frees_f x kd hb) (norI _) ?_))
  all_goals first | (have hg1 := hg; clear hv; simp_all; done) | (have hg1 := hg; simp_all; done) | (have hg1 := hg; clear hv; simp_all [-List.all_eq_true, -List.any_eq_true, -List.all_eq_false, -List.any_eq_false]; done) | (simp_all; done) | (simp_all [-List.all_eq_true, -List.any_eq_true, -List.all_eq_false, -List.any_eq_false]; done) | (refine avb ?_; (try clear hv); simp_all <;> (intros; omega)) | (refine avb ?_; simp_all <;> (intros; omega)) | (simp_all <;> (intros; omega)) | omega
end Go.Proofs.Ab
