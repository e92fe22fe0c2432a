/-
  Put: types for variables.
-/
import Derived.Test.YtlckfombibfhcaaCFree
set_option linter.unusedVariables false
set_option linter.unusedSimpArgs false
set_option linter.defProp false
namespace Go.Ab
set_option maxRecDepth 100000
set_option maxHeartbeats 4000000
mutual
def VTy.put : VTy → Int → List VTy → VTy
  | .mk kd n s kids, k, list => if kd = k ∧ n < (list.length : Int) then (list[n.toNat]?).getD (.mk kd n s kids) else .mk kd n s (VTy.puts kids k list)
def VTy.puts : List VTy → Int → List VTy → List VTy
  | [], _, _ => []
  | x :: l, k, list => x.put k list :: VTy.puts l k list
end
theorem VTy.puts_eq (l : List VTy) (k : Int) (list : List VTy) : VTy.puts l k list = l.map fun x => x.put k list := by
  induction l with
  | nil => rfl
  | cons x l ih => simp only [VTy.puts, ih, List.map_cons]
theorem VTy.put_eq (x : VTy) (k : Int) (list : List VTy) : x.put k list = if x.Kind = k ∧ x.N < (list.length : Int) then (list[x.N.toNat]?).getD x else .mk x.Kind x.N x.Name (x.Kids.map fun y => y.put k list) := by
  cases x; rw [VTy.put, VTy.puts_eq]; rfl
theorem VTy.okM_var {x : VTy} (h : x.okM = true) (hk : x.Kind = 9 ∨ x.Kind = 10 ∨ x.Kind = 11) : 0 ≤ x.N ∧ x.Kids = [] := by
  rw [x.okM_eq] at h
  simp only [Bool.and_eq_true, VTy.nodeM] at h
  have h1 := h.1.2
  have e1 : ¬ (x.Kind = 1 ∨ x.Kind = 2 ∨ x.Kind = 3 ∨ x.Kind = 4) := by omega
  have e2 : ¬ x.Kind = 5 := by omega
  have e3 : ¬ x.Kind = 6 := by omega
  have e4 : ¬ x.Kind = 7 := by omega
  have e5 : ¬ x.Kind = 8 := by omega
  rw [if_neg e1, if_neg e2, if_neg e3, if_neg e4, if_neg e5, if_pos hk] at h1
  simp only [Bool.and_eq_true, decide_eq_true_eq] at h1
  exact ⟨h1.2, List.eq_nil_of_length_eq_zero h1.1⟩
theorem VTy.okM_kid {x y : VTy} (h : x.okM = true) (hm : y ∈ x.Kids) : y.okM = true := by
  rw [x.okM_eq] at h
  simp only [Bool.and_eq_true] at h
  exact List.all_eq_true.1 h.2 y hm
end Go.Ab
namespace Go.Proofs.Ab
open Go.Ab
set_option maxRecDepth 100000
set_option maxHeartbeats 4000000
theorem norTy (l : List VTy) : AV.norefs (l.map VTy.av) = true := norefsM (f := VTy.av) VTy.noref
theorem spec_l4Copy_c (x : VTy) (hb : x.wt ≤ 1048576) : PCon Try.prog F.spec_l4Copy [x.av] x.av := by
  have hw := x.wt_eq
  refine T.spec_l4Copy_con rfl (by simp [AV.norefs, AV.noref, VTy.noref]) ?_
  simp only [T.spec_l4Copy, VTy.cells, VTy.isAgg, VTy.storable, WA, Nat.reduceEqDiff, Nat.reduceAdd, Nat.reduceLT, Nat.reduceLeDiff, Nat.reduceMul, reduceIte, reduceCtorEq, Int.reduceEq, Int.reduceLT, Int.reduceLE, Int.reduceNe]
  refine bind_cut [.sl (x.Kids.map VTy.av)] rfl ?_ ?_
  · repeat' (first | (simp (disch := (first | omega | rfl | exact rfl | (simp only [cells_v, List.length_cons, List.length_nil]; done) | exact VTy.width _)) only [hel, hely, hd, hdy, VTy.cells, VTy.isAgg, VTy.storable, VTy.eta, List.length_map, wrapS, wrapA, wrapA1, lt0, WA, Nat.reduceEqDiff, Nat.reduceAdd, Nat.reduceLT, Nat.reduceLeDiff, Nat.reduceMul, reduceIte, reduceCtorEq, Int.reduceEq, Int.reduceLT, Int.reduceLE, Int.reduceNe]) | (simp (disch := (first | omega | rfl | exact rfl | (simp only [cells_v, List.length_cons, List.length_nil]; done) | exact VTy.width _)) only [hel, hd, VTy.cells, VTy.isAgg, VTy.storable, VTy.eta, List.length_map, wrapS, wrapA, wrapA1, lt0, WA, Nat.reduceEqDiff, Nat.reduceAdd, Nat.reduceLT, Nat.reduceLeDiff, Nat.reduceMul, reduceIte, reduceCtorEq, Int.reduceEq, Int.reduceLT, Int.reduceLE, Int.reduceNe]) | (simp (disch := (first | omega | rfl | exact rfl | (simp only [cells_v, List.length_cons, List.length_nil]; done) | exact VTy.width _)) only [hd, hdy, VTy.cells, VTy.isAgg, VTy.storable, VTy.eta, List.length_map, wrapS, wrapA, wrapA1, lt0, WA, Nat.reduceEqDiff, Nat.reduceAdd, Nat.reduceLT, Nat.reduceLeDiff, Nat.reduceMul, reduceIte, reduceCtorEq, Int.reduceEq, Int.reduceLT, Int.reduceLE, Int.reduceNe]) | (simp (disch := (first | omega | rfl | exact rfl | (simp only [cells_v, List.length_cons, List.length_nil]; done) | exact VTy.width _)) only [hix, hd, VTy.cells, VTy.isAgg, VTy.storable, VTy.eta, List.length_map, wrapS, wrapA, wrapA1, lt0, WA, Nat.reduceEqDiff, Nat.reduceAdd, Nat.reduceLT, Nat.reduceLeDiff, Nat.reduceMul, reduceIte, reduceCtorEq, Int.reduceEq, Int.reduceLT, Int.reduceLE, Int.reduceNe]) | (simp (disch := (first | omega | rfl | exact rfl | (simp only [cells_v, List.length_cons, List.length_nil]; done) | exact VTy.width _)) only [hd, VTy.cells, VTy.isAgg, VTy.storable, VTy.eta, List.length_map, wrapS, wrapA, wrapA1, lt0, WA, Nat.reduceEqDiff, Nat.reduceAdd, Nat.reduceLT, Nat.reduceLeDiff, Nat.reduceMul, reduceIte, reduceCtorEq, Int.reduceEq, Int.reduceLT, Int.reduceLE, Int.reduceNe]) | (simp (disch := (first | omega | rfl | exact rfl | (simp only [cells_v, List.length_cons, List.length_nil]; done) | exact VTy.width _)) only [VTy.cells, VTy.isAgg, VTy.storable, VTy.eta, List.length_map, wrapS, wrapA, wrapA1, lt0, WA, Nat.reduceEqDiff, Nat.reduceAdd, Nat.reduceLT, Nat.reduceLeDiff, Nat.reduceMul, reduceIte, reduceCtorEq, Int.reduceEq, Int.reduceLT, Int.reduceLE, Int.reduceNe]) | (refine ite_dec (fun hq => ?_) (fun hq => ?_) <;> (try simp only [hq, decide_true, decide_false, Bool.not_true, Bool.not_false, Bool.not_eq_true', Bool.not_eq_false'])) | (refine ite_ndec (fun hq => ?_) (fun hq => ?_) <;> (try simp only [hq, decide_true, decide_false, Bool.not_true, Bool.not_false, Bool.not_eq_true', Bool.not_eq_false'])) | (refine ite_intro (fun hq => ?_) (fun hq => ?_) <;> (try simp only [hq, decide_true, decide_false, Bool.not_true, Bool.not_false, Bool.not_eq_true', Bool.not_eq_false'])) | (refine bind_push ?_) | (refine loop_list x.Kids (fun i (q : List VTy) => [.sl (q.map VTy.av), avI i]) (fun i rest q => q ++ rest = x.Kids) ([] : List VTy) rfl ?_ (fun i k rest b hi hx hm hel hd hg => ?_) (fun b hd hg => ?_)) | (refine call_p (spec_l4Copy_c k (by have := le_sum VTy.wt hm; omega)) (VTy.noref _) ?_))
    · refine ⟨fun y hy => by rw [hy]; exact VTy.width _, by have := congrArg List.length hg; simp at this; omega, by have := congrArg List.length hg; simp at this; omega, hi, b ++ [k], by rw [← hg]; simp, ?_⟩
      rw [List.map_append]; rfl
    · have hg' : b = x.Kids := by simpa using hg
      rw [hg']
  · simp only [VTy.cells, cells_v, isCell_v, WA, Nat.reduceEqDiff, Nat.reduceAdd, Nat.reduceLT, Nat.reduceLeDiff, Nat.reduceMul, reduceIte, reduceCtorEq, Int.reduceEq, Int.reduceLT, Int.reduceLE, Int.reduceNe]
    exact VTy.eta x
termination_by SizeOf.sizeOf x
decreasing_by all_goals exact VTy.Kids_lt hm
theorem spec_l4Put_c (x : VTy) (kd : Int) (l : List VTy) (hok : x.okM = true) (hkd : kd = 9 ∨ kd = 10 ∨ kd = 11) (hb : x.wt ≤ 1048576) (hl : l.length + (l.map VTy.wt).sum ≤ 1048576) : PCon Try.prog F.spec_l4Put [x.av, avI kd, .sl (l.map VTy.av)] (x.put kd l).av := by
  have hw := x.wt_eq
  have hpe := x.put_eq kd l
  have hn : AV.norefs [x.av, avI kd, .sl (l.map VTy.av)] = true := by simp [AV.norefs, AV.noref, VTy.noref, norTy]
  refine T.spec_l4Put_con rfl hn ?_
  simp only [T.spec_l4Put, VTy.cells, VTy.isAgg, VTy.storable, WA, Nat.reduceEqDiff, Nat.reduceAdd, Nat.reduceLT, Nat.reduceLeDiff, Nat.reduceMul, reduceIte, reduceCtorEq, Int.reduceEq, Int.reduceLT, Int.reduceLE, Int.reduceNe]
  refine bind_push ?_
  simp only [WA, Nat.reduceEqDiff, Nat.reduceAdd, Nat.reduceLT, Nat.reduceLeDiff, Nat.reduceMul, reduceIte, reduceCtorEq, Int.reduceEq, Int.reduceLT, Int.reduceLE, Int.reduceNe]
  refine bind_cut [.v (.bool (decide (x.Kind = kd) && decide (x.N < (l.length : Int))))] rfl ?_ ?_
  · repeat' (first | (simp (disch := (first | omega | rfl | exact rfl | (simp only [cells_v, List.length_cons, List.length_nil]; done) | exact VTy.width _)) only [VTy.cells, VTy.isAgg, VTy.storable, VTy.eta, List.length_map, wrapS, wrapA, wrapA1, lt0, WA, Nat.reduceEqDiff, Nat.reduceAdd, Nat.reduceLT, Nat.reduceLeDiff, Nat.reduceMul, reduceIte, reduceCtorEq, Int.reduceEq, Int.reduceLT, Int.reduceLE, Int.reduceNe]) | (refine ite_dec (fun hq => ?_) (fun hq => ?_) <;> (try simp only [hq, decide_true, decide_false, Bool.not_true, Bool.not_false, Bool.not_eq_true', Bool.not_eq_false'])) | (refine ite_ndec (fun hq => ?_) (fun hq => ?_) <;> (try simp only [hq, decide_true, decide_false, Bool.not_true, Bool.not_false, Bool.not_eq_true', Bool.not_eq_false'])) | (refine ite_intro (fun hq => ?_) (fun hq => ?_) <;> (try simp only [hq, decide_true, decide_false, Bool.not_true, Bool.not_false, Bool.not_eq_true', Bool.not_eq_false'])) | (refine bind_push ?_))
    all_goals simp [*]
  · simp only [VTy.cells, WA, Nat.reduceEqDiff, Nat.reduceAdd, Nat.reduceLT, Nat.reduceLeDiff, Nat.reduceMul, reduceIte, reduceCtorEq, Int.reduceEq, Int.reduceLT, Int.reduceLE, Int.reduceNe]
    refine ite_intro (fun h => ?_) (fun h => ?_)
    · simp only [Bool.and_eq_true, decide_eq_true_eq] at h
      have hv := x.okM_var hok (by omega)
      have hlt : x.N.toNat < l.length := by omega
      have hN : x.N = ((x.N.toNat : Nat) : Int) := by omega
      rw [if_pos h, List.getElem?_eq_getElem hlt, Option.getD_some] at hpe
      rw [hpe]
      have hml : l[x.N.toNat] ∈ l := List.getElem_mem hlt
      have hws := le_sum VTy.wt hml
      simp only [VTy.cells, WA, Nat.reduceEqDiff, Nat.reduceAdd, Nat.reduceLT, Nat.reduceLeDiff, Nat.reduceMul, reduceIte, reduceCtorEq, Int.reduceEq, Int.reduceLT, Int.reduceLE, Int.reduceNe]
      have hel : ∀ K, goT K (VTy.av l[x.N.toNat]) → elemP 4 (.sl (l.map VTy.av)) (.v (.int .i64 ((x.N.toNat : Nat) : Int))) K := fun K hk => elemM VTy.av hlt (VTy.width _) hk
      rw [← hN] at hel
      refine hel _ ?_
      simp only [VTy.width, VTy.isAgg, VTy.storable, WA, Nat.reduceEqDiff, Nat.reduceAdd, Nat.reduceLT, Nat.reduceLeDiff, Nat.reduceMul, reduceIte, reduceCtorEq, Int.reduceEq, Int.reduceLT, Int.reduceLE, Int.reduceNe]
      refine call_p (spec_l4Copy_c _ (by omega)) (VTy.noref _) ?_
      simp only [VTy.width, VTy.isAgg, VTy.storable, VTy.cells, WA, Nat.reduceEqDiff, Nat.reduceAdd, Nat.reduceLT, Nat.reduceLeDiff, Nat.reduceMul, reduceIte, reduceCtorEq, Int.reduceEq, Int.reduceLT, Int.reduceLE, Int.reduceNe]
      exact VTy.eta _
    · have h' : ¬ (x.Kind = kd ∧ x.N < (l.length : Int)) := by
        intro hc
        simp [hc.1, hc.2] at h
      rw [if_neg h'] at hpe
      rw [hpe]
      simp only [VTy.width, VTy.isAgg, VTy.storable, VTy.cells, WA, Nat.reduceEqDiff, Nat.reduceAdd, Nat.reduceLT, Nat.reduceLeDiff, Nat.reduceMul, reduceIte, reduceCtorEq, Int.reduceEq, Int.reduceLT, Int.reduceLE, Int.reduceNe]
      refine bind_cut [.sl ((x.Kids.map fun y => y.put kd l).map VTy.av)] rfl ?_ ?_
      · repeat' (first | (simp (disch := (first | omega | rfl | exact rfl | (simp only [cells_v, List.length_cons, List.length_nil]; done) | exact VTy.width _)) only [hel, hely, hd, hdy, VTy.cells, VTy.isAgg, VTy.storable, VTy.eta, List.length_map, wrapS, wrapA, wrapA1, lt0, WA, Nat.reduceEqDiff, Nat.reduceAdd, Nat.reduceLT, Nat.reduceLeDiff, Nat.reduceMul, reduceIte, reduceCtorEq, Int.reduceEq, Int.reduceLT, Int.reduceLE, Int.reduceNe]) | (simp (disch := (first | omega | rfl | exact rfl | (simp only [cells_v, List.length_cons, List.length_nil]; done) | exact VTy.width _)) only [hel, hd, VTy.cells, VTy.isAgg, VTy.storable, VTy.eta, List.length_map, wrapS, wrapA, wrapA1, lt0, WA, Nat.reduceEqDiff, Nat.reduceAdd, Nat.reduceLT, Nat.reduceLeDiff, Nat.reduceMul, reduceIte, reduceCtorEq, Int.reduceEq, Int.reduceLT, Int.reduceLE, Int.reduceNe]) | (simp (disch := (first | omega | rfl | exact rfl | (simp only [cells_v, List.length_cons, List.length_nil]; done) | exact VTy.width _)) only [hd, hdy, VTy.cells, VTy.isAgg, VTy.storable, VTy.eta, List.length_map, wrapS, wrapA, wrapA1, lt0, WA, Nat.reduceEqDiff, Nat.reduceAdd, Nat.reduceLT, Nat.reduceLeDiff, Nat.reduceMul, reduceIte, reduceCtorEq, Int.reduceEq, Int.reduceLT, Int.reduceLE, Int.reduceNe]) | (simp (disch := (first | omega | rfl | exact rfl | (simp only [cells_v, List.length_cons, List.length_nil]; done) | exact VTy.width _)) only [hix, hd, VTy.cells, VTy.isAgg, VTy.storable, VTy.eta, List.length_map, wrapS, wrapA, wrapA1, lt0, WA, Nat.reduceEqDiff, Nat.reduceAdd, Nat.reduceLT, Nat.reduceLeDiff, Nat.reduceMul, reduceIte, reduceCtorEq, Int.reduceEq, Int.reduceLT, Int.reduceLE, Int.reduceNe]) | (simp (disch := (first | omega | rfl | exact rfl | (simp only [cells_v, List.length_cons, List.length_nil]; done) | exact VTy.width _)) only [hd, VTy.cells, VTy.isAgg, VTy.storable, VTy.eta, List.length_map, wrapS, wrapA, wrapA1, lt0, WA, Nat.reduceEqDiff, Nat.reduceAdd, Nat.reduceLT, Nat.reduceLeDiff, Nat.reduceMul, reduceIte, reduceCtorEq, Int.reduceEq, Int.reduceLT, Int.reduceLE, Int.reduceNe]) | (simp (disch := (first | omega | rfl | exact rfl | (simp only [cells_v, List.length_cons, List.length_nil]; done) | exact VTy.width _)) only [VTy.cells, VTy.isAgg, VTy.storable, VTy.eta, List.length_map, wrapS, wrapA, wrapA1, lt0, WA, Nat.reduceEqDiff, Nat.reduceAdd, Nat.reduceLT, Nat.reduceLeDiff, Nat.reduceMul, reduceIte, reduceCtorEq, Int.reduceEq, Int.reduceLT, Int.reduceLE, Int.reduceNe]) | (refine ite_dec (fun hq => ?_) (fun hq => ?_) <;> (try simp only [hq, decide_true, decide_false, Bool.not_true, Bool.not_false, Bool.not_eq_true', Bool.not_eq_false'])) | (refine ite_ndec (fun hq => ?_) (fun hq => ?_) <;> (try simp only [hq, decide_true, decide_false, Bool.not_true, Bool.not_false, Bool.not_eq_true', Bool.not_eq_false'])) | (refine ite_intro (fun hq => ?_) (fun hq => ?_) <;> (try simp only [hq, decide_true, decide_false, Bool.not_true, Bool.not_false, Bool.not_eq_true', Bool.not_eq_false'])) | (refine bind_push ?_) | (refine loop_list x.Kids (fun i (q : List VTy) => [.sl (q.map VTy.av), avI i]) (fun i rest q => q ++ rest.map (fun y => y.put kd l) = x.Kids.map fun y => y.put kd l) ([] : List VTy) rfl ?_ (fun i k rest b hi hx hm hel hd hg => ?_) (fun b hd hg => ?_)) | (refine call_p (spec_l4Put_c k kd l (VTy.okM_kid hok hm) hkd (by have := le_sum VTy.wt hm; omega) hl) (VTy.noref _) ?_))
        · have hg' := congrArg List.length hg
          simp at hg'
          refine ⟨fun y hy => by rw [hy]; exact VTy.width _, by omega, by omega, hi, b ++ [k.put kd l], by rw [← hg]; simp, ?_⟩
          rw [List.map_append]; rfl
        · have hg' : b = x.Kids.map fun y => y.put kd l := by simpa using hg
          rw [hg']
      · simp only [VTy.cells, cells_v, isCell_v, WA, Nat.reduceEqDiff, Nat.reduceAdd, Nat.reduceLT, Nat.reduceLeDiff, Nat.reduceMul, reduceIte, reduceCtorEq, Int.reduceEq, Int.reduceLT, Int.reduceLE, Int.reduceNe]
        exact VTy.eta (.mk x.Kind x.N x.Name (x.Kids.map fun y => y.put kd l))
termination_by SizeOf.sizeOf x
decreasing_by all_goals exact VTy.Kids_lt hm
def putM (x : VTy) (kd : Int) (l : List VTy) : VTy := if x.okM && inB kd 9 11 then x.put kd l else x
theorem spec_Put_c (x : VTy) (kd : Int) (l : List VTy) (hb : x.wt ≤ 1048576) (hl : l.length + (l.map VTy.wt).sum ≤ 1048576) : PCon Try.prog F.spec_Put [x.av, avI kd, .sl (l.map VTy.av)] (putM x kd l).av := by
  have hn : AV.norefs [x.av, avI kd, .sl (l.map VTy.av)] = true := by simp [AV.norefs, AV.noref, VTy.noref, norTy]
  refine T.spec_Put_con rfl hn ?_
  simp only [T.spec_Put, VTy.cells, VTy.isAgg, VTy.storable, VTy.width, WA, Nat.reduceEqDiff, Nat.reduceAdd, Nat.reduceLT, Nat.reduceLeDiff, Nat.reduceMul, reduceIte, reduceCtorEq, Int.reduceEq, Int.reduceLT, Int.reduceLE, Int.reduceNe]
  refine bind_push ?_
  simp only [WA, Nat.reduceEqDiff, Nat.reduceAdd, Nat.reduceLT, Nat.reduceLeDiff, Nat.reduceMul, reduceIte, reduceCtorEq, Int.reduceEq, Int.reduceLT, Int.reduceLE, Int.reduceNe]
  refine bind_cut [.v (.bool (!(x.okM && inB kd 9 11)))] rfl ?_ ?_
  · repeat' (first | (simp (disch := (first | omega | rfl | exact rfl | (simp only [cells_v, List.length_cons, List.length_nil]; done) | exact VTy.width _)) only [VTy.cells, VTy.isAgg, VTy.storable, VTy.eta, wrapS, wrapA, wrapA1, lt0, WA, Nat.reduceEqDiff, Nat.reduceAdd, Nat.reduceLT, Nat.reduceLeDiff, Nat.reduceMul, reduceIte, reduceCtorEq, Int.reduceEq, Int.reduceLT, Int.reduceLE, Int.reduceNe]) | (refine ite_dec (fun hq => ?_) (fun hq => ?_) <;> (try simp only [hq, decide_true, decide_false, Bool.not_true, Bool.not_false, Bool.not_eq_true', Bool.not_eq_false'])) | (refine ite_ndec (fun hq => ?_) (fun hq => ?_) <;> (try simp only [hq, decide_true, decide_false, Bool.not_true, Bool.not_false, Bool.not_eq_true', Bool.not_eq_false'])) | (refine ite_intro (fun hq => ?_) (fun hq => ?_) <;> (try simp only [hq, decide_true, decide_false, Bool.not_true, Bool.not_false, Bool.not_eq_true', Bool.not_eq_false'])) | (refine bind_push ?_) | (refine call_v (spec_TyOk_c x hb) ?_) | (refine call_v (spec_l1In_c _ _ _) ?_))
    all_goals simp_all
  · simp only [WA, Nat.reduceEqDiff, Nat.reduceAdd, Nat.reduceLT, Nat.reduceLeDiff, Nat.reduceMul, reduceIte, reduceCtorEq, Int.reduceEq, Int.reduceLT, Int.reduceLE, Int.reduceNe]
    refine ite_intro (fun h => ?_) (fun h => ?_)
    · have h' : (x.okM && inB kd 9 11) = false := by simpa only [Bool.not_eq_true'] using h
      rw [putM, h']
      simp only [VTy.width, VTy.isAgg, VTy.storable, WA, Nat.reduceEqDiff, Nat.reduceAdd, Nat.reduceLT, Nat.reduceLeDiff, Nat.reduceMul, reduceIte, reduceCtorEq, Int.reduceEq, Int.reduceLT, Int.reduceLE, Int.reduceNe]
      refine call_p (spec_l4Copy_c x hb) (VTy.noref _) ?_
      simp only [VTy.width, VTy.isAgg, VTy.storable, VTy.cells, WA, Nat.reduceEqDiff, Nat.reduceAdd, Nat.reduceLT, Nat.reduceLeDiff, Nat.reduceMul, reduceIte, reduceCtorEq, Int.reduceEq, Int.reduceLT, Int.reduceLE, Int.reduceNe]
      exact VTy.eta _
    · have h' : (x.okM && inB kd 9 11) = true := by simpa only [Bool.not_eq_false'] using h
      rw [putM, h', if_pos rfl]
      simp only [inB, Bool.and_eq_true, decide_eq_true_eq] at h'
      simp only [VTy.width, VTy.isAgg, VTy.storable, WA, Nat.reduceEqDiff, Nat.reduceAdd, Nat.reduceLT, Nat.reduceLeDiff, Nat.reduceMul, reduceIte, reduceCtorEq, Int.reduceEq, Int.reduceLT, Int.reduceLE, Int.reduceNe]
      refine call_p (spec_l4Put_c x kd l h'.1 (by omega) hb hl) (VTy.noref _) ?_
      simp only [VTy.width, VTy.isAgg, VTy.storable, VTy.cells, WA, Nat.reduceEqDiff, Nat.reduceAdd, Nat.reduceLT, Nat.reduceLeDiff, Nat.reduceMul, reduceIte, reduceCtorEq, Int.reduceEq, Int.reduceLT, Int.reduceLE, Int.reduceNe]
      exact VTy.eta _
end Go.Proofs.Ab
