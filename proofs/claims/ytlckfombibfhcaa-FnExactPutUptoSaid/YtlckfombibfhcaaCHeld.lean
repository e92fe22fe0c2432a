/-
  Marks that are held.
-/
import Derived.Test.YtlckfombibfhcaaOwnK
import Derived.Test.YtlckfombibfhcaaGM
set_option linter.unusedVariables false
set_option linter.unusedSimpArgs false
set_option linter.defProp false
namespace Go.Proofs.Ab
open Go.Ab
set_option maxRecDepth 100000
set_option maxHeartbeats 4000000
set_option maxHeartbeats 4000000
theorem heldTyS_c (l : List VTy) (k : Nat) (hb : l.length + (l.map VTy.wt).sum ≤ 1152921504606846976) (h : k + AV.cnts (l.map VTy.av) ≤ 4611686018427387904) :
    PCon Try.prog F.laws_heldTyS [.sl ((VTy.markL l k).map VTy.av), .v (.int .i64 (k : Int))] (.v (.int .i64 ((k + AV.cnts (l.map VTy.av) : Nat) : Int))) := by
  have hln := VTy.markL_len l k
  generalize hK : k + AV.cnts (l.map VTy.av) = K at *
  refine T.laws_heldTyS_con rfl (by simp only [AV.norefs, AV.noref, Bool.and_true]; exact norefsM (f := VTy.av) VTy.noref) ?_
  simp only [T.laws_heldTyS, WA, Nat.reduceEqDiff, Nat.reduceAdd, Nat.reduceLT, Nat.reduceLeDiff, Nat.reduceMul, reduceIte, reduceCtorEq, Int.reduceEq, Int.reduceLT, Int.reduceLE, Int.reduceNe]
  refine bind_push ?_
  simp only [WA, Nat.reduceEqDiff, Nat.reduceAdd, Nat.reduceLT, Nat.reduceLeDiff, Nat.reduceMul, reduceIte, reduceCtorEq, Int.reduceEq, Int.reduceLT, Int.reduceLE, Int.reduceNe]
  refine loop_list (VTy.markL l k) (fun i (q : Nat × List VTy) => [.v (.int .i64 (q.1 : Int)), avI i]) (fun i rest q => rest = VTy.markL q.2 q.1 ∧ q.1 + AV.cnts (q.2.map VTy.av) = K ∧ ∀ y ∈ q.2, y ∈ l) (k, l) rfl ⟨rfl, hK, fun _ h => h⟩ (fun i y rest b hi hx hm hel hd hg => ?_) (fun b hd hg => ?_)
  · obtain ⟨j, m⟩ := b
    obtain ⟨g1, g2, g3⟩ := hg
    simp only at g1 g2 g3
    cases m with
    | nil => simp [VTy.markL] at g1
    | cons x r =>
    simp only [VTy.markL, List.cons.injEq] at g1
    obtain ⟨rfl, rfl⟩ := g1
    have hxl := g3 x (by simp)
    have hxs := le_sum VTy.wt hxl
    have hlp := List.length_pos_of_mem hxl
    have hxw := x.wt_eq
    have hxc := x.cnt_eq
    simp only [List.map_cons, AV.cnts, hxc] at g2
    have c0 : (x.mark j).av.cells = [.v (.int .i64 ((j : Nat) : Int)), .v (.int .i64 ((j + 1 : Nat) : Int)), .v (.string (markT (j + 1 + 1))), .sl ((VTy.markL x.Kids (j + 1 + 1 + 1)).map VTy.av)] := by
      rw [VTy.cells, VTy.mark_Kind, VTy.mark_N, VTy.mark_Name, VTy.mark_Kids]
    have hrec := heldTyS_c x.Kids (j + 1 + 1 + 1) (by omega) (by omega)
    repeat' (first | (simp (disch := (first | omega | rfl | exact rfl | (simp only [cells_v, List.length_cons, List.length_nil]; done) | exact VTy.width _)) only [hel, hd, VTy.cells, VTy.isAgg, VTy.storable, VTy.eta, c0, List.length_map, wrapS, wrapA, wrapA1, lt0, WA, Nat.reduceEqDiff, Nat.reduceAdd, Nat.reduceLT, Nat.reduceLeDiff, Nat.reduceMul, reduceIte, reduceCtorEq, Int.reduceEq, Int.reduceLT, Int.reduceLE, Int.reduceNe]) | (simp (disch := (first | omega | rfl | exact rfl | (simp only [cells_v, List.length_cons, List.length_nil]; done) | exact VTy.width _)) only [hd, VTy.cells, VTy.isAgg, VTy.storable, VTy.eta, c0, List.length_map, wrapS, wrapA, wrapA1, lt0, WA, Nat.reduceEqDiff, Nat.reduceAdd, Nat.reduceLT, Nat.reduceLeDiff, Nat.reduceMul, reduceIte, reduceCtorEq, Int.reduceEq, Int.reduceLT, Int.reduceLE, Int.reduceNe]) | (simp (disch := (first | omega | rfl | exact rfl | (simp only [cells_v, List.length_cons, List.length_nil]; done) | exact VTy.width _)) only [VTy.cells, VTy.isAgg, VTy.storable, VTy.eta, c0, List.length_map, wrapS, wrapA, wrapA1, lt0, WA, Nat.reduceEqDiff, Nat.reduceAdd, Nat.reduceLT, Nat.reduceLeDiff, Nat.reduceMul, reduceIte, reduceCtorEq, Int.reduceEq, Int.reduceLT, Int.reduceLE, Int.reduceNe]) | (refine ite_dec (fun hq => ?_) (fun hq => ?_) <;> (try simp only [hq, decide_true, decide_false, Bool.not_true, Bool.not_false, Bool.not_eq_true', Bool.not_eq_false'])) | (refine ite_ndec (fun hq => ?_) (fun hq => ?_) <;> (try simp only [hq, decide_true, decide_false, Bool.not_true, Bool.not_false, Bool.not_eq_true', Bool.not_eq_false'])) | (refine ite_intro (fun hq => ?_) (fun hq => ?_) <;> (try simp only [hq, decide_true, decide_false, Bool.not_true, Bool.not_false, Bool.not_eq_true', Bool.not_eq_false'])) | (refine bind_push ?_) | (refine call_v (markText_c _ (by omega)) ?_) | (refine call_v hrec ?_))
    have e : j + 1 + 1 + 1 + AV.cnts (x.Kids.map VTy.av) = j + x.av.cnt := by omega
    refine ⟨hi, (j + x.av.cnt, r), ⟨rfl, by show j + x.av.cnt + AV.cnts (r.map VTy.av) = K; omega, fun z hz => g3 z (by simp [hz])⟩, ?_⟩
    rw [e]
  · obtain ⟨j, m⟩ := b
    obtain ⟨g1, g2, g3⟩ := hg
    simp only at g1 g2 g3
    cases m with
    | cons x r => simp [VTy.markL] at g1
    | nil =>
    simp only [List.map_nil, AV.cnts, Nat.add_zero] at g2
    subst g2
    repeat' (first | (simp (disch := (first | omega | rfl | exact rfl | (simp only [cells_v, List.length_cons, List.length_nil]; done) | exact VTy.width _)) only [hel, hd, VTy.cells, VTy.isAgg, VTy.storable, VTy.eta, List.length_map, wrapS, wrapA, wrapA1, lt0, WA, Nat.reduceEqDiff, Nat.reduceAdd, Nat.reduceLT, Nat.reduceLeDiff, Nat.reduceMul, reduceIte, reduceCtorEq, Int.reduceEq, Int.reduceLT, Int.reduceLE, Int.reduceNe]) | (simp (disch := (first | omega | rfl | exact rfl | (simp only [cells_v, List.length_cons, List.length_nil]; done) | exact VTy.width _)) only [hd, VTy.cells, VTy.isAgg, VTy.storable, VTy.eta, List.length_map, wrapS, wrapA, wrapA1, lt0, WA, Nat.reduceEqDiff, Nat.reduceAdd, Nat.reduceLT, Nat.reduceLeDiff, Nat.reduceMul, reduceIte, reduceCtorEq, Int.reduceEq, Int.reduceLT, Int.reduceLE, Int.reduceNe]) | (simp (disch := (first | omega | rfl | exact rfl | (simp only [cells_v, List.length_cons, List.length_nil]; done) | exact VTy.width _)) only [VTy.cells, VTy.isAgg, VTy.storable, VTy.eta, List.length_map, wrapS, wrapA, wrapA1, lt0, WA, Nat.reduceEqDiff, Nat.reduceAdd, Nat.reduceLT, Nat.reduceLeDiff, Nat.reduceMul, reduceIte, reduceCtorEq, Int.reduceEq, Int.reduceLT, Int.reduceLE, Int.reduceNe]) | (refine ite_dec (fun hq => ?_) (fun hq => ?_) <;> (try simp only [hq, decide_true, decide_false, Bool.not_true, Bool.not_false, Bool.not_eq_true', Bool.not_eq_false'])) | (refine ite_ndec (fun hq => ?_) (fun hq => ?_) <;> (try simp only [hq, decide_true, decide_false, Bool.not_true, Bool.not_false, Bool.not_eq_true', Bool.not_eq_false'])) | (refine ite_intro (fun hq => ?_) (fun hq => ?_) <;> (try simp only [hq, decide_true, decide_false, Bool.not_true, Bool.not_false, Bool.not_eq_true', Bool.not_eq_false'])) | (refine bind_push ?_))
termination_by l.length + (l.map VTy.wt).sum
decreasing_by all_goals omega
/-- the value with its kids marked -/
def _root_.Go.Ab.VTy.kept (x : VTy) (k : Nat) : VTy := .mk x.Kind x.N x.Name (VTy.markL x.Kids k)
theorem heldTy_c (x : VTy) (k : Nat) (hb : x.wt ≤ 1152921504606846976) (h : k + AV.cnts (x.Kids.map VTy.av) ≤ 4611686018427387904) :
    PCon Try.prog F.laws_heldTy [(VTy.kept x k).av, .v (.int .i64 (k : Int))] (.v (.int .i64 ((k + AV.cnts (x.Kids.map VTy.av) : Nat) : Int))) := by
  have hw := x.wt_eq
  have hrec := heldTyS_c x.Kids k (by omega) h
  have e : (VTy.kept x k).Kids = VTy.markL x.Kids k := rfl
  refine T.laws_heldTy_con rfl (by simp [AV.norefs, AV.noref, VTy.noref]) ?_
  simp only [T.laws_heldTy, VTy.cells, VTy.isAgg, VTy.storable, VTy.width, e, WA, Nat.reduceEqDiff, Nat.reduceAdd, Nat.reduceLT, Nat.reduceLeDiff, Nat.reduceMul, reduceIte, reduceCtorEq, Int.reduceEq, Int.reduceLT, Int.reduceLE, Int.reduceNe]
  refine call_v hrec ?_
  simp only [lt0, WA, Nat.reduceEqDiff, Nat.reduceAdd, Nat.reduceLT, Nat.reduceLeDiff, Nat.reduceMul, reduceIte, reduceCtorEq, Int.reduceEq, Int.reduceLT, Int.reduceLE, Int.reduceNe]
theorem _root_.Go.Ab.VTy.kept_spx (x : VTy) (k n : Nat) : (spx n (VTy.kept x k).av).1 = (spx n x.av).1 := by rw [VTy.spx, VTy.spx]; rfl
/-- marks behind a value -/
theorem markTy_keep (x : VTy) (k : Nat) (h : k + AV.cnts (x.Kids.map VTy.av) ≤ 4611686018427387904) : Con Try.prog F.laws_markTy [(spx 0 x.av).1, .v (.int .i64 (k : Int))] (spx 0 x.av).2 (.v (.int .i64 ((k + AV.cnts (x.Kids.map VTy.av) : Nat) : Int))) (spx 0 (VTy.kept x k).av).2 := by
  simp only [VTy.spx]
  refine con_of_wp A.laws_markTy_ok rfl ?_
  simp only [A.laws_markTy, ↓OD, OA, Nat.reduceEqDiff, reduceCtorEq, Nat.reduceAdd, Nat.reduceLT, Nat.reduceLeDiff, reduceIte]
  refine callK_intro _ _ (Con.turn (markTyS_keep x.Kids k (by omega)) 0 rfl) ?_
  simp only [↓OD, OA, Nat.reduceEqDiff, reduceCtorEq, Nat.reduceAdd, Nat.reduceLT, Nat.reduceLeDiff, reduceIte]
  exact ret_tmp (.inl rfl) (by simp only [↓OD, OA, Nat.reduceEqDiff, reduceCtorEq, Nat.reduceAdd, Nat.reduceLT, Nat.reduceLeDiff, reduceIte]) rfl (by simp) (by simp [AObj.inScope]) rfl
end Go.Proofs.Ab
