/-
  MARKS THAT ARE KEPT, by types (printed by wip/tool/ownk.py).
-/
import Derived.Test.YtlckfombibfhcaaOwn
set_option linter.unusedVariables false
set_option linter.unusedSimpArgs false
set_option linter.defProp false
namespace Go.Ab
set_option maxRecDepth 100000
mutual
def VTy.mark : VTy → Nat → VTy
  | .mk q_Kind q_N q_Name q_Kids, k => .mk (((k : Nat) : Int)) (((k + 1 : Nat) : Int)) (markT (k + 1 + 1)) (VTy.markL q_Kids (k + 1 + 1 + 1))
def VTy.markL : List VTy → Nat → List VTy
  | [], _ => []
  | x :: l, k => x.mark k :: VTy.markL l (k + x.av.cnt)
end
theorem VTy.markL_len : ∀ (l : List VTy) (k : Nat), (VTy.markL l k).length = l.length
  | [], _ => rfl
  | x :: l, k => by simp [VTy.markL, VTy.markL_len l]
theorem VTy.markL_snoc (x : VTy) : ∀ (l : List VTy) (k : Nat), VTy.markL (l ++ [x]) k = VTy.markL l k ++ [x.mark (k + AV.cnts (l.map VTy.av))]
  | [], k => by simp [VTy.markL, AV.cnts]
  | y :: l, k => by simp only [List.cons_append, VTy.markL, VTy.markL_snoc x l, List.map_cons, AV.cnts, Nat.add_assoc]
theorem VTy.mark_Kind (x : VTy) (k : Nat) : (x.mark k).Kind = ((k : Nat) : Int) := by cases x; simp only [VTy.mark]; rfl
theorem VTy.mark_N (x : VTy) (k : Nat) : (x.mark k).N = ((k + 1 : Nat) : Int) := by cases x; simp only [VTy.mark]; rfl
theorem VTy.mark_Name (x : VTy) (k : Nat) : (x.mark k).Name = markT (k + 1 + 1) := by cases x; simp only [VTy.mark]; rfl
theorem VTy.mark_Kids (x : VTy) (k : Nat) : (x.mark k).Kids = VTy.markL x.Kids (k + 1 + 1 + 1) := by cases x; simp only [VTy.mark]; rfl
theorem VTy.spx_mark (x : VTy) (k n : Nat) : Go.Ab.spx n (x.mark k).av = (.agg [.v (.int .i64 (((k : Nat) : Int))), .v (.int .i64 (((k + 1 : Nat) : Int))), .v (.string (markT (k + 1 + 1))), .own (n)], [.own (.sl ((VTy.markL x.Kids (k + 1 + 1 + 1)).map VTy.av))]) := by rw [VTy.spx]; simp only [VTy.mark_Kind, VTy.mark_N, VTy.mark_Name, VTy.mark_Kids]
theorem cnts_append : ∀ l m : List AV, AV.cnts (l ++ m) = AV.cnts l + AV.cnts m
  | [], m => by simp [AV.cnts]
  | x :: l, m => by simp only [List.cons_append, AV.cnts, cnts_append l m, Nat.add_assoc]
theorem cnts_snoc (x : AV) : ∀ l : List AV, AV.cnts (l ++ [x]) = AV.cnts l + x.cnt
  | [] => by simp [AV.cnts]
  | y :: l => by simp only [List.cons_append, AV.cnts, cnts_snoc x l, Nat.add_assoc]
end Go.Ab
namespace Go.Proofs.Ab
open Go.Ab
set_option maxRecDepth 100000
set_option maxHeartbeats 4000000
theorem markTyS_keep (l : List VTy) (k : Nat) (h : k + AV.cnts (l.map VTy.av) ≤ 4611686018427387904) : Con Try.prog F.laws_markTyS [.own 0, .v (.int .i64 (k : Int))] [.own (.sl (l.map VTy.av))] (.v (.int .i64 ((k + AV.cnts (l.map VTy.av) : Nat) : Int))) [.own (.sl ((VTy.markL l k).map VTy.av))] := by
  by_cases hl : l = []
  · subst hl; exact (markTyS_0 k).lendv (.cons (.own 0 _ rfl) (.cons (.same _ rfl) .nil))
  have he : ∀ (l : List VTy), ∀ x ∈ l.map VTy.av, x.elem = true := fun l y hy => by obtain ⟨z, _, rfl⟩ := List.mem_map.1 hy; exact VTy.elem z
  refine Con.opensK 4 (by simpa using hl) (fun y hy => by obtain ⟨z, _, rfl⟩ := List.mem_map.1 hy; exact VTy.width z) (spl_cover (fun y hy => by obtain ⟨z, _, rfl⟩ := List.mem_map.1 hy; exact VTy.isAgg z)) (fun e => spl_split (he l) _) rfl rfl
    (by rw [List.length_map, List.length_map, VTy.markL_len]) (fun e => spl_split (he _) _) (fun e => ?_)
  have hlen := cnts_length VTy.cnt_pos l
  generalize hK : k + AV.cnts (l.map VTy.av) = K at *
  refine con_of_wp A.laws_markTyS_ok rfl ?_
  simp only [A.laws_markTyS, ↓OD, OA, Nat.reduceEqDiff, reduceCtorEq, Nat.reduceAdd, Nat.reduceLT, Nat.reduceLeDiff, reduceIte]
  refine loopK_intro (ι := List VTy × List VTy) (fun p => p.1 ++ p.2 = l)
    (fun p => envL [(0, .row 0 (l.map VTy.av).length), (1, .v (.int .i64 ((k + AV.cnts (p.1.map VTy.av) : Nat) : Int))), (5, .v (.int .i64 (p.1.length : Int)))])
    (fun p => .live e 4 ((spl 1 ((VTy.markL p.1 k).map VTy.av)).1 ++ (spl (1 + (spl 1 ((VTy.markL p.1 k).map VTy.av)).2.length) (p.2.map VTy.av)).1) :: ((spl 1 ((VTy.markL p.1 k).map VTy.av)).2 ++ (spl (1 + (spl 1 ((VTy.markL p.1 k).map VTy.av)).2.length) (p.2.map VTy.av)).2)) (fun p => p.2.length) ([], l) rfl
    (.of_eq (by simp [AV.cnts]) (by simp [VTy.markL, spl])) ?_
  rintro ⟨pre, rest⟩ hpl
  simp only at hpl
  have hcl : AV.cnts (l.map VTy.av) = AV.cnts (pre.map VTy.av) + AV.cnts (rest.map VTy.av) := by rw [← hpl, List.map_append, cnts_append]
  have hll : pre.length + rest.length = l.length := by rw [← hpl, List.length_append]
  have hB : (spl 1 ((VTy.markL pre k).map VTy.av)).1.length = pre.length := by rw [spl_length, List.length_map, VTy.markL_len]
  have hsn : ∀ x, spl 1 ((VTy.markL (pre ++ [x]) k).map VTy.av) = ((spl 1 ((VTy.markL pre k).map VTy.av)).1 ++ [(spx (1 + (spl 1 ((VTy.markL pre k).map VTy.av)).2.length) (x.mark (k + AV.cnts (pre.map VTy.av))).av).1], (spl 1 ((VTy.markL pre k).map VTy.av)).2 ++ (spx 0 (x.mark (k + AV.cnts (pre.map VTy.av))).av).2) := fun x => by
    rw [VTy.markL_snoc, List.map_append, List.map_cons, List.map_nil, spl_snoc]
  simp only [List.length_map, spl_length, VTy.markL_len, ↓OD, OA, Nat.reduceEqDiff, reduceCtorEq, Nat.reduceAdd, Nat.reduceLT, Nat.reduceLeDiff, reduceIte]
  refine ⟨by omega, ?_⟩
  refine condK_intro (fun hc => ?_) (fun hc => ?_)
  · cases rest with
    | nil => simp at hc hll; omega
    | cons x r =>
    have hx := VTy.cnt_eq x
    have hxl : x ∈ l := by rw [← hpl]; simp
    have hlp := List.length_pos_of_mem hxl
    have hxs := le_sum VTy.wt hxl
    have hxw := VTy.wt_eq x
    have hsnx := hsn x
    generalize hBB : (spl 1 ((VTy.markL pre k).map VTy.av)).1 = B at *
    generalize hDD : (spl 1 ((VTy.markL pre k).map VTy.av)).2 = D at *
    generalize hj : k + AV.cnts (pre.map VTy.av) = j at *
    simp only [List.map_cons, AV.cnts, hx] at hcl
    have h0s := markTyS_keep x.Kids
    have hl1 : (spl (1 + D.length + 1) (r.map VTy.av)).1.length = r.length := by rw [spl_length, List.length_map]
    simp only [List.length_cons] at hll
    have hBl : ∀ y : AV, (B ++ y :: (spl (1 + D.length + 1) (r.map VTy.av)).1).length = l.length := fun y => by rw [List.length_append, List.length_cons, hl1, hB]; omega
    have hmg : ∀ (y d : AV), (B ++ y :: (spl (1 + D.length + 1) (r.map VTy.av)).1).getD pre.length d = y := fun y d => mid_get hB
    have hms : ∀ (y z : AV), (B ++ y :: (spl (1 + D.length + 1) (r.map VTy.av)).1).set pre.length z = B ++ z :: (spl (1 + D.length + 1) (r.map VTy.av)).1 := fun y z => mid_set hB
    try simp only [← Nat.add_assoc] at hl1 hBl hmg hms
    simp only [List.map_cons, spl, VTy.spx]
    simp only [← Nat.add_assoc, ↓OD, OA, Nat.reduceEqDiff, reduceCtorEq, Nat.reduceAdd, Nat.reduceLT, Nat.reduceLeDiff, reduceIte]
    try simp only [Int.toNat_natCast, hmg, hms, hl1, hB, hll, ← Nat.add_assoc, ↓OD, OA, Nat.reduceEqDiff, reduceCtorEq, Nat.reduceAdd, Nat.reduceLT, Nat.reduceLeDiff, reduceIte]
    repeat (refine And.intro (by omega) ?_)
    try simp (disch := omega) only [wrapA1]
    refine callK_intro _ _ ((markText_c _ (by omega)).any rfl rfl _) ?_
    simp only [↓OD, OA, Nat.reduceEqDiff, reduceCtorEq, Nat.reduceAdd, Nat.reduceLT, Nat.reduceLeDiff, reduceIte]
    try simp only [Int.toNat_natCast, hmg, hms, hl1, hB, hll, ← Nat.add_assoc, ↓OD, OA, Nat.reduceEqDiff, reduceCtorEq, Nat.reduceAdd, Nat.reduceLT, Nat.reduceLeDiff, reduceIte]
    repeat (refine And.intro (by omega) ?_)
    try simp (disch := omega) only [wrapA1]
    refine callK_intro _ _ (Con.turn (h0s _ (by omega)) _ (mid_getO (by first | omega | (simp only [List.length_append, List.length_cons, List.length_nil]; omega)))) ?_
    rw [mid_setO (by first | omega | (simp only [List.length_append, List.length_cons, List.length_nil]; omega))]
    simp only [↓OD, OA, Nat.reduceEqDiff, reduceCtorEq, Nat.reduceAdd, Nat.reduceLT, Nat.reduceLeDiff, reduceIte]
    try simp only [Int.toNat_natCast, hmg, hms, hl1, hB, hll, ← Nat.add_assoc, ↓OD, OA, Nat.reduceEqDiff, reduceCtorEq, Nat.reduceAdd, Nat.reduceLT, Nat.reduceLeDiff, reduceIte]
    repeat (refine And.intro (by omega) ?_)
    try simp (disch := omega) only [wrapA1]
    refine roundQ_intro (pre ++ [x], r) (by simp [← hpl]) (by simp) (.of_eq ?_ ?_)
    · simp (disch := omega) only [wrapA1, List.length_append, List.length_cons, List.length_nil, Nat.zero_add, List.map_append, List.map_cons, List.map_nil, cnts_snoc, hx, ← Nat.add_assoc, hj]
      try rfl
    · simp only [hsnx, VTy.spx_mark, List.length_append, List.length_cons, List.length_nil, Nat.zero_add, List.append_assoc, List.cons_append, List.nil_append, ← Nat.add_assoc]
      try rfl
  · have hr0 : rest = [] := by
      cases rest with
      | nil => rfl
      | cons x r => simp at hc hll; omega
    subst hr0
    simp only [List.append_nil] at hpl
    subst hpl
    simp only [List.map_nil, spl, List.append_nil, hK, ↓OD, OA, Nat.reduceEqDiff, reduceCtorEq, Nat.reduceAdd, Nat.reduceLT, Nat.reduceLeDiff, reduceIte]
    exact ret_same (.inl rfl) (by simp only [↓OD, OA, Nat.reduceEqDiff, reduceCtorEq, Nat.reduceAdd, Nat.reduceLT, Nat.reduceLeDiff, reduceIte])
termination_by l.length + (l.map VTy.wt).sum
decreasing_by all_goals omega
end Go.Proofs.Ab
