/-
  toX AND markX, by their types, on trees of one's own (printed by wip/tool/own.py).
-/
import Derived.Test.YtlckfombibfhcaaCOwn0
import Derived.Test.YtlckfombibfhcaaSA
set_option linter.unusedVariables false
set_option linter.unusedSimpArgs false
set_option linter.defProp false
namespace Go.Ab
set_option maxRecDepth 100000
theorem VTy.elem (x : VTy) : x.av.elem = true := by simp [AV.elem, VTy.isAgg, VTy.storable, VTy.noref]
theorem VTy.flat_eq (x : VTy) : x.av = .agg [.v (.int .i64 x.Kind), .v (.int .i64 x.N), .v (.string x.Name), .sl (x.Kids.map VTy.av)] := by rw [← VTy.eta x]
theorem VTy.spx (x : VTy) (n : Nat) : spx n x.av = (.agg [.v (.int .i64 x.Kind), .v (.int .i64 x.N), .v (.string x.Name), .own (n)], [.own (.sl (x.Kids.map VTy.av))]) := by rw [VTy.flat_eq x]; rfl
theorem VTy.spx_w (x : VTy) (n : Nat) : (Go.Ab.spx n x.av).1.isAgg = true ∧ (Go.Ab.spx n x.av).1.cells.length = 4 ∧ (Go.Ab.spx n x.av).1.storable = true := by rw [VTy.flat_eq x]; exact ⟨rfl, rfl, rfl⟩
theorem VTy.cnt_eq (x : VTy) : x.av.cnt = 3 + AV.cnts (x.Kids.map VTy.av) := by rw [VTy.flat_eq x]; simp only [AV.cnt, AV.cnts] <;> omega
theorem VTy.cnt_pos (x : VTy) : 1 ≤ x.av.cnt := by rw [VTy.cnt_eq]; omega
theorem VTy.cnt_le (x : VTy) : x.av.cnt ≤ 16 * (x.wt + 1) := by
  have h0 := VTy.cnt_eq x
  have hw := VTy.wt_eq x
  have h1 := cnts_le VTy.wt 16 x.Kids fun y hy => VTy.cnt_le y
  omega
termination_by SizeOf.sizeOf x
decreasing_by all_goals first | exact VTy.Kids_lt (by assumption)
end Go.Ab
namespace Go.Proofs.Ab
open Go.Ab
set_option maxRecDepth 100000
set_option maxHeartbeats 4000000
theorem toTy_own (x : VTy) (hb : x.wt ≤ 1048576) : Con Try.prog F.laws_toTy [x.av] [] (spx 0 x.av).1 (spx 0 x.av).2 := by
  have hw := VTy.wt_eq x
  have hKids : Con Try.prog F.laws_toTyS [.sl (x.Kids.map VTy.av)] [] (.own 0) [.own (.sl (x.Kids.map VTy.av))] :=
    toS_own A.laws_toTyS_ok _ (by rw [List.length_map]; omega) (by rw [List.length_map]; omega) (fun y hy => by obtain ⟨z, hz, rfl⟩ := List.mem_map.1 hy; exact ⟨VTy.elem z, VTy.width z⟩) rfl
      (fun y hy => by obtain ⟨z, hz, rfl⟩ := List.mem_map.1 hy; exact toTy_own z (by have := le_sum VTy.wt hz; omega))
  rw [VTy.flat_eq x]
  refine con_of_wp A.laws_toTy_ok rfl ?_
  simp only [A.laws_toTy, ↓OD, OA, Nat.reduceEqDiff, reduceCtorEq, Nat.reduceAdd, Nat.reduceLT, Nat.reduceLeDiff, reduceIte]
  refine callK_intro _ _ (kept_call hKids (by simp only [AV.norefs, AV.noref, Bool.and_true]; exact norefsM (f := VTy.av) (l := x.Kids) VTy.noref) rfl _) ?_
  simp only [↓OD, OA, Nat.reduceEqDiff, reduceCtorEq, Nat.reduceAdd, Nat.reduceLT, Nat.reduceLeDiff, reduceIte]
  refine ret_from (rv := (spx 3 x.av).1) (.inl rfl) 3 ?_ ?_ ?_ (spx_own 0 _) ?_
  · simp only [VTy.spx, ↓OD, OA, Nat.reduceEqDiff, reduceCtorEq, Nat.reduceAdd, Nat.reduceLT, Nat.reduceLeDiff, reduceIte]
  · rw [spx_ren, ← VTy.flat_eq]
  · rw [← VTy.flat_eq, VTy.spx]; rfl
  · rw [← VTy.flat_eq, VTy.spx]; rfl
termination_by SizeOf.sizeOf x
decreasing_by all_goals first | exact VTy.Kids_lt (by assumption)
theorem toTyS_own (l : List VTy) (h : l.length + (l.map VTy.wt).sum ≤ 1048576) : Con Try.prog F.laws_toTyS [.sl (l.map VTy.av)] [] (.own 0) [.own (.sl (l.map VTy.av))] :=
  toS_own A.laws_toTyS_ok _ (by rw [List.length_map]; omega) (by rw [List.length_map]; omega) (fun y hy => by obtain ⟨z, hz, rfl⟩ := List.mem_map.1 hy; exact ⟨VTy.elem z, VTy.width z⟩) rfl
    (fun y hy => by obtain ⟨z, hz, rfl⟩ := List.mem_map.1 hy; exact toTy_own z (by have := le_sum VTy.wt hz; omega))
theorem markTyS_0 (k : Nat) : PCon Try.prog F.laws_markTyS [.sl [], .v (.int .i64 (k : Int))] (.v (.int .i64 (k : Int))) := by
  refine con_of_wp A.laws_markTyS_ok rfl ?_
  simp only [A.laws_markTyS, ↓OD, OA, Nat.reduceEqDiff, reduceCtorEq, Nat.reduceAdd, Nat.reduceLT, Nat.reduceLeDiff, reduceIte]
  refine loopK_intro (ι := Unit) (fun _ => True) (fun _ => envL [(0, .sl []), (1, .v (.int .i64 (k : Int))), (5, .v (.int .i64 0))]) (fun _ => []) (fun _ => 0) () trivial (.of_eq rfl rfl) ?_
  rintro ⟨⟩ _
  simp only [↓OD, OA, Nat.reduceEqDiff, reduceCtorEq, Nat.reduceAdd, Nat.reduceLT, Nat.reduceLeDiff, reduceIte]
  refine condK_intro (fun h => by simp at h) (fun h => ?_)
  simp only [↓OD, OA, Nat.reduceEqDiff, reduceCtorEq, Nat.reduceAdd, Nat.reduceLT, Nat.reduceLeDiff, reduceIte]
  refine pret_tmp (.inl rfl) ?_ rfl
  simp only [↓OD, OA, Nat.reduceEqDiff, reduceCtorEq, Nat.reduceAdd, Nat.reduceLT, Nat.reduceLeDiff, reduceIte]
theorem markTyS_own (l : List VTy) (k : Nat) (h : k + AV.cnts (l.map VTy.av) ≤ 4611686018427387904) : Con Try.prog F.laws_markTyS [.own 0, .v (.int .i64 (k : Int))] [.own (.sl (l.map VTy.av))] (.v (.int .i64 ((k + AV.cnts (l.map VTy.av) : Nat) : Int))) [.dead] := by
  by_cases hl : l = []
  · subst hl; exact Con.open0 (markTyS_0 k) rfl
  have he : ∀ x ∈ l.map VTy.av, x.elem = true := fun y hy => by obtain ⟨z, _, rfl⟩ := List.mem_map.1 hy; exact VTy.elem z
  refine Con.opens 4 (by simpa using hl) (fun y hy => by obtain ⟨z, _, rfl⟩ := List.mem_map.1 hy; exact VTy.width z) (spl_cover (fun y hy => by obtain ⟨z, _, rfl⟩ := List.mem_map.1 hy; exact VTy.isAgg z)) (fun e => spl_split he _) rfl rfl (fun e => ?_)
  have hlen := cnts_length VTy.cnt_pos l
  generalize hK : k + AV.cnts (l.map VTy.av) = K at *
  refine con_of_wp A.laws_markTyS_ok rfl ?_
  simp only [A.laws_markTyS, ↓OD, OA, Nat.reduceEqDiff, reduceCtorEq, Nat.reduceAdd, Nat.reduceLT, Nat.reduceLeDiff, reduceIte]
  refine loopK_intro (ι := List AV × Nat × Nat × List VTy) (fun p => p.1.length + p.2.2.2.length = l.length ∧ p.2.2.1 + AV.cnts (p.2.2.2.map VTy.av) = K ∧ ∀ y ∈ p.2.2.2, y ∈ l)
    (fun p => envL [(0, .row 0 (l.map VTy.av).length), (1, .v (.int .i64 (p.2.2.1 : Int))), (5, .v (.int .i64 (p.1.length : Int)))])
    (fun p => .live e 4 (p.1 ++ (spl (1 + p.2.1) (p.2.2.2.map VTy.av)).1) :: (List.replicate p.2.1 .dead ++ (spl (1 + p.2.1) (p.2.2.2.map VTy.av)).2)) (fun p => p.2.2.2.length) ([], 0, k, l) ⟨by simp, hK, fun _ h => h⟩ (.of_eq rfl (by simp)) ?_
  rintro ⟨B, m, j, rest⟩ ⟨h1, h2, h3⟩
  simp only at h1 h2 h3
  simp only [List.length_map, spl_length, ↓OD, OA, Nat.reduceEqDiff, reduceCtorEq, Nat.reduceAdd, Nat.reduceLT, Nat.reduceLeDiff, reduceIte]
  refine ⟨by omega, ?_⟩
  refine condK_intro (fun hc => ?_) (fun hc => ?_)
  · cases rest with
    | nil => simp at hc h1; omega
    | cons x r =>
    have hx := VTy.cnt_eq x
    have hxl := h3 x (by simp)
    have hlp := List.length_pos_of_mem hxl
    have hxs := le_sum VTy.wt hxl
    have hxw := VTy.wt_eq x
    simp only [List.map_cons, AV.cnts, hx] at h2
    have h0s := markTyS_own x.Kids
    have hl1 : (spl (1 + m + 1) (r.map VTy.av)).1.length = r.length := by rw [spl_length, List.length_map]
    simp only [List.length_cons] at h1
    simp only [List.map_cons, spl, VTy.spx]
    simp only [← Nat.add_assoc, ↓OD, OA, Nat.reduceEqDiff, reduceCtorEq, Nat.reduceAdd, Nat.reduceLT, Nat.reduceLeDiff, reduceIte]
    try simp only [← Nat.add_assoc] at hl1
    try simp only [Int.toNat_natCast, mid_get', mid_set', hl1, h1, ← Nat.add_assoc, ↓OD, OA, Nat.reduceEqDiff, reduceCtorEq, Nat.reduceAdd, Nat.reduceLT, Nat.reduceLeDiff, reduceIte]
    repeat (refine And.intro (by omega) ?_)
    try simp (disch := omega) only [wrapA1]
    refine callK_intro _ _ ((markText_c _ (by omega)).any rfl rfl _) ?_
    simp only [↓OD, OA, Nat.reduceEqDiff, reduceCtorEq, Nat.reduceAdd, Nat.reduceLT, Nat.reduceLeDiff, reduceIte]
    try simp only [Int.toNat_natCast, mid_get', mid_set', hl1, h1, ← Nat.add_assoc, ↓OD, OA, Nat.reduceEqDiff, reduceCtorEq, Nat.reduceAdd, Nat.reduceLT, Nat.reduceLeDiff, reduceIte]
    repeat (refine And.intro (by omega) ?_)
    try simp (disch := omega) only [wrapA1]
    refine callK_intro _ _ (Con.kill (h0s _ (by omega)) _ (mid_getO (by simp only [List.length_append, List.length_cons, List.length_nil, List.length_replicate]; omega))) ?_
    rw [mid_setO (by simp only [List.length_append, List.length_cons, List.length_nil, List.length_replicate]; omega)]
    simp only [↓OD, OA, Nat.reduceEqDiff, reduceCtorEq, Nat.reduceAdd, Nat.reduceLT, Nat.reduceLeDiff, reduceIte]
    try simp only [Int.toNat_natCast, mid_get', mid_set', hl1, h1, ← Nat.add_assoc, ↓OD, OA, Nat.reduceEqDiff, reduceCtorEq, Nat.reduceAdd, Nat.reduceLT, Nat.reduceLeDiff, reduceIte]
    repeat (refine And.intro (by omega) ?_)
    try simp (disch := omega) only [wrapA1]
    refine roundQ_intro (B ++ [.agg [.v (.int .i64 ((j : Nat) : Int)), .v (.int .i64 ((j + 1 : Nat) : Int)), .v (.string (markT (j + 1 + 1))), .own (1 + m)]], m + 1, j + 1 + 1 + 1 + AV.cnts (x.Kids.map VTy.av), r) ⟨by simp; omega, by simp only; omega, fun z hz => h3 z (by simp [hz])⟩ (by simp) (.of_eq ?_ ?_)
    · simp (disch := omega) only [wrapA1, List.length_append, List.length_cons, List.length_nil, Nat.zero_add]
    · simp only [List.append_assoc, List.cons_append, List.nil_append, List.replicate_succ', ← Nat.add_assoc]
  · cases rest with
    | cons x r => simp at hc h1; omega
    | nil =>
    simp only [List.map_nil, AV.cnts, Nat.add_zero] at h2
    subst h2
    simp only [↓OD, OA, Nat.reduceEqDiff, reduceCtorEq, Nat.reduceAdd, Nat.reduceLT, Nat.reduceLeDiff, reduceIte]
    refine ret_dead (.inl rfl) ?_
    simp only [↓OD, OA, Nat.reduceEqDiff, reduceCtorEq, Nat.reduceAdd, Nat.reduceLT, Nat.reduceLeDiff, reduceIte]
termination_by l.length + (l.map VTy.wt).sum
decreasing_by all_goals omega
theorem markTy_own (x : VTy) (k : Nat) (h : k + AV.cnts (x.Kids.map VTy.av) ≤ 4611686018427387904) : Con Try.prog F.laws_markTy [(spx 0 x.av).1, .v (.int .i64 (k : Int))] (spx 0 x.av).2 (.v (.int .i64 ((k + AV.cnts (x.Kids.map VTy.av) : Nat) : Int))) (List.replicate (spx 0 x.av).2.length .dead) := by
  simp only [VTy.spx]
  refine con_of_wp A.laws_markTy_ok rfl ?_
  simp only [A.laws_markTy, ↓OD, OA, Nat.reduceEqDiff, reduceCtorEq, Nat.reduceAdd, Nat.reduceLT, Nat.reduceLeDiff, reduceIte]
  refine callK_intro _ _ (Con.kill (markTyS_own x.Kids (k) (by omega)) 0 rfl) ?_
  simp only [↓OD, OA, Nat.reduceEqDiff, reduceCtorEq, Nat.reduceAdd, Nat.reduceLT, Nat.reduceLeDiff, reduceIte]
  refine ret_dead (.inl rfl) ?_
  simp only [↓OD, OA, Nat.reduceEqDiff, reduceCtorEq, Nat.reduceAdd, Nat.reduceLT, Nat.reduceLeDiff, reduceIte]
end Go.Proofs.Ab
