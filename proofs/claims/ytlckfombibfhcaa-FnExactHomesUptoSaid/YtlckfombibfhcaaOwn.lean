/-
  toX AND markX, by their types, on trees of one's own (printed by wip/tool/own.py).
-/
import Derived.Test.YtlckfombibfhcaaCOwn0
import Derived.Test.YtlckfombibfhcaaSA
set_option linter.unusedVariables false
set_option linter.unusedSimpArgs false
set_option linter.defProp false
namespace Go.Ab
set_option maxRecDepth 100000
theorem VTy.elem (x : VTy) : x.av.elem = true := by simp [AV.elem, VTy.isAgg, VTy.storable, VTy.noref]
theorem VTy.flat_eq (x : VTy) : x.av = .agg [.v (.int .i64 x.Kind), .v (.int .i64 x.N), .v (.string x.Name), .sl (x.Kids.map VTy.av)] := by rw [← VTy.eta x]
theorem VTy.spx (x : VTy) (n : Nat) : spx n x.av = (.agg [.v (.int .i64 x.Kind), .v (.int .i64 x.N), .v (.string x.Name), .own (n)], [.own (.sl (x.Kids.map VTy.av))]) := by rw [VTy.flat_eq x]; rfl
theorem VTy.cnt_eq (x : VTy) : x.av.cnt = 3 + AV.cnts (x.Kids.map VTy.av) := by rw [VTy.flat_eq x]; simp only [AV.cnt, AV.cnts] <;> omega
theorem VTy.cnt_pos (x : VTy) : 1 ≤ x.av.cnt := by rw [VTy.cnt_eq]; omega
theorem VTy.cnt_le (x : VTy) : x.av.cnt ≤ 16 * (x.wt + 1) := by
  have h0 := VTy.cnt_eq x
  have hw := VTy.wt_eq x
  have h1 := cnts_le VTy.wt 16 x.Kids fun y hy => VTy.cnt_le y
  omega
termination_by SizeOf.sizeOf x
decreasing_by all_goals first | exact VTy.Kids_lt (by assumption)
theorem VKVal.elem (x : VKVal) : x.av.elem = true := by simp [AV.elem, VKVal.isAgg, VKVal.storable, VKVal.noref]
theorem VKVal.flat_eq (x : VKVal) : x.av = .agg [.v (.int .i64 x.Kind), .v (.int .i64 x.N), .v (.int .i64 x.Num), .v (.string x.Text)] := by rw [← VKVal.eta x]
theorem VKVal.spx (x : VKVal) (n : Nat) : spx n x.av = (.agg [.v (.int .i64 x.Kind), .v (.int .i64 x.N), .v (.int .i64 x.Num), .v (.string x.Text)], []) := by rw [VKVal.flat_eq x]; rfl
theorem VKVal.cnt_eq (x : VKVal) : x.av.cnt = 4 := by rw [VKVal.flat_eq x]; simp only [AV.cnt, AV.cnts] <;> omega
theorem VKVal.cnt_pos (x : VKVal) : 1 ≤ x.av.cnt := by rw [VKVal.cnt_eq]; omega
theorem VKVal.cnt_le (x : VKVal) : x.av.cnt ≤ 16 * (x.wt + 1) := by
  have h0 := VKVal.cnt_eq x
  have hw := VKVal.wt_eq x
  omega
theorem VKTerm.elem (x : VKTerm) : x.av.elem = true := by simp [AV.elem, VKTerm.isAgg, VKTerm.storable, VKTerm.noref]
theorem VKTerm.flat_eq (x : VKTerm) : x.av = .agg [.v (.int .i64 x.Kind), .v (.string x.Name), .v (.int .i64 x.N), .v (.int .i64 x.Num), .v (.int .i64 x.T.Kind), .v (.int .i64 x.T.N), .v (.string x.T.Name), .sl (x.T.Kids.map VTy.av), .sl (x.Ts.map VTy.av), .sl (x.Vs.map VKVal.av), .sl (x.Kids.map VKTerm.av)] := by rw [← VKTerm.eta x]
theorem VKTerm.spx (x : VKTerm) (n : Nat) : spx n x.av = (.agg [.v (.int .i64 x.Kind), .v (.string x.Name), .v (.int .i64 x.N), .v (.int .i64 x.Num), .v (.int .i64 x.T.Kind), .v (.int .i64 x.T.N), .v (.string x.T.Name), .own (n), .own (n + 1), .own (n + 1 + 1), .own (n + 1 + 1 + 1)], [.own (.sl (x.T.Kids.map VTy.av)), .own (.sl (x.Ts.map VTy.av)), .own (.sl (x.Vs.map VKVal.av)), .own (.sl (x.Kids.map VKTerm.av))]) := by rw [VKTerm.flat_eq x]; rfl
theorem VKTerm.spx_w (x : VKTerm) (n : Nat) : (Go.Ab.spx n x.av).1.isAgg = true ∧ (Go.Ab.spx n x.av).1.cells.length = 11 ∧ (Go.Ab.spx n x.av).1.storable = true := by rw [VKTerm.flat_eq x]; exact ⟨rfl, rfl, rfl⟩
theorem VKTerm.cnt_eq (x : VKTerm) : x.av.cnt = 7 + AV.cnts (x.T.Kids.map VTy.av) + AV.cnts (x.Ts.map VTy.av) + AV.cnts (x.Vs.map VKVal.av) + AV.cnts (x.Kids.map VKTerm.av) := by rw [VKTerm.flat_eq x]; simp only [AV.cnt, AV.cnts] <;> omega
theorem VKTerm.cnt_pos (x : VKTerm) : 1 ≤ x.av.cnt := by rw [VKTerm.cnt_eq]; omega
theorem VKTerm.cnt_le (x : VKTerm) : x.av.cnt ≤ 16 * (x.wt + 1) := by
  have h0 := VKTerm.cnt_eq x
  have hw := VKTerm.wt_eq x
  have hw0 := VTy.wt_eq x.T
  have h1 := cnts_le VTy.wt 16 x.T.Kids fun y hy => VTy.cnt_le y
  have h2 := cnts_le VTy.wt 16 x.Ts fun y hy => VTy.cnt_le y
  have h3 := cnts_le VKVal.wt 16 x.Vs fun y hy => VKVal.cnt_le y
  have h4 := cnts_le VKTerm.wt 16 x.Kids fun y hy => VKTerm.cnt_le y
  omega
termination_by SizeOf.sizeOf x
decreasing_by all_goals first | exact VKTerm.Kids_lt (by assumption)
end Go.Ab
namespace Go.Proofs.Ab
open Go.Ab
set_option maxRecDepth 100000
set_option maxHeartbeats 4000000
theorem toTy_own (x : VTy) (hb : x.wt ≤ 1048576) : Con Try.prog F.laws_toTy [x.av] [] (spx 0 x.av).1 (spx 0 x.av).2 := by
  have hw := VTy.wt_eq x
  have hKids : Con Try.prog F.laws_toTyS [.sl (x.Kids.map VTy.av)] [] (.own 0) [.own (.sl (x.Kids.map VTy.av))] :=
    toS_own A.laws_toTyS_ok _ (by rw [List.length_map]; omega) (by rw [List.length_map]; omega) (fun y hy => by obtain ⟨z, hz, rfl⟩ := List.mem_map.1 hy; exact ⟨VTy.elem z, VTy.width z⟩) rfl
      (fun y hy => by obtain ⟨z, hz, rfl⟩ := List.mem_map.1 hy; exact toTy_own z (by have := le_sum VTy.wt hz; omega))
  rw [VTy.flat_eq x]
  refine con_of_wp A.laws_toTy_ok rfl ?_
  simp only [A.laws_toTy, ↓OD, OA, Nat.reduceEqDiff, reduceCtorEq, Nat.reduceAdd, Nat.reduceLT, Nat.reduceLeDiff, reduceIte]
  refine callK_intro _ _ (kept_call hKids (by simp only [AV.norefs, AV.noref, Bool.and_true]; exact norefsM (f := VTy.av) (l := x.Kids) VTy.noref) rfl _) ?_
  simp only [↓OD, OA, Nat.reduceEqDiff, reduceCtorEq, Nat.reduceAdd, Nat.reduceLT, Nat.reduceLeDiff, reduceIte]
  refine ret_from (rv := (spx 3 x.av).1) (.inl rfl) 3 ?_ ?_ ?_ (spx_own 0 _) ?_
  · simp only [VTy.spx, ↓OD, OA, Nat.reduceEqDiff, reduceCtorEq, Nat.reduceAdd, Nat.reduceLT, Nat.reduceLeDiff, reduceIte]
  · rw [spx_ren, ← VTy.flat_eq]
  · rw [← VTy.flat_eq, VTy.spx]; rfl
  · rw [← VTy.flat_eq, VTy.spx]; rfl
termination_by SizeOf.sizeOf x
decreasing_by all_goals first | exact VTy.Kids_lt (by assumption)
theorem markTyS_0 (k : Nat) : PCon Try.prog F.laws_markTyS [.sl [], .v (.int .i64 (k : Int))] (.v (.int .i64 (k : Int))) := by
  refine con_of_wp A.laws_markTyS_ok rfl ?_
  simp only [A.laws_markTyS, ↓OD, OA, Nat.reduceEqDiff, reduceCtorEq, Nat.reduceAdd, Nat.reduceLT, Nat.reduceLeDiff, reduceIte]
  refine loopK_intro (ι := Unit) (fun _ => True) (fun _ => envL [(0, .sl []), (1, .v (.int .i64 (k : Int))), (5, .v (.int .i64 0))]) (fun _ => []) (fun _ => 0) () trivial (.of_eq rfl rfl) ?_
  rintro ⟨⟩ _
  simp only [↓OD, OA, Nat.reduceEqDiff, reduceCtorEq, Nat.reduceAdd, Nat.reduceLT, Nat.reduceLeDiff, reduceIte]
  refine condK_intro (fun h => by simp at h) (fun h => ?_)
  simp only [↓OD, OA, Nat.reduceEqDiff, reduceCtorEq, Nat.reduceAdd, Nat.reduceLT, Nat.reduceLeDiff, reduceIte]
  refine pret_tmp (.inl rfl) ?_ rfl
  simp only [↓OD, OA, Nat.reduceEqDiff, reduceCtorEq, Nat.reduceAdd, Nat.reduceLT, Nat.reduceLeDiff, reduceIte]
theorem markTyS_own (l : List VTy) (k : Nat) (h : k + AV.cnts (l.map VTy.av) ≤ 4611686018427387904) : Con Try.prog F.laws_markTyS [.own 0, .v (.int .i64 (k : Int))] [.own (.sl (l.map VTy.av))] (.v (.int .i64 ((k + AV.cnts (l.map VTy.av) : Nat) : Int))) [.dead] := by
  by_cases hl : l = []
  · subst hl; exact Con.open0 (markTyS_0 k) rfl
  have he : ∀ x ∈ l.map VTy.av, x.elem = true := fun y hy => by obtain ⟨z, _, rfl⟩ := List.mem_map.1 hy; exact VTy.elem z
  refine Con.opens 4 (by simpa using hl) (fun y hy => by obtain ⟨z, _, rfl⟩ := List.mem_map.1 hy; exact VTy.width z) (spl_cover (fun y hy => by obtain ⟨z, _, rfl⟩ := List.mem_map.1 hy; exact VTy.isAgg z)) (fun e => spl_split he _) rfl rfl (fun e => ?_)
  have hlen := cnts_length VTy.cnt_pos l
  generalize hK : k + AV.cnts (l.map VTy.av) = K at *
  refine con_of_wp A.laws_markTyS_ok rfl ?_
  simp only [A.laws_markTyS, ↓OD, OA, Nat.reduceEqDiff, reduceCtorEq, Nat.reduceAdd, Nat.reduceLT, Nat.reduceLeDiff, reduceIte]
  refine loopK_intro (ι := List AV × Nat × Nat × List VTy) (fun p => p.1.length + p.2.2.2.length = l.length ∧ p.2.2.1 + AV.cnts (p.2.2.2.map VTy.av) = K ∧ ∀ y ∈ p.2.2.2, y ∈ l)
    (fun p => envL [(0, .row 0 (l.map VTy.av).length), (1, .v (.int .i64 (p.2.2.1 : Int))), (5, .v (.int .i64 (p.1.length : Int)))])
    (fun p => .live e 4 (p.1 ++ (spl (1 + p.2.1) (p.2.2.2.map VTy.av)).1) :: (List.replicate p.2.1 .dead ++ (spl (1 + p.2.1) (p.2.2.2.map VTy.av)).2)) (fun p => p.2.2.2.length) ([], 0, k, l) ⟨by simp, hK, fun _ h => h⟩ (.of_eq rfl (by simp)) ?_
  rintro ⟨B, m, j, rest⟩ ⟨h1, h2, h3⟩
  simp only at h1 h2 h3
  simp only [List.length_map, spl_length, ↓OD, OA, Nat.reduceEqDiff, reduceCtorEq, Nat.reduceAdd, Nat.reduceLT, Nat.reduceLeDiff, reduceIte]
  refine ⟨by omega, ?_⟩
  refine condK_intro (fun hc => ?_) (fun hc => ?_)
  · cases rest with
    | nil => simp at hc h1; omega
    | cons x r =>
    have hx := VTy.cnt_eq x
    have hxl := h3 x (by simp)
    have hlp := List.length_pos_of_mem hxl
    have hxs := le_sum VTy.wt hxl
    have hxw := VTy.wt_eq x
    simp only [List.map_cons, AV.cnts, hx] at h2
    have h0s := markTyS_own x.Kids
    have hl1 : (spl (1 + m + 1) (r.map VTy.av)).1.length = r.length := by rw [spl_length, List.length_map]
    simp only [List.length_cons] at h1
    simp only [List.map_cons, spl, VTy.spx]
    simp only [← Nat.add_assoc, ↓OD, OA, Nat.reduceEqDiff, reduceCtorEq, Nat.reduceAdd, Nat.reduceLT, Nat.reduceLeDiff, reduceIte]
    try simp only [← Nat.add_assoc] at hl1
    try simp only [Int.toNat_natCast, mid_get', mid_set', hl1, h1, ← Nat.add_assoc, ↓OD, OA, Nat.reduceEqDiff, reduceCtorEq, Nat.reduceAdd, Nat.reduceLT, Nat.reduceLeDiff, reduceIte]
    repeat (refine And.intro (by omega) ?_)
    try simp (disch := omega) only [wrapA1]
    refine callK_intro _ _ ((markText_c _ (by omega)).any rfl rfl _) ?_
    simp only [↓OD, OA, Nat.reduceEqDiff, reduceCtorEq, Nat.reduceAdd, Nat.reduceLT, Nat.reduceLeDiff, reduceIte]
    try simp only [Int.toNat_natCast, mid_get', mid_set', hl1, h1, ← Nat.add_assoc, ↓OD, OA, Nat.reduceEqDiff, reduceCtorEq, Nat.reduceAdd, Nat.reduceLT, Nat.reduceLeDiff, reduceIte]
    repeat (refine And.intro (by omega) ?_)
    try simp (disch := omega) only [wrapA1]
    refine callK_intro _ _ (Con.kill (h0s _ (by omega)) _ (mid_getO (by simp only [List.length_append, List.length_cons, List.length_nil, List.length_replicate]; omega))) ?_
    rw [mid_setO (by simp only [List.length_append, List.length_cons, List.length_nil, List.length_replicate]; omega)]
    simp only [↓OD, OA, Nat.reduceEqDiff, reduceCtorEq, Nat.reduceAdd, Nat.reduceLT, Nat.reduceLeDiff, reduceIte]
    try simp only [Int.toNat_natCast, mid_get', mid_set', hl1, h1, ← Nat.add_assoc, ↓OD, OA, Nat.reduceEqDiff, reduceCtorEq, Nat.reduceAdd, Nat.reduceLT, Nat.reduceLeDiff, reduceIte]
    repeat (refine And.intro (by omega) ?_)
    try simp (disch := omega) only [wrapA1]
    refine roundQ_intro (B ++ [.agg [.v (.int .i64 ((j : Nat) : Int)), .v (.int .i64 ((j + 1 : Nat) : Int)), .v (.string (markT (j + 1 + 1))), .own (1 + m)]], m + 1, j + 1 + 1 + 1 + AV.cnts (x.Kids.map VTy.av), r) ⟨by simp; omega, by simp only; omega, fun z hz => h3 z (by simp [hz])⟩ (by simp) (.of_eq ?_ ?_)
    · simp (disch := omega) only [wrapA1, List.length_append, List.length_cons, List.length_nil, Nat.zero_add]
    · simp only [List.append_assoc, List.cons_append, List.nil_append, List.replicate_succ', ← Nat.add_assoc]
  · cases rest with
    | cons x r => simp at hc h1; omega
    | nil =>
    simp only [List.map_nil, AV.cnts, Nat.add_zero] at h2
    subst h2
    simp only [↓OD, OA, Nat.reduceEqDiff, reduceCtorEq, Nat.reduceAdd, Nat.reduceLT, Nat.reduceLeDiff, reduceIte]
    refine ret_dead (.inl rfl) ?_
    simp only [↓OD, OA, Nat.reduceEqDiff, reduceCtorEq, Nat.reduceAdd, Nat.reduceLT, Nat.reduceLeDiff, reduceIte]
termination_by l.length + (l.map VTy.wt).sum
decreasing_by all_goals omega
theorem markTy_own (x : VTy) (k : Nat) (h : k + AV.cnts (x.Kids.map VTy.av) ≤ 4611686018427387904) : Con Try.prog F.laws_markTy [(spx 0 x.av).1, .v (.int .i64 (k : Int))] (spx 0 x.av).2 (.v (.int .i64 ((k + AV.cnts (x.Kids.map VTy.av) : Nat) : Int))) (List.replicate (spx 0 x.av).2.length .dead) := by
  simp only [VTy.spx]
  refine con_of_wp A.laws_markTy_ok rfl ?_
  simp only [A.laws_markTy, ↓OD, OA, Nat.reduceEqDiff, reduceCtorEq, Nat.reduceAdd, Nat.reduceLT, Nat.reduceLeDiff, reduceIte]
  refine callK_intro _ _ (Con.kill (markTyS_own x.Kids (k) (by omega)) 0 rfl) ?_
  simp only [↓OD, OA, Nat.reduceEqDiff, reduceCtorEq, Nat.reduceAdd, Nat.reduceLT, Nat.reduceLeDiff, reduceIte]
  refine ret_dead (.inl rfl) ?_
  simp only [↓OD, OA, Nat.reduceEqDiff, reduceCtorEq, Nat.reduceAdd, Nat.reduceLT, Nat.reduceLeDiff, reduceIte]
theorem toKVal_own (x : VKVal) (hb : x.wt ≤ 1048576) : Con Try.prog F.laws_toKVal [x.av] [] (spx 0 x.av).1 (spx 0 x.av).2 := by
  have hw := VKVal.wt_eq x
  rw [VKVal.flat_eq x]
  refine con_of_wp A.laws_toKVal_ok rfl ?_
  simp only [A.laws_toKVal, ↓OD, OA, Nat.reduceEqDiff, reduceCtorEq, Nat.reduceAdd, Nat.reduceLT, Nat.reduceLeDiff, reduceIte]
  refine ret_from (rv := (spx 3 x.av).1) (.inl rfl) 3 ?_ ?_ ?_ (spx_own 0 _) ?_
  · simp only [VKVal.spx, ↓OD, OA, Nat.reduceEqDiff, reduceCtorEq, Nat.reduceAdd, Nat.reduceLT, Nat.reduceLeDiff, reduceIte]
  · rw [spx_ren, ← VKVal.flat_eq]
  · rw [← VKVal.flat_eq, VKVal.spx]; rfl
  · rw [← VKVal.flat_eq, VKVal.spx]; rfl
theorem markKValS_0 (k : Nat) : PCon Try.prog F.laws_markKValS [.sl [], .v (.int .i64 (k : Int))] (.v (.int .i64 (k : Int))) := by
  refine con_of_wp A.laws_markKValS_ok rfl ?_
  simp only [A.laws_markKValS, ↓OD, OA, Nat.reduceEqDiff, reduceCtorEq, Nat.reduceAdd, Nat.reduceLT, Nat.reduceLeDiff, reduceIte]
  refine loopK_intro (ι := Unit) (fun _ => True) (fun _ => envL [(0, .sl []), (1, .v (.int .i64 (k : Int))), (5, .v (.int .i64 0))]) (fun _ => []) (fun _ => 0) () trivial (.of_eq rfl rfl) ?_
  rintro ⟨⟩ _
  simp only [↓OD, OA, Nat.reduceEqDiff, reduceCtorEq, Nat.reduceAdd, Nat.reduceLT, Nat.reduceLeDiff, reduceIte]
  refine condK_intro (fun h => by simp at h) (fun h => ?_)
  simp only [↓OD, OA, Nat.reduceEqDiff, reduceCtorEq, Nat.reduceAdd, Nat.reduceLT, Nat.reduceLeDiff, reduceIte]
  refine pret_tmp (.inl rfl) ?_ rfl
  simp only [↓OD, OA, Nat.reduceEqDiff, reduceCtorEq, Nat.reduceAdd, Nat.reduceLT, Nat.reduceLeDiff, reduceIte]
theorem markKValS_own (l : List VKVal) (k : Nat) (h : k + AV.cnts (l.map VKVal.av) ≤ 4611686018427387904) : Con Try.prog F.laws_markKValS [.own 0, .v (.int .i64 (k : Int))] [.own (.sl (l.map VKVal.av))] (.v (.int .i64 ((k + AV.cnts (l.map VKVal.av) : Nat) : Int))) [.dead] := by
  by_cases hl : l = []
  · subst hl; exact Con.open0 (markKValS_0 k) rfl
  have he : ∀ x ∈ l.map VKVal.av, x.elem = true := fun y hy => by obtain ⟨z, _, rfl⟩ := List.mem_map.1 hy; exact VKVal.elem z
  refine Con.opens 4 (by simpa using hl) (fun y hy => by obtain ⟨z, _, rfl⟩ := List.mem_map.1 hy; exact VKVal.width z) (spl_cover (fun y hy => by obtain ⟨z, _, rfl⟩ := List.mem_map.1 hy; exact VKVal.isAgg z)) (fun e => spl_split he _) rfl rfl (fun e => ?_)
  have hlen := cnts_length VKVal.cnt_pos l
  generalize hK : k + AV.cnts (l.map VKVal.av) = K at *
  refine con_of_wp A.laws_markKValS_ok rfl ?_
  simp only [A.laws_markKValS, ↓OD, OA, Nat.reduceEqDiff, reduceCtorEq, Nat.reduceAdd, Nat.reduceLT, Nat.reduceLeDiff, reduceIte]
  refine loopK_intro (ι := List AV × Nat × Nat × List VKVal) (fun p => p.1.length + p.2.2.2.length = l.length ∧ p.2.2.1 + AV.cnts (p.2.2.2.map VKVal.av) = K ∧ ∀ y ∈ p.2.2.2, y ∈ l)
    (fun p => envL [(0, .row 0 (l.map VKVal.av).length), (1, .v (.int .i64 (p.2.2.1 : Int))), (5, .v (.int .i64 (p.1.length : Int)))])
    (fun p => .live e 4 (p.1 ++ (spl (1 + p.2.1) (p.2.2.2.map VKVal.av)).1) :: (List.replicate p.2.1 .dead ++ (spl (1 + p.2.1) (p.2.2.2.map VKVal.av)).2)) (fun p => p.2.2.2.length) ([], 0, k, l) ⟨by simp, hK, fun _ h => h⟩ (.of_eq rfl (by simp)) ?_
  rintro ⟨B, m, j, rest⟩ ⟨h1, h2, h3⟩
  simp only at h1 h2 h3
  simp only [List.length_map, spl_length, ↓OD, OA, Nat.reduceEqDiff, reduceCtorEq, Nat.reduceAdd, Nat.reduceLT, Nat.reduceLeDiff, reduceIte]
  refine ⟨by omega, ?_⟩
  refine condK_intro (fun hc => ?_) (fun hc => ?_)
  · cases rest with
    | nil => simp at hc h1; omega
    | cons x r =>
    have hx := VKVal.cnt_eq x
    have hxl := h3 x (by simp)
    have hlp := List.length_pos_of_mem hxl
    have hxs := le_sum VKVal.wt hxl
    have hxw := VKVal.wt_eq x
    simp only [List.map_cons, AV.cnts, hx] at h2
    have hl1 : (spl (1 + m) (r.map VKVal.av)).1.length = r.length := by rw [spl_length, List.length_map]
    simp only [List.length_cons] at h1
    simp only [List.map_cons, spl, VKVal.spx]
    simp only [← Nat.add_assoc, ↓OD, OA, Nat.reduceEqDiff, reduceCtorEq, Nat.reduceAdd, Nat.reduceLT, Nat.reduceLeDiff, reduceIte]
    try simp only [← Nat.add_assoc] at hl1
    try simp only [Int.toNat_natCast, mid_get', mid_set', hl1, h1, ← Nat.add_assoc, ↓OD, OA, Nat.reduceEqDiff, reduceCtorEq, Nat.reduceAdd, Nat.reduceLT, Nat.reduceLeDiff, reduceIte]
    repeat (refine And.intro (by omega) ?_)
    try simp (disch := omega) only [wrapA1]
    refine callK_intro _ _ ((markText_c _ (by omega)).any rfl rfl _) ?_
    simp only [↓OD, OA, Nat.reduceEqDiff, reduceCtorEq, Nat.reduceAdd, Nat.reduceLT, Nat.reduceLeDiff, reduceIte]
    try simp only [Int.toNat_natCast, mid_get', mid_set', hl1, h1, ← Nat.add_assoc, ↓OD, OA, Nat.reduceEqDiff, reduceCtorEq, Nat.reduceAdd, Nat.reduceLT, Nat.reduceLeDiff, reduceIte]
    repeat (refine And.intro (by omega) ?_)
    try simp (disch := omega) only [wrapA1]
    refine roundQ_intro (B ++ [.agg [.v (.int .i64 ((j : Nat) : Int)), .v (.int .i64 ((j + 1 : Nat) : Int)), .v (.int .i64 ((j + 1 + 1 : Nat) : Int)), .v (.string (markT (j + 1 + 1 + 1)))]], m, j + 1 + 1 + 1 + 1, r) ⟨by simp; omega, by simp only; omega, fun z hz => h3 z (by simp [hz])⟩ (by simp) (.of_eq ?_ ?_)
    · simp (disch := omega) only [wrapA1, List.length_append, List.length_cons, List.length_nil, Nat.zero_add]
    · simp only [List.append_assoc, List.cons_append, List.nil_append, List.replicate_succ', ← Nat.add_assoc]
  · cases rest with
    | cons x r => simp at hc h1; omega
    | nil =>
    simp only [List.map_nil, AV.cnts, Nat.add_zero] at h2
    subst h2
    simp only [↓OD, OA, Nat.reduceEqDiff, reduceCtorEq, Nat.reduceAdd, Nat.reduceLT, Nat.reduceLeDiff, reduceIte]
    refine ret_dead (.inl rfl) ?_
    simp only [↓OD, OA, Nat.reduceEqDiff, reduceCtorEq, Nat.reduceAdd, Nat.reduceLT, Nat.reduceLeDiff, reduceIte]
theorem toKTerm_own (x : VKTerm) (hb : x.wt ≤ 1048576) : Con Try.prog F.laws_toKTerm [x.av] [] (spx 0 x.av).1 (spx 0 x.av).2 := by
  have hw := VKTerm.wt_eq x
  have hwT := VTy.wt_eq x.T
  have hT := toTy_own x.T (by omega)
  simp only [VTy.spx] at hT
  rw [VTy.flat_eq] at hT
  have hTs : Con Try.prog F.laws_toTyS [.sl (x.Ts.map VTy.av)] [] (.own 0) [.own (.sl (x.Ts.map VTy.av))] :=
    toS_own A.laws_toTyS_ok _ (by rw [List.length_map]; omega) (by rw [List.length_map]; omega) (fun y hy => by obtain ⟨z, hz, rfl⟩ := List.mem_map.1 hy; exact ⟨VTy.elem z, VTy.width z⟩) rfl
      (fun y hy => by obtain ⟨z, hz, rfl⟩ := List.mem_map.1 hy; exact toTy_own z (by have := le_sum VTy.wt hz; omega))
  have hVs : Con Try.prog F.laws_toKValS [.sl (x.Vs.map VKVal.av)] [] (.own 0) [.own (.sl (x.Vs.map VKVal.av))] :=
    toS_own A.laws_toKValS_ok _ (by rw [List.length_map]; omega) (by rw [List.length_map]; omega) (fun y hy => by obtain ⟨z, hz, rfl⟩ := List.mem_map.1 hy; exact ⟨VKVal.elem z, VKVal.width z⟩) rfl
      (fun y hy => by obtain ⟨z, hz, rfl⟩ := List.mem_map.1 hy; exact toKVal_own z (by have := le_sum VKVal.wt hz; omega))
  have hKids : Con Try.prog F.laws_toKTermS [.sl (x.Kids.map VKTerm.av)] [] (.own 0) [.own (.sl (x.Kids.map VKTerm.av))] :=
    toS_own A.laws_toKTermS_ok _ (by rw [List.length_map]; omega) (by rw [List.length_map]; omega) (fun y hy => by obtain ⟨z, hz, rfl⟩ := List.mem_map.1 hy; exact ⟨VKTerm.elem z, VKTerm.width z⟩) rfl
      (fun y hy => by obtain ⟨z, hz, rfl⟩ := List.mem_map.1 hy; exact toKTerm_own z (by have := le_sum VKTerm.wt hz; omega))
  rw [VKTerm.flat_eq x]
  refine con_of_wp A.laws_toKTerm_ok rfl ?_
  simp only [A.laws_toKTerm, ↓OD, OA, Nat.reduceEqDiff, reduceCtorEq, Nat.reduceAdd, Nat.reduceLT, Nat.reduceLeDiff, reduceIte]
  refine callK_intro _ _ (kept_call hT (by simp [AV.norefs, AV.noref, norefsM (f := VTy.av) (l := x.T.Kids) VTy.noref]) rfl _) ?_
  simp only [↓OD, OA, Nat.reduceEqDiff, reduceCtorEq, Nat.reduceAdd, Nat.reduceLT, Nat.reduceLeDiff, reduceIte]
  refine callK_intro _ _ (kept_call hTs (by simp only [AV.norefs, AV.noref, Bool.and_true]; exact norefsM (f := VTy.av) (l := x.Ts) VTy.noref) rfl _) ?_
  simp only [↓OD, OA, Nat.reduceEqDiff, reduceCtorEq, Nat.reduceAdd, Nat.reduceLT, Nat.reduceLeDiff, reduceIte]
  refine callK_intro _ _ (kept_call hVs (by simp only [AV.norefs, AV.noref, Bool.and_true]; exact norefsM (f := VKVal.av) (l := x.Vs) VKVal.noref) rfl _) ?_
  simp only [↓OD, OA, Nat.reduceEqDiff, reduceCtorEq, Nat.reduceAdd, Nat.reduceLT, Nat.reduceLeDiff, reduceIte]
  refine callK_intro _ _ (kept_call hKids (by simp only [AV.norefs, AV.noref, Bool.and_true]; exact norefsM (f := VKTerm.av) (l := x.Kids) VKTerm.noref) rfl _) ?_
  simp only [↓OD, OA, Nat.reduceEqDiff, reduceCtorEq, Nat.reduceAdd, Nat.reduceLT, Nat.reduceLeDiff, reduceIte]
  refine ret_from (rv := (spx 3 x.av).1) (.inl rfl) 3 ?_ ?_ ?_ (spx_own 0 _) ?_
  · simp only [VKTerm.spx, ↓OD, OA, Nat.reduceEqDiff, reduceCtorEq, Nat.reduceAdd, Nat.reduceLT, Nat.reduceLeDiff, reduceIte]
  · rw [spx_ren, ← VKTerm.flat_eq]
  · rw [← VKTerm.flat_eq, VKTerm.spx]; rfl
  · rw [← VKTerm.flat_eq, VKTerm.spx]; rfl
termination_by SizeOf.sizeOf x
decreasing_by all_goals first | exact VKTerm.Kids_lt (by assumption)
theorem markKTermS_0 (k : Nat) : PCon Try.prog F.laws_markKTermS [.sl [], .v (.int .i64 (k : Int))] (.v (.int .i64 (k : Int))) := by
  refine con_of_wp A.laws_markKTermS_ok rfl ?_
  simp only [A.laws_markKTermS, ↓OD, OA, Nat.reduceEqDiff, reduceCtorEq, Nat.reduceAdd, Nat.reduceLT, Nat.reduceLeDiff, reduceIte]
  refine loopK_intro (ι := Unit) (fun _ => True) (fun _ => envL [(0, .sl []), (1, .v (.int .i64 (k : Int))), (5, .v (.int .i64 0))]) (fun _ => []) (fun _ => 0) () trivial (.of_eq rfl rfl) ?_
  rintro ⟨⟩ _
  simp only [↓OD, OA, Nat.reduceEqDiff, reduceCtorEq, Nat.reduceAdd, Nat.reduceLT, Nat.reduceLeDiff, reduceIte]
  refine condK_intro (fun h => by simp at h) (fun h => ?_)
  simp only [↓OD, OA, Nat.reduceEqDiff, reduceCtorEq, Nat.reduceAdd, Nat.reduceLT, Nat.reduceLeDiff, reduceIte]
  refine pret_tmp (.inl rfl) ?_ rfl
  simp only [↓OD, OA, Nat.reduceEqDiff, reduceCtorEq, Nat.reduceAdd, Nat.reduceLT, Nat.reduceLeDiff, reduceIte]
theorem markKTermS_own (l : List VKTerm) (k : Nat) (h : k + AV.cnts (l.map VKTerm.av) ≤ 4611686018427387904) : Con Try.prog F.laws_markKTermS [.own 0, .v (.int .i64 (k : Int))] [.own (.sl (l.map VKTerm.av))] (.v (.int .i64 ((k + AV.cnts (l.map VKTerm.av) : Nat) : Int))) [.dead] := by
  by_cases hl : l = []
  · subst hl; exact Con.open0 (markKTermS_0 k) rfl
  have he : ∀ x ∈ l.map VKTerm.av, x.elem = true := fun y hy => by obtain ⟨z, _, rfl⟩ := List.mem_map.1 hy; exact VKTerm.elem z
  refine Con.opens 11 (by simpa using hl) (fun y hy => by obtain ⟨z, _, rfl⟩ := List.mem_map.1 hy; exact VKTerm.width z) (spl_cover (fun y hy => by obtain ⟨z, _, rfl⟩ := List.mem_map.1 hy; exact VKTerm.isAgg z)) (fun e => spl_split he _) rfl rfl (fun e => ?_)
  have hlen := cnts_length VKTerm.cnt_pos l
  generalize hK : k + AV.cnts (l.map VKTerm.av) = K at *
  refine con_of_wp A.laws_markKTermS_ok rfl ?_
  simp only [A.laws_markKTermS, ↓OD, OA, Nat.reduceEqDiff, reduceCtorEq, Nat.reduceAdd, Nat.reduceLT, Nat.reduceLeDiff, reduceIte]
  refine loopK_intro (ι := List AV × Nat × Nat × List VKTerm) (fun p => p.1.length + p.2.2.2.length = l.length ∧ p.2.2.1 + AV.cnts (p.2.2.2.map VKTerm.av) = K ∧ ∀ y ∈ p.2.2.2, y ∈ l)
    (fun p => envL [(0, .row 0 (l.map VKTerm.av).length), (1, .v (.int .i64 (p.2.2.1 : Int))), (5, .v (.int .i64 (p.1.length : Int)))])
    (fun p => .live e 11 (p.1 ++ (spl (1 + p.2.1) (p.2.2.2.map VKTerm.av)).1) :: (List.replicate p.2.1 .dead ++ (spl (1 + p.2.1) (p.2.2.2.map VKTerm.av)).2)) (fun p => p.2.2.2.length) ([], 0, k, l) ⟨by simp, hK, fun _ h => h⟩ (.of_eq rfl (by simp)) ?_
  rintro ⟨B, m, j, rest⟩ ⟨h1, h2, h3⟩
  simp only at h1 h2 h3
  simp only [List.length_map, spl_length, ↓OD, OA, Nat.reduceEqDiff, reduceCtorEq, Nat.reduceAdd, Nat.reduceLT, Nat.reduceLeDiff, reduceIte]
  refine ⟨by omega, ?_⟩
  refine condK_intro (fun hc => ?_) (fun hc => ?_)
  · cases rest with
    | nil => simp at hc h1; omega
    | cons x r =>
    have hx := VKTerm.cnt_eq x
    have hxl := h3 x (by simp)
    have hlp := List.length_pos_of_mem hxl
    have hxs := le_sum VKTerm.wt hxl
    have hxw := VKTerm.wt_eq x
    simp only [List.map_cons, AV.cnts, hx] at h2
    have h0s := markTyS_own x.T.Kids
    have h1s := markTyS_own x.Ts
    have h2s := markKValS_own x.Vs
    have h3s := markKTermS_own x.Kids
    have hl1 : (spl (1 + m + 1 + 1 + 1 + 1) (r.map VKTerm.av)).1.length = r.length := by rw [spl_length, List.length_map]
    simp only [List.length_cons] at h1
    simp only [List.map_cons, spl, VKTerm.spx]
    simp only [← Nat.add_assoc, ↓OD, OA, Nat.reduceEqDiff, reduceCtorEq, Nat.reduceAdd, Nat.reduceLT, Nat.reduceLeDiff, reduceIte]
    try simp only [← Nat.add_assoc] at hl1
    try simp only [Int.toNat_natCast, mid_get', mid_set', hl1, h1, ← Nat.add_assoc, ↓OD, OA, Nat.reduceEqDiff, reduceCtorEq, Nat.reduceAdd, Nat.reduceLT, Nat.reduceLeDiff, reduceIte]
    repeat (refine And.intro (by omega) ?_)
    try simp (disch := omega) only [wrapA1]
    refine callK_intro _ _ ((markText_c _ (by omega)).any rfl rfl _) ?_
    simp only [↓OD, OA, Nat.reduceEqDiff, reduceCtorEq, Nat.reduceAdd, Nat.reduceLT, Nat.reduceLeDiff, reduceIte]
    try simp only [Int.toNat_natCast, mid_get', mid_set', hl1, h1, ← Nat.add_assoc, ↓OD, OA, Nat.reduceEqDiff, reduceCtorEq, Nat.reduceAdd, Nat.reduceLT, Nat.reduceLeDiff, reduceIte]
    repeat (refine And.intro (by omega) ?_)
    try simp (disch := omega) only [wrapA1]
    refine callK_intro _ _ ((markText_c _ (by omega)).any rfl rfl _) ?_
    simp only [↓OD, OA, Nat.reduceEqDiff, reduceCtorEq, Nat.reduceAdd, Nat.reduceLT, Nat.reduceLeDiff, reduceIte]
    try simp only [Int.toNat_natCast, mid_get', mid_set', hl1, h1, ← Nat.add_assoc, ↓OD, OA, Nat.reduceEqDiff, reduceCtorEq, Nat.reduceAdd, Nat.reduceLT, Nat.reduceLeDiff, reduceIte]
    repeat (refine And.intro (by omega) ?_)
    try simp (disch := omega) only [wrapA1]
    refine callK_intro _ _ (Con.kill (h0s _ (by omega)) _ (mid_getO (by simp only [List.length_append, List.length_cons, List.length_nil, List.length_replicate]; omega))) ?_
    rw [mid_setO (by simp only [List.length_append, List.length_cons, List.length_nil, List.length_replicate]; omega)]
    simp only [↓OD, OA, Nat.reduceEqDiff, reduceCtorEq, Nat.reduceAdd, Nat.reduceLT, Nat.reduceLeDiff, reduceIte]
    try simp only [Int.toNat_natCast, mid_get', mid_set', hl1, h1, ← Nat.add_assoc, ↓OD, OA, Nat.reduceEqDiff, reduceCtorEq, Nat.reduceAdd, Nat.reduceLT, Nat.reduceLeDiff, reduceIte]
    repeat (refine And.intro (by omega) ?_)
    try simp (disch := omega) only [wrapA1]
    refine callK_intro _ _ (Con.kill (h1s _ (by omega)) _ (mid_getO (by simp only [List.length_append, List.length_cons, List.length_nil, List.length_replicate]; omega))) ?_
    rw [mid_setO (by simp only [List.length_append, List.length_cons, List.length_nil, List.length_replicate]; omega)]
    simp only [↓OD, OA, Nat.reduceEqDiff, reduceCtorEq, Nat.reduceAdd, Nat.reduceLT, Nat.reduceLeDiff, reduceIte]
    try simp only [Int.toNat_natCast, mid_get', mid_set', hl1, h1, ← Nat.add_assoc, ↓OD, OA, Nat.reduceEqDiff, reduceCtorEq, Nat.reduceAdd, Nat.reduceLT, Nat.reduceLeDiff, reduceIte]
    repeat (refine And.intro (by omega) ?_)
    try simp (disch := omega) only [wrapA1]
    refine callK_intro _ _ (Con.kill (h2s _ (by omega)) _ (mid_getO (by simp only [List.length_append, List.length_cons, List.length_nil, List.length_replicate]; omega))) ?_
    rw [mid_setO (by simp only [List.length_append, List.length_cons, List.length_nil, List.length_replicate]; omega)]
    simp only [↓OD, OA, Nat.reduceEqDiff, reduceCtorEq, Nat.reduceAdd, Nat.reduceLT, Nat.reduceLeDiff, reduceIte]
    try simp only [Int.toNat_natCast, mid_get', mid_set', hl1, h1, ← Nat.add_assoc, ↓OD, OA, Nat.reduceEqDiff, reduceCtorEq, Nat.reduceAdd, Nat.reduceLT, Nat.reduceLeDiff, reduceIte]
    repeat (refine And.intro (by omega) ?_)
    try simp (disch := omega) only [wrapA1]
    refine callK_intro _ _ (Con.kill (h3s _ (by omega)) _ (mid_getO (by simp only [List.length_append, List.length_cons, List.length_nil, List.length_replicate]; omega))) ?_
    rw [mid_setO (by simp only [List.length_append, List.length_cons, List.length_nil, List.length_replicate]; omega)]
    simp only [↓OD, OA, Nat.reduceEqDiff, reduceCtorEq, Nat.reduceAdd, Nat.reduceLT, Nat.reduceLeDiff, reduceIte]
    try simp only [Int.toNat_natCast, mid_get', mid_set', hl1, h1, ← Nat.add_assoc, ↓OD, OA, Nat.reduceEqDiff, reduceCtorEq, Nat.reduceAdd, Nat.reduceLT, Nat.reduceLeDiff, reduceIte]
    repeat (refine And.intro (by omega) ?_)
    try simp (disch := omega) only [wrapA1]
    refine roundQ_intro (B ++ [.agg [.v (.int .i64 ((j : Nat) : Int)), .v (.string (markT (j + 1))), .v (.int .i64 ((j + 1 + 1 : Nat) : Int)), .v (.int .i64 ((j + 1 + 1 + 1 : Nat) : Int)), .v (.int .i64 ((j + 1 + 1 + 1 + 1 : Nat) : Int)), .v (.int .i64 ((j + 1 + 1 + 1 + 1 + 1 : Nat) : Int)), .v (.string (markT (j + 1 + 1 + 1 + 1 + 1 + 1))), .own (1 + m), .own (1 + m + 1), .own (1 + m + 1 + 1), .own (1 + m + 1 + 1 + 1)]], m + 1 + 1 + 1 + 1, j + 1 + 1 + 1 + 1 + 1 + 1 + 1 + AV.cnts (x.T.Kids.map VTy.av) + AV.cnts (x.Ts.map VTy.av) + AV.cnts (x.Vs.map VKVal.av) + AV.cnts (x.Kids.map VKTerm.av), r) ⟨by simp; omega, by simp only; omega, fun z hz => h3 z (by simp [hz])⟩ (by simp) (.of_eq ?_ ?_)
    · simp (disch := omega) only [wrapA1, List.length_append, List.length_cons, List.length_nil, Nat.zero_add]
    · simp only [List.append_assoc, List.cons_append, List.nil_append, List.replicate_succ', ← Nat.add_assoc]
  · cases rest with
    | cons x r => simp at hc h1; omega
    | nil =>
    simp only [List.map_nil, AV.cnts, Nat.add_zero] at h2
    subst h2
    simp only [↓OD, OA, Nat.reduceEqDiff, reduceCtorEq, Nat.reduceAdd, Nat.reduceLT, Nat.reduceLeDiff, reduceIte]
    refine ret_dead (.inl rfl) ?_
    simp only [↓OD, OA, Nat.reduceEqDiff, reduceCtorEq, Nat.reduceAdd, Nat.reduceLT, Nat.reduceLeDiff, reduceIte]
termination_by l.length + (l.map VKTerm.wt).sum
decreasing_by all_goals omega
theorem markKTerm_own (x : VKTerm) (k : Nat) (h : k + AV.cnts (x.T.Kids.map VTy.av) + AV.cnts (x.Ts.map VTy.av) + AV.cnts (x.Vs.map VKVal.av) + AV.cnts (x.Kids.map VKTerm.av) ≤ 4611686018427387904) : Con Try.prog F.laws_markKTerm [(spx 0 x.av).1, .v (.int .i64 (k : Int))] (spx 0 x.av).2 (.v (.int .i64 ((k + AV.cnts (x.T.Kids.map VTy.av) + AV.cnts (x.Ts.map VTy.av) + AV.cnts (x.Vs.map VKVal.av) + AV.cnts (x.Kids.map VKTerm.av) : Nat) : Int))) (List.replicate (spx 0 x.av).2.length .dead) := by
  simp only [VKTerm.spx]
  refine con_of_wp A.laws_markKTerm_ok rfl ?_
  simp only [A.laws_markKTerm, ↓OD, OA, Nat.reduceEqDiff, reduceCtorEq, Nat.reduceAdd, Nat.reduceLT, Nat.reduceLeDiff, reduceIte]
  have hT := fun b => (markTy_own x.T (k) (by omega)).at (owns_of (by rw [VTy.spx]; rfl)) (by rw [VTy.spx]; intro a ha; simp at ha; rcases ha with rfl | rfl <;> rfl) rfl [] [.own (.sl (x.Ts.map VTy.av)), .own (.sl (x.Vs.map VKVal.av)), .own (.sl (x.Kids.map VKTerm.av)), b]
  simp only [VTy.spx, List.map_cons, List.map_nil, ren_agg, ren_own, ren_v, List.length_nil, List.length_cons, List.nil_append, List.cons_append, Nat.zero_add, Nat.reduceAdd, List.replicate_succ, List.replicate_zero, ← Nat.add_assoc] at hT
  refine callK_intro _ _ (hT _) ?_
  simp only [↓OD, OA, Nat.reduceEqDiff, reduceCtorEq, Nat.reduceAdd, Nat.reduceLT, Nat.reduceLeDiff, reduceIte]
  refine callK_intro _ _ (Con.kill (markTyS_own x.Ts (k + AV.cnts (x.T.Kids.map VTy.av)) (by omega)) 1 rfl) ?_
  simp only [↓OD, OA, Nat.reduceEqDiff, reduceCtorEq, Nat.reduceAdd, Nat.reduceLT, Nat.reduceLeDiff, reduceIte]
  refine callK_intro _ _ (Con.kill (markKValS_own x.Vs (k + AV.cnts (x.T.Kids.map VTy.av) + AV.cnts (x.Ts.map VTy.av)) (by omega)) 2 rfl) ?_
  simp only [↓OD, OA, Nat.reduceEqDiff, reduceCtorEq, Nat.reduceAdd, Nat.reduceLT, Nat.reduceLeDiff, reduceIte]
  refine callK_intro _ _ (Con.kill (markKTermS_own x.Kids (k + AV.cnts (x.T.Kids.map VTy.av) + AV.cnts (x.Ts.map VTy.av) + AV.cnts (x.Vs.map VKVal.av)) (by omega)) 3 rfl) ?_
  simp only [↓OD, OA, Nat.reduceEqDiff, reduceCtorEq, Nat.reduceAdd, Nat.reduceLT, Nat.reduceLeDiff, reduceIte]
  refine ret_dead (.inl rfl) ?_
  simp only [↓OD, OA, Nat.reduceEqDiff, reduceCtorEq, Nat.reduceAdd, Nat.reduceLT, Nat.reduceLeDiff, reduceIte]
end Go.Proofs.Ab
