/-
  TEXTS OF CODE: the reference's PrintCode.
-/
import Derived.Test.YtkinchcjijhmgaaDoorWAsm3
set_option linter.unusedVariables false
set_option linter.unusedSimpArgs false
set_option linter.defProp false
namespace Go.Proofs.Ab
open Go.Ab
set_option maxRecDepth 100000
set_option maxHeartbeats 4000000
theorem spec_PrintCode_c (c : VCode) (hb : c.wt ≤ 1048576) (ho : c.ok) : PCon Tryd.prog F.spec_PrintCode [c.av] (avB (printM c)) := by
  have hw := c.wt_eq
  refine con_of_wp A.spec_PrintCode_ok rfl ?_
  try simp only [A.spec_PrintCode, VCode.width, VCode.isAgg, VCode.storable, VCode.cells, ↓OD, OA, Nat.reduceEqDiff, reduceCtorEq, Nat.reduceAdd, Nat.reduceLT, Nat.reduceLeDiff, reduceIte]
  refine callK_intro _ _ ((spec_CodeOk_c c hb).any (by simp [AV.norefs, VCode.noref]) rfl _) ?_
  by_cases hq : c.okM = true
  rotate_left
  · have hq' : c.okM = false := by simpa using hq
    have hm : printM c = ⟨#[]⟩ := if_neg hq
    try simp only [hq', hm, ↓OD, OA, Nat.reduceEqDiff, reduceCtorEq, Nat.reduceAdd, Nat.reduceLT, Nat.reduceLeDiff, reduceIte]
    exact ret_plain (.inl rfl) rfl (by simp only [↓OD, OA, Nat.reduceEqDiff, reduceCtorEq, Nat.reduceAdd, Nat.reduceLT, Nat.reduceLeDiff, reduceIte])
  · have hm : printM c = c.txt := if_pos hq
    obtain ⟨⟨hi1, hi2⟩, hst, hins, hsn⟩ := VCode.ok_parts hq
    try simp only [hq, hm, VCode.width, VCode.isAgg, VCode.storable, VCode.cells, ↓OD, OA, Nat.reduceEqDiff, reduceCtorEq, Nat.reduceAdd, Nat.reduceLT, Nat.reduceLeDiff, reduceIte]
    have hti := VCode.ok_instrs ho
    have htx := VCode.text_le c hb
    refine loopK_intro (ι := Nat × ByteArray) (fun q => startsT (c.Starts.drop q.1) q.2 = startsT c.Starts startsB ∧ q.2.size ≤ 6 + q.1 * 22 ∧ q.1 ≤ c.Starts.length)
      (fun q => envL [(1, .ptr 0 1 0 0), (3, .row 1 q.2.size), (4, avI q.1)])
      (fun q => [.live 30 2 [c.av], .live 5 1 (ysS q.2)]) (fun q => c.Starts.length - q.1) (0, startsB)
      ⟨rfl, (show (6 : Nat) ≤ 6 + 0 * 22 by omega), Nat.zero_le _⟩ (.of_eq (by simp only [List.length_map]; rfl) rfl) ?_
    rintro ⟨i, acc⟩ ⟨hg1, hg2, hle⟩
    simp only at hg1 hg2 hle
    try simp only [List.length_map, VCode.width, VCode.isAgg, VCode.storable, VCode.cells, avI, ↓OD, OA, Nat.reduceEqDiff, reduceCtorEq, Nat.reduceAdd, Nat.reduceLT, Nat.reduceLeDiff, reduceIte]
    refine condK_intro (fun hc => ?_) (fun hc => ?_)
    · have hlt : i < c.Starts.length := by simpa using hc
      rw [dropC hlt, startsT] at hg1
      have hn := hsn _ (List.getElem_mem hlt)
      have gn : (c.Starts.map avI).getD i .top = avI c.Starts[i] := by simp [List.getD, hlt]
      generalize c.Starts[i] = n at *
      have hsz := numB_size21 n (by omega) (by omega)
      have hi1' : IntKind.i64.wrap ((i : Int) + 1) = ((i + 1 : Nat) : Int) := wrapA1 (by omega)
      have hyl := ysS_len acc
      have hyl2 := ysS_len (byteSp ++ numB n)
      have hal : acc.size + (ysS (byteSp ++ numB n)).length = (acc ++ (byteSp ++ numB n)).size := by rw [hyl2, app_size acc]
      simp only [avI] at gn
      try simp only [↓OD, OA, Nat.reduceEqDiff, reduceCtorEq, Nat.reduceAdd, Nat.reduceLT, Nat.reduceLeDiff, reduceIte]
      refine drawK_intro ?_
      try simp only [Int.toNat_natCast, List.length_map, gn, hyl, VCode.width, VCode.isAgg, VCode.storable, VCode.cells, avI, ↓OD, OA, Nat.reduceEqDiff, reduceCtorEq, Nat.reduceAdd, Nat.reduceLT, Nat.reduceLeDiff, reduceIte]
      refine ⟨fun y hy => by simp at hy; subst hy; rfl, by omega, by rw [maxLen]; omega, ?_⟩
      rw [y1 acc 32 (by omega) (by omega)]
      have ha1 : acc.size + 1 = (acc ++ byteSp).size := by rw [app_size, byteSp_size]
      rw [show byteB 32 = byteSp from rfl, ha1]
      try simp only [Int.toNat_natCast, List.length_map, gn, hyl, VCode.width, VCode.isAgg, VCode.storable, VCode.cells, avI, ↓OD, OA, Nat.reduceEqDiff, reduceCtorEq, Nat.reduceAdd, Nat.reduceLT, Nat.reduceLeDiff, reduceIte]
      refine ⟨by omega, by omega, ?_⟩
      refine qcallK_intro _ (spec_l1Decimal_a n (by omega) (by omega)) rfl ?_
      have hyl3 := ysS_len (acc ++ byteSp)
      have hyl4 := ysS_len (numB n)
      have hss : (acc ++ byteSp).size ≤ 9000 := by rw [app_size, byteSp_size]; omega
      try simp only [ysS_fold, hyl3, hyl4, ↓OD, OA, Nat.reduceEqDiff, reduceCtorEq, Nat.reduceAdd, Nat.reduceLT, Nat.reduceLeDiff, reduceIte]
      refine ⟨by omega, by rw [maxLen]; omega, ?_⟩
      try simp only [↓OD, OA, Nat.reduceEqDiff, reduceCtorEq, Nat.reduceAdd, Nat.reduceLT, Nat.reduceLeDiff, reduceIte]
      refine ⟨by kernel_rfl, ?_⟩
      try simp only [hi1', avI, ↓OD, OA, Nat.reduceEqDiff, reduceCtorEq, Nat.reduceAdd, Nat.reduceLT, Nat.reduceLeDiff, reduceIte]
      refine roundQ_intro (i + 1, acc ++ (byteSp ++ numB n)) ⟨hg1, (show (acc ++ (byteSp ++ numB n)).size ≤ 6 + (i + 1) * 22 by rw [app_size, app_size, byteSp_size]; omega), hlt⟩ (show c.Starts.length - (i + 1) < c.Starts.length - i by omega) (.forgetE 2 ?_ ?_ (by omega) (by simp) ?_ ?_)
      · simp only [app_size, byteSp_size, avI, Nat.add_assoc]
      · simp only [ysS_app, appA]; rfl
      · simp only [List.all_cons, List.all_nil, Bool.and_true, AObj.inScope, AV.scopeds, noref_scoped _ (VCode.noref c), norefs_scopeds _ (ysS_norefs _), AV.inScope]
      · simp only [List.all_cons, List.all_nil, Bool.and_true, AV.inScope, avI]
        decide
    · have he : i = c.Starts.length := by have : ¬ i < c.Starts.length := by simpa using hc
                                          omega
      rw [List.drop_of_length_le (by omega), startsT] at hg1
      have hyl := ysS_len acc
      try simp only [hyl, avI, ↓OD, OA, Nat.reduceEqDiff, reduceCtorEq, Nat.reduceAdd, Nat.reduceLT, Nat.reduceLeDiff, reduceIte]
      refine ⟨fun y hy => by simp at hy; subst hy; rfl, by omega, by rw [maxLen]; omega, ?_⟩
      rw [y1 acc 10 (by omega) (by omega)]
      have ha1 : acc.size + 1 = (acc ++ byteB 10).size := by rw [app_size, byteB_size]
      rw [ha1]
      have hs2 : (acc ++ byteB 10).size ≤ 9000 := by rw [app_size, byteB_size]; omega
      have htx2 : c.txt = linesT c.Instrs (acc ++ byteB 10) := by rw [hg1]; rfl
      generalize acc ++ byteB 10 = acc2 at *
      try simp only [VCode.width, VCode.isAgg, VCode.storable, VCode.cells, ↓OD, OA, Nat.reduceEqDiff, reduceCtorEq, Nat.reduceAdd, Nat.reduceLT, Nat.reduceLeDiff, reduceIte]
      refine loopK_intro (ι := Nat × ByteArray) (fun q => linesT (c.Instrs.drop q.1) q.2 = c.txt ∧ q.2.size ≤ 9000 + q.1 * 7340200 ∧ q.1 ≤ c.Instrs.length)
        (fun q => envL [(1, .ptr 0 1 0 0), (3, .row 1 q.2.size), (5, avI q.1)])
        (fun q => [.live 30 2 [c.av], .live 5 1 (ysS q.2), .live 5 1 [.v (.int .u8 10)]]) (fun q => c.Instrs.length - q.1) (0, acc2)
        ⟨htx2.symm, (show acc2.size ≤ 9000 + 0 * 7340200 by omega), Nat.zero_le _⟩ (.of_eq (by simp only [List.length_map]; rfl) rfl) ?_
      rintro ⟨i, acc⟩ ⟨hg1, hg2, hle⟩
      simp only at hg1 hg2 hle
      try simp only [List.length_map, VCode.width, VCode.isAgg, VCode.storable, VCode.cells, avI, ↓OD, OA, Nat.reduceEqDiff, reduceCtorEq, Nat.reduceAdd, Nat.reduceLT, Nat.reduceLeDiff, reduceIte]
      refine condK_intro (fun hc => ?_) (fun hc => ?_)
      · have hlt : i < c.Instrs.length := by simpa using hc
        rw [dropC hlt, linesT] at hg1
        have gn : (c.Instrs.map VInstr.av).getD i .top = (c.Instrs[i]).av := by simp [List.getD, hlt]
        have hok := VInstr.okM_form (hins _ (List.getElem_mem hlt))
        have hin := hti _ (List.getElem_mem hlt)
        obtain ⟨hxw, hxt⟩ := htx _ (List.getElem_mem hlt)
        generalize c.Instrs[i] = x at *
        have hls := x.line_size hin
        have hi1' : IntKind.i64.wrap ((i : Int) + 1) = ((i + 1 : Nat) : Int) := wrapA1 (by omega)
        have hyl := ysS_len acc
        have hyl2 := ysS_len (x.lineM ++ byteB 10)
        have hop := hok.1
        try simp only [Int.toNat_natCast, List.length_map, gn, VInstr.width, VInstr.isAgg, VInstr.storable, VCode.width, VCode.isAgg, VCode.storable, VCode.cells, avI, ↓OD, OA, Nat.reduceEqDiff, reduceCtorEq, Nat.reduceAdd, Nat.reduceLT, Nat.reduceLeDiff, reduceIte]
        refine ⟨by omega, by omega, ?_⟩
        refine callK_intro _ _ ((spec_l16Line_c x (by omega) (by omega) hin hxw).any (by simp [AV.norefs, VInstr.noref]) rfl _) ?_
        have hyl3 := ysS_len x.lineM
        try simp only [ysS_fold, hyl, hyl3, ↓OD, OA, Nat.reduceEqDiff, reduceCtorEq, Nat.reduceAdd, Nat.reduceLT, Nat.reduceLeDiff, reduceIte]
        refine ⟨by omega, by rw [maxLen]; omega, ?_⟩
        have hyl4 : (ysS acc ++ ysS x.lineM).length = acc.size + x.lineM.size := by rw [List.length_append, hyl, hyl3]
        try simp only [hyl4, ↓OD, OA, Nat.reduceEqDiff, reduceCtorEq, Nat.reduceAdd, Nat.reduceLT, Nat.reduceLeDiff, reduceIte]
        refine ⟨fun y hy => by simp at hy; subst hy; rfl, by omega, by rw [maxLen]; omega, ?_⟩
        try simp only [hi1', avI, ↓OD, OA, Nat.reduceEqDiff, reduceCtorEq, Nat.reduceAdd, Nat.reduceLT, Nat.reduceLeDiff, reduceIte]
        refine roundQ_intro (i + 1, acc ++ (x.lineM ++ byteB 10)) ⟨hg1, (show (acc ++ (x.lineM ++ byteB 10)).size ≤ 9000 + (i + 1) * 7340200 by rw [app_size, app_size, byteB_size]; omega), hlt⟩ (show c.Instrs.length - (i + 1) < c.Instrs.length - i by omega) (.forgetE 3 ?_ ?_ (by omega) (by simp) ?_ ?_)
        · simp only [app_size, byteB_size, avI, Nat.add_assoc]
        · rw [ysS_app, y1 _ 10 (by omega) (by omega), appA]; rfl
        · simp only [List.all_cons, List.all_nil, Bool.and_true, AObj.inScope, AV.scopeds, noref_scoped _ (VCode.noref c), norefs_scopeds _ (ysS_norefs _), AV.inScope]
        · simp only [List.all_cons, List.all_nil, Bool.and_true, AV.inScope, avI]
          decide
      · have he : i = c.Instrs.length := by have : ¬ i < c.Instrs.length := by simpa using hc
                                            omega
        rw [List.drop_of_length_le (by omega), linesT] at hg1
        try simp only [↓OD, OA, Nat.reduceEqDiff, reduceCtorEq, Nat.reduceAdd, Nat.reduceLT, Nat.reduceLeDiff, reduceIte]
        refine b2s_intro rfl rfl ?_
        try simp only [↓OD, OA, Nat.reduceEqDiff, reduceCtorEq, Nat.reduceAdd, Nat.reduceLT, Nat.reduceLeDiff, reduceIte]
        rw [hg1]
        exact ret_plain (.inl rfl) rfl (by simp only [↓OD, OA, Nat.reduceEqDiff, reduceCtorEq, Nat.reduceAdd, Nat.reduceLT, Nat.reduceLeDiff, reduceIte])
end Go.Proofs.Ab
