/-
  TEXTS OF CODE: the program's PrintCode and the reference's.
-/
import Derived.Test.YtkinchcjijhmgaaDoorWAsm2
set_option linter.unusedVariables false
set_option linter.unusedSimpArgs false
set_option linter.defProp false
namespace Go.Ab
set_option maxRecDepth 100000
def startsT : List Int → ByteArray → ByteArray
  | [], acc => acc
  | n :: r, acc => startsT r (acc ++ (byteSp ++ numB n))
def linesT : List VInstr → ByteArray → ByteArray
  | [], acc => acc
  | x :: r, acc => linesT r (acc ++ (x.lineM ++ byteB 10))
def startsB : ByteArray := ⟨#[115, 116, 97, 114, 116, 115]⟩
/-- the text of a code that is right -/
def VCode.txt (c : VCode) : ByteArray := linesT c.Instrs (startsT c.Starts startsB ++ byteB 10)
def printM (c : VCode) : ByteArray := if c.okM = true then c.txt else ⟨#[]⟩
theorem ysS_fold (c : ByteArray) : (c.data.toList.map fun c => AV.v (.int .u8 c.toNat)) = ysS c := rfl
theorem b2s_intro {n len t : Nat} {O : List AObj} {K : KT} {acc : ByteArray} (hO : O[n]? = some (.live t 1 (ysS acc))) (hl : acc.size = len) (h : k1 (.v (.string acc)) O K) : puKK .b2s [frz O (.row n len)] O K := by
  have hf : frz O (.row n len) = .sl (ysS acc) := by simp only [frz, hO, ysS_len, hl, if_true]
  have hu : ∀ l : List UInt8, u8s (l.map fun c => AV.v (.int .u8 c.toNat)) = some l := by
    intro l
    induction l with
    | nil => rfl
    | cons c l ih => simp [u8s, ih]
  have hn : ∀ l : List UInt8, AV.norefs (l.map fun c => AV.v (.int .u8 c.toNat)) = true := by
    intro l
    induction l with
    | nil => rfl
    | cons c l ih => simp [AV.norefs, AV.noref, ih]
  rw [hf]
  refine ⟨by simp only [AV.norefs, AV.noref, Bool.and_true]; exact hn _, ?_⟩
  have : puF .b2s [.sl (ysS acc)] = some (.v (.string acc)) := by
    simp only [puF, ysS, hu, Option.map_some]
  simp only [puK, this]
  exact h
theorem VCode.ok_parts {c : VCode} (h : c.okM = true) : (1 ≤ c.Instrs.length ∧ c.Instrs.length ≤ 40000) ∧ c.Starts.length ≤ 400 ∧ (∀ x ∈ c.Instrs, x.okM c.Instrs.length c.Starts.length = true) ∧ ∀ n ∈ c.Starts, 0 ≤ n ∧ n ≤ 40000 := by
  simp only [VCode.okM, Bool.and_eq_true, inB, decide_eq_true_eq, List.all_eq_true] at h
  obtain ⟨⟨⟨⟨h1, h2⟩, h3⟩, h4⟩, _⟩ := h
  refine ⟨by omega, by omega, h3, fun n hn => ?_⟩
  have := h4 n hn
  simp only [VCode.pS, inB, Bool.and_eq_true, decide_eq_true_eq] at this
  omega
theorem VCode.ok_instrs {c : VCode} (h : c.ok) : ∀ x ∈ c.Instrs, x.inM := by
  cases c with
  | mk I S =>
    intro x hx
    have := h.1 x hx
    cases x with
    | mk Op A B C N T =>
      obtain ⟨_, hA, hB, hC, hN⟩ := this
      exact ⟨hA, hB, hC, hN⟩
theorem VCode.text_le (c : VCode) (hb : c.wt ≤ 1048576) : ∀ x ∈ c.Instrs, x.wt ≤ 1048576 ∧ x.Text.size ≤ 1048576 := by
  intro x hx
  have hw := c.wt_eq
  have h1 := le_sum VInstr.wt hx
  have h2 := x.wt_eq
  omega
theorem wantOp_nine {t : ByteArray} (h : (wantOp t).2 = true) : t = ⟨#[43]⟩ ∨ t = ⟨#[45]⟩ ∨ t = ⟨#[42]⟩ ∨ t = ⟨#[61]⟩ ∨ t = ⟨#[60]⟩ ∨ t = ⟨#[94]⟩ ∨ t = ⟨#[115, 105, 122, 101]⟩ ∨ t = ⟨#[114, 101, 97, 100]⟩ ∨ t = ⟨#[112, 114, 105, 110, 116]⟩ := by
  unfold wantOp at h
  by_cases h1 : t = ⟨#[43]⟩ ∨ t = ⟨#[45]⟩ ∨ t = ⟨#[42]⟩ ∨ t = ⟨#[61]⟩ ∨ t = ⟨#[60]⟩ ∨ t = ⟨#[94]⟩
  · rcases h1 with h | h | h | h | h | h <;> simp [h]
  rw [if_neg h1] at h
  by_cases h2 : t = ⟨#[115, 105, 122, 101]⟩
  · simp [h2]
  rw [if_neg h2] at h
  by_cases h3 : t = ⟨#[114, 101, 97, 100]⟩
  · simp [h3]
  rw [if_neg h3] at h
  by_cases h4 : t = ⟨#[112, 114, 105, 110, 116]⟩
  · simp [h4]
  rw [if_neg h4] at h
  cases h
theorem VInstr.okM_form {x : VInstr} {n m : Int} (h : x.okM n m = true) : x.formOk := by
  simp only [VInstr.okM, Bool.and_eq_true] at h
  obtain ⟨⟨⟨_, hw⟩, _⟩, _⟩ := h
  have hop : 1 ≤ x.Op ∧ x.Op ≤ 15 := by
    unfold VInstr.want at hw
    by_cases h1 : 1 ≤ x.Op ∧ x.Op ≤ 15
    · exact h1
    · rw [if_neg (by omega), if_neg (by omega), if_neg (by omega), if_neg (by omega), if_neg (by omega), if_neg (by omega), if_neg (by omega)] at hw
      cases hw
  refine ⟨hop, fun h7 => wantOp_nine ?_⟩
  unfold VInstr.want at hw
  rw [if_neg (by omega), if_neg (by omega), if_neg (by omega), if_pos h7] at hw
  exact hw
end Go.Ab
namespace Go.Proofs.Ab
open Go.Ab
set_option maxRecDepth 100000
set_option maxHeartbeats 4000000
theorem impl_PrintCode_c (c : VCode) (hb : c.wt ≤ 1048576) (ho : c.ok) : PCon Tryd.prog F.impl_PrintCode [c.av] (avB (printM c)) := by
  have hw := c.wt_eq
  refine con_of_wp A.impl_PrintCode_ok rfl ?_
  simp only [A.impl_PrintCode, VCode.width, VCode.isAgg, VCode.storable, VCode.cells, ↓OD, OA, Nat.reduceEqDiff, reduceCtorEq, Nat.reduceAdd, Nat.reduceLT, Nat.reduceLeDiff, reduceIte]
  refine callK_intro _ _ ((impl_CodeOk_c c hb).any (by simp [AV.norefs, VCode.noref]) rfl _) ?_
  by_cases hq : c.okM = true
  rotate_left
  · have hq' : c.okM = false := by simpa using hq
    have hm : printM c = ⟨#[]⟩ := if_neg hq
    simp only [hq', hm, ↓OD, OA, Nat.reduceEqDiff, reduceCtorEq, Nat.reduceAdd, Nat.reduceLT, Nat.reduceLeDiff, reduceIte]
    exact ret_plain (.inl rfl) rfl (by simp only [↓OD, OA, Nat.reduceEqDiff, reduceCtorEq, Nat.reduceAdd, Nat.reduceLT, Nat.reduceLeDiff, reduceIte])
  · have hm : printM c = c.txt := if_pos hq
    obtain ⟨⟨hi1, hi2⟩, hst, hins, hsn⟩ := VCode.ok_parts hq
    simp only [hq, hm, VCode.width, VCode.isAgg, VCode.storable, VCode.cells, ↓OD, OA, Nat.reduceEqDiff, reduceCtorEq, Nat.reduceAdd, Nat.reduceLT, Nat.reduceLeDiff, reduceIte]
    have hti := VCode.ok_instrs ho
    have htx := VCode.text_le c hb
    refine loopK_intro (ι := Nat × ByteArray) (fun q => startsT (c.Starts.drop q.1) q.2 = startsT c.Starts startsB ∧ q.2.size ≤ 6 + q.1 * 22 ∧ q.1 ≤ c.Starts.length)
      (fun q => envL [(1, .ptr 0 1 0 0), (3, .row 1 q.2.size), (14, .sl (c.Starts.map avI)), (15, avI c.Starts.length), (16, avI q.1)])
      (fun q => [.live 30 2 [c.av], .live 5 1 (ysS q.2)]) (fun q => c.Starts.length - q.1) (0, startsB)
      ⟨rfl, (show (6 : Nat) ≤ 6 + 0 * 22 by omega), Nat.zero_le _⟩ (.of_eq (by simp only [List.length_map]; rfl) rfl) ?_
    rintro ⟨i, acc⟩ ⟨hg1, hg2, hle⟩
    simp only at hg1 hg2 hle
    simp only [avI, ↓OD, OA, Nat.reduceEqDiff, reduceCtorEq, Nat.reduceAdd, Nat.reduceLT, Nat.reduceLeDiff, reduceIte]
    refine condK_intro (fun hc => ?_) (fun hc => ?_)
    · have hlt : i < c.Starts.length := by simpa using hc
      rw [dropC hlt, startsT] at hg1
      have hn := hsn _ (List.getElem_mem hlt)
      have gn : (c.Starts.map avI).getD i .top = avI c.Starts[i] := by simp [List.getD, hlt]
      generalize c.Starts[i] = n at *
      have hsz := numB_size21 n (by omega) (by omega)
      have hi1' : IntKind.i64.wrap ((i : Int) + 1) = ((i + 1 : Nat) : Int) := wrapA1 (by omega)
      have hyl := ysS_len acc
      have hyl2 := ysS_len (byteSp ++ numB n)
      have hal : acc.size + (ysS (byteSp ++ numB n)).length = (acc ++ (byteSp ++ numB n)).size := by rw [hyl2, app_size acc]
      simp only [avI] at gn
      simp only [Int.toNat_natCast, List.length_map, gn, avI, ↓OD, OA, Nat.reduceEqDiff, reduceCtorEq, Nat.reduceAdd, Nat.reduceLT, Nat.reduceLeDiff, reduceIte]
      refine ⟨by omega, by omega, ?_⟩
      refine callK_intro _ _ (itoa_any n (by omega) (by omega) _) ?_
      simp only [sp_eq, app_size, byteSp_size, ysS_fold, hyl, ↓OD, OA, Nat.reduceEqDiff, reduceCtorEq, Nat.reduceAdd, Nat.reduceLT, Nat.reduceLeDiff, reduceIte]
      refine ⟨by omega, ?_⟩
      rw [hyl2, app_size, byteSp_size]
      refine ⟨by omega, by rw [maxLen]; omega, ?_⟩
      simp only [hi1', avI, ↓OD, OA, Nat.reduceEqDiff, reduceCtorEq, Nat.reduceAdd, Nat.reduceLT, Nat.reduceLeDiff, reduceIte]
      refine roundQ_intro (i + 1, acc ++ (byteSp ++ numB n)) ⟨hg1, (show (acc ++ (byteSp ++ numB n)).size ≤ 6 + (i + 1) * 22 by rw [app_size, app_size, byteSp_size]; omega), hlt⟩ (show c.Starts.length - (i + 1) < c.Starts.length - i by omega) (.of_eq ?_ ?_)
      · simp only [app_size, byteSp_size, avI]
      · simp only [ysS_app]
    · have he : i = c.Starts.length := by have : ¬ i < c.Starts.length := by simpa using hc
                                          omega
      rw [List.drop_of_length_le (by omega), startsT] at hg1
      have hyl := ysS_len acc
      simp only [hyl, avI, ↓OD, OA, Nat.reduceEqDiff, reduceCtorEq, Nat.reduceAdd, Nat.reduceLT, Nat.reduceLeDiff, reduceIte]
      refine ⟨fun y hy => by simp at hy; subst hy; rfl, by omega, by rw [maxLen]; omega, ?_⟩
      rw [y1 acc 10 (by omega) (by omega)]
      have ha1 : acc.size + 1 = (acc ++ byteB 10).size := by rw [app_size, byteB_size]
      rw [ha1]
      have hs2 : (acc ++ byteB 10).size ≤ 9000 := by rw [app_size, byteB_size]; omega
      have htx2 : c.txt = linesT c.Instrs (acc ++ byteB 10) := by rw [hg1]; rfl
      generalize acc ++ byteB 10 = acc2 at *
      simp only [VCode.width, VCode.isAgg, VCode.storable, VCode.cells, ↓OD, OA, Nat.reduceEqDiff, reduceCtorEq, Nat.reduceAdd, Nat.reduceLT, Nat.reduceLeDiff, reduceIte]
      refine loopK_intro (ι := Nat × ByteArray) (fun q => linesT (c.Instrs.drop q.1) q.2 = c.txt ∧ q.2.size ≤ 9000 + q.1 * 7340200 ∧ q.1 ≤ c.Instrs.length)
        (fun q => envL [(3, .row 1 q.2.size), (30, .sl (c.Instrs.map VInstr.av)), (31, avI c.Instrs.length), (32, avI q.1)])
        (fun q => [.live 30 2 [c.av], .live 5 1 (ysS q.2), .live 5 1 [.v (.int .u8 10)]]) (fun q => c.Instrs.length - q.1) (0, acc2)
        ⟨htx2.symm, (show acc2.size ≤ 9000 + 0 * 7340200 by omega), Nat.zero_le _⟩ (.of_eq (by simp only [List.length_map]; rfl) rfl) ?_
      rintro ⟨i, acc⟩ ⟨hg1, hg2, hle⟩
      simp only at hg1 hg2 hle
      simp only [avI, ↓OD, OA, Nat.reduceEqDiff, reduceCtorEq, Nat.reduceAdd, Nat.reduceLT, Nat.reduceLeDiff, reduceIte]
      refine condK_intro (fun hc => ?_) (fun hc => ?_)
      · have hlt : i < c.Instrs.length := by simpa using hc
        rw [dropC hlt, linesT] at hg1
        have gn : (c.Instrs.map VInstr.av).getD i .top = (c.Instrs[i]).av := by simp [List.getD, hlt]
        have hok := VInstr.okM_form (hins _ (List.getElem_mem hlt))
        have hin := hti _ (List.getElem_mem hlt)
        obtain ⟨hxw, hxt⟩ := htx _ (List.getElem_mem hlt)
        generalize c.Instrs[i] = x at *
        have hls := x.line_size hin
        have hi1' : IntKind.i64.wrap ((i : Int) + 1) = ((i + 1 : Nat) : Int) := wrapA1 (by omega)
        have hyl := ysS_len acc
        have hyl2 := ysS_len (x.lineM ++ byteB 10)
        simp only [Int.toNat_natCast, List.length_map, gn, VInstr.width, VInstr.isAgg, VInstr.storable, avI, ↓OD, OA, Nat.reduceEqDiff, reduceCtorEq, Nat.reduceAdd, Nat.reduceLT, Nat.reduceLeDiff, reduceIte]
        repeat (refine And.intro (by first | omega | exact VInstr.storable _) ?_)
        try simp only [Int.toNat_natCast, List.length_map, gn, VInstr.width, VInstr.isAgg, VInstr.storable, avI, ↓OD, OA, Nat.reduceEqDiff, reduceCtorEq, Nat.reduceAdd, Nat.reduceLT, Nat.reduceLeDiff, reduceIte]
        refine callK_intro _ _ ((impl_instrLine_c x hok hin hxw).any (by simp [AV.norefs, VInstr.noref]) rfl _) ?_
        have h10 : (⟨#[10]⟩ : ByteArray) = byteB 10 := rfl
        simp only [h10, app_size, byteB_size, ysS_fold, hyl, ↓OD, OA, Nat.reduceEqDiff, reduceCtorEq, Nat.reduceAdd, Nat.reduceLT, Nat.reduceLeDiff, reduceIte]
        refine ⟨by omega, ?_⟩
        rw [hyl2, app_size, byteB_size]
        refine ⟨by omega, by rw [maxLen]; omega, ?_⟩
        simp only [hi1', avI, ↓OD, OA, Nat.reduceEqDiff, reduceCtorEq, Nat.reduceAdd, Nat.reduceLT, Nat.reduceLeDiff, reduceIte]
        refine roundQ_intro (i + 1, acc ++ (x.lineM ++ byteB 10)) ⟨hg1, (show (acc ++ (x.lineM ++ byteB 10)).size ≤ 9000 + (i + 1) * 7340200 by rw [app_size, app_size, byteB_size]; omega), hlt⟩ (show c.Instrs.length - (i + 1) < c.Instrs.length - i by omega) (.forgetE 3 ?_ ?_ (by omega) (by simp) ?_ ?_)
        · simp only [app_size, byteB_size, avI]
        · simp only [ysS_app]; rfl
        · simp only [List.all_cons, List.all_nil, Bool.and_true, AObj.inScope, AV.scopeds, noref_scoped _ (VCode.noref c), norefs_scopeds _ (ysS_norefs _), AV.inScope]
        · simp only [List.all_cons, List.all_nil, Bool.and_true, AV.inScope, avI, norefs_scopeds _ (norefsM (f := VInstr.av) (l := c.Instrs) VInstr.noref)]
          decide
      · have he : i = c.Instrs.length := by have : ¬ i < c.Instrs.length := by simpa using hc
                                            omega
        rw [List.drop_of_length_le (by omega), linesT] at hg1
        simp only [↓OD, OA, Nat.reduceEqDiff, reduceCtorEq, Nat.reduceAdd, Nat.reduceLT, Nat.reduceLeDiff, reduceIte]
        refine b2s_intro rfl rfl ?_
        simp only [↓OD, OA, Nat.reduceEqDiff, reduceCtorEq, Nat.reduceAdd, Nat.reduceLT, Nat.reduceLeDiff, reduceIte]
        rw [hg1]
        exact ret_plain (.inl rfl) rfl (by simp only [↓OD, OA, Nat.reduceEqDiff, reduceCtorEq, Nat.reduceAdd, Nat.reduceLT, Nat.reduceLeDiff, reduceIte])
end Go.Proofs.Ab
