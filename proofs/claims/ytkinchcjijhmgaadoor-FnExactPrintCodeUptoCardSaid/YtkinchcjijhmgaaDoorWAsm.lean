/-
  TEXTS OF CODE: the program's forms and lines (printed by wip/tool/mkwasm.py).
-/
import Derived.Test.YtkinchcjijhmgaaDoorCAsm
import Derived.Test.YtkinchcjijhmgaaDoorGM
import Derived.Test.YtkinchcjijhmgaaDoorSA
set_option linter.unusedVariables false
set_option linter.unusedSimpArgs false
set_option linter.defProp false
namespace Go.Ab
set_option maxRecDepth 100000
theorem ret_plain {rs : List ARes} {res : AV} {x : AX} (hx : x = .ret ∨ x = .normal) {e : Env} {O : List AObj} (hn : res.noref = true) (h : resK e O rs [] fun xs => packR xs = res) : retK 0 rs res [] x e O :=
  ret_from hx O.length h (noref_ren _ hn).symm (by simp) (by simp) (noref_scoped _ hn)
theorem end_ex {res : AV} {O : List AObj} (hn : res.noref = true) : ∃ e', WK 0 (fun t => if t = 0 then res else .top) O e' [] ∧ e' 0 = res :=
  ⟨fun t => if t = 0 then res else .top, .forget (k := 0) (by simp) (Nat.le_refl _) (Nat.zero_le _) (fun ob ho => by simp at ho) fun t => by
    by_cases ht : t = 0
    · subst ht; exact .inr ⟨rfl, noref_scoped _ hn⟩
    · exact .inl (by simp [ht]), rfl⟩
theorem decode_low {s : ByteArray} {i : Nat} {c : Int} (h : (bs s)[i]? = some c) (hc : c < 128) : Utf8.decode s i = (c.toNat, 1) := by
  simp only [bs, List.getElem?_map, Option.map_eq_some_iff] at h
  obtain ⟨b, hb, rfl⟩ := h
  have hb' : s.data[i]? = some b := by simpa using hb
  have hlt := (Array.getElem?_eq_some_iff.1 hb').1
  have hg : s.get! (i + 0) = b := by
    show s.data[i]! = b
    rw [getElem!_pos s.data i hlt]
    exact (Array.getElem?_eq_some_iff.1 hb').2
  have hn : b.toNat < 128 := by omega
  unfold Utf8.decode
  simp only [hg]
  rw [if_pos hn]
  simp
/-- an instruction that has a form -/
def VInstr.formOk (x : VInstr) : Prop := (1 ≤ x.Op ∧ x.Op ≤ 15) ∧ (x.Op = 7 → x.Text = ⟨#[43]⟩ ∨ x.Text = ⟨#[45]⟩ ∨ x.Text = ⟨#[42]⟩ ∨ x.Text = ⟨#[61]⟩ ∨ x.Text = ⟨#[60]⟩ ∨ x.Text = ⟨#[94]⟩ ∨ x.Text = ⟨#[115, 105, 122, 101]⟩ ∨ x.Text = ⟨#[114, 101, 97, 100]⟩ ∨ x.Text = ⟨#[112, 114, 105, 110, 116]⟩)
def VInstr.partsM (x : VInstr) : ByteArray := (formW x.wordM).2.2
theorem parts_letters {x : VInstr} (h : x.formOk) : ∀ c ∈ bs x.partsM, c = 97 ∨ c = 98 ∨ c = 99 ∨ c = 110 ∨ c = 116 := by
  obtain ⟨h1, h2⟩ := h
  unfold VInstr.partsM VInstr.wordM
  by_cases h7 : x.Op = 7
  · rw [if_pos h7]
    rcases h2 h7 with h | h | h | h | h | h | h | h | h <;> rw [h] <;> decide
  · rw [if_neg h7]
    rcases (by omega : x.Op = 1 ∨ x.Op = 2 ∨ x.Op = 3 ∨ x.Op = 4 ∨ x.Op = 5 ∨ x.Op = 6 ∨ x.Op = 8 ∨ x.Op = 9 ∨ x.Op = 10 ∨ x.Op = 11 ∨ x.Op = 12 ∨ x.Op = 13 ∨ x.Op = 14 ∨ x.Op = 15) with h | h | h | h | h | h | h | h | h | h | h | h | h | h <;> rw [h] <;> decide
end Go.Ab
namespace Go.Proofs.Ab
open Go.Ab
set_option maxRecDepth 100000
set_option maxHeartbeats 4000000
theorem impl_formOf_c (x : VInstr) (h : x.formOk) : PCon Tryd.prog F.impl_formOf [x.av] (.agg [avB x.wordM, avB x.partsM]) := by
  obtain ⟨h1, h2⟩ := h
  refine con_of_wp A.impl_formOf_ok rfl ?_
  simp only [A.impl_formOf, VInstr.width, VInstr.isAgg, VInstr.storable, ↓OD, OA, Nat.reduceEqDiff, reduceCtorEq, Nat.reduceAdd, Nat.reduceLT, Nat.reduceLeDiff, reduceIte]
  refine mset_intro rfl (by decide) (by decide) ?_
  simp only [VInstr.width, VInstr.isAgg, VInstr.storable, VInstr.cells, ↓OD, OA, Nat.reduceEqDiff, reduceCtorEq, Nat.reduceAdd, Nat.reduceLT, Nat.reduceLeDiff, reduceIte]
  refine mset_intro rfl (by decide) (by decide) ?_
  simp only [VInstr.width, VInstr.isAgg, VInstr.storable, VInstr.cells, ↓OD, OA, Nat.reduceEqDiff, reduceCtorEq, Nat.reduceAdd, Nat.reduceLT, Nat.reduceLeDiff, reduceIte]
  refine mset_intro rfl (by decide) (by decide) ?_
  simp only [VInstr.width, VInstr.isAgg, VInstr.storable, VInstr.cells, ↓OD, OA, Nat.reduceEqDiff, reduceCtorEq, Nat.reduceAdd, Nat.reduceLT, Nat.reduceLeDiff, reduceIte]
  refine mset_intro rfl (by decide) (by decide) ?_
  simp only [VInstr.width, VInstr.isAgg, VInstr.storable, VInstr.cells, ↓OD, OA, Nat.reduceEqDiff, reduceCtorEq, Nat.reduceAdd, Nat.reduceLT, Nat.reduceLeDiff, reduceIte]
  refine mset_intro rfl (by decide) (by decide) ?_
  simp only [VInstr.width, VInstr.isAgg, VInstr.storable, VInstr.cells, ↓OD, OA, Nat.reduceEqDiff, reduceCtorEq, Nat.reduceAdd, Nat.reduceLT, Nat.reduceLeDiff, reduceIte]
  refine mset_intro rfl (by decide) (by decide) ?_
  simp only [VInstr.width, VInstr.isAgg, VInstr.storable, VInstr.cells, ↓OD, OA, Nat.reduceEqDiff, reduceCtorEq, Nat.reduceAdd, Nat.reduceLT, Nat.reduceLeDiff, reduceIte]
  refine condK_intro (fun hc => ?_) (fun hc => ?_)
  · have h7 : ¬ x.Op = 7 := by simpa using hc
    rcases (by omega : x.Op = 1 ∨ x.Op = 2 ∨ x.Op = 3 ∨ x.Op = 4 ∨ x.Op = 5 ∨ x.Op = 6 ∨ x.Op = 8 ∨ x.Op = 9 ∨ x.Op = 10 ∨ x.Op = 11 ∨ x.Op = 12 ∨ x.Op = 13 ∨ x.Op = 14 ∨ x.Op = 15) with h | h | h | h | h | h | h | h | h | h | h | h | h | h
    · have hw : IntKind.i64.wrap (x.Op - 1) = 0 := by rw [h]; rfl
      have e1 : x.wordM = ⟨#[105, 110, 116]⟩ := by unfold VInstr.wordM; rw [h]; rfl
      have e2 : x.partsM = ⟨#[97, 110]⟩ := by unfold VInstr.partsM; rw [e1]; rfl
      simp only [hw, VInstr.width, VInstr.isAgg, VInstr.storable, VInstr.cells, Int.reduceToNat, ↓OD, OA, Nat.reduceEqDiff, reduceCtorEq, Nat.reduceAdd, Nat.reduceLT, Nat.reduceLeDiff, reduceIte]
      repeat (refine And.intro (by decide) ?_)
      try simp only [hw, VInstr.width, VInstr.isAgg, VInstr.storable, VInstr.cells, Int.reduceToNat, ↓OD, OA, Nat.reduceEqDiff, reduceCtorEq, Nat.reduceAdd, Nat.reduceLT, Nat.reduceLeDiff, reduceIte]
      rw [e1, e2]
      exact end_ex rfl
    · have hw : IntKind.i64.wrap (x.Op - 1) = 1 := by rw [h]; rfl
      have e1 : x.wordM = ⟨#[115, 116, 114]⟩ := by unfold VInstr.wordM; rw [h]; rfl
      have e2 : x.partsM = ⟨#[97, 116]⟩ := by unfold VInstr.partsM; rw [e1]; rfl
      simp only [hw, VInstr.width, VInstr.isAgg, VInstr.storable, VInstr.cells, Int.reduceToNat, ↓OD, OA, Nat.reduceEqDiff, reduceCtorEq, Nat.reduceAdd, Nat.reduceLT, Nat.reduceLeDiff, reduceIte]
      repeat (refine And.intro (by decide) ?_)
      try simp only [hw, VInstr.width, VInstr.isAgg, VInstr.storable, VInstr.cells, Int.reduceToNat, ↓OD, OA, Nat.reduceEqDiff, reduceCtorEq, Nat.reduceAdd, Nat.reduceLT, Nat.reduceLeDiff, reduceIte]
      rw [e1, e2]
      exact end_ex rfl
    · have hw : IntKind.i64.wrap (x.Op - 1) = 2 := by rw [h]; rfl
      have e1 : x.wordM = ⟨#[108, 97, 98]⟩ := by unfold VInstr.wordM; rw [h]; rfl
      have e2 : x.partsM = ⟨#[97, 110]⟩ := by unfold VInstr.partsM; rw [e1]; rfl
      simp only [hw, VInstr.width, VInstr.isAgg, VInstr.storable, VInstr.cells, Int.reduceToNat, ↓OD, OA, Nat.reduceEqDiff, reduceCtorEq, Nat.reduceAdd, Nat.reduceLT, Nat.reduceLeDiff, reduceIte]
      repeat (refine And.intro (by decide) ?_)
      try simp only [hw, VInstr.width, VInstr.isAgg, VInstr.storable, VInstr.cells, Int.reduceToNat, ↓OD, OA, Nat.reduceEqDiff, reduceCtorEq, Nat.reduceAdd, Nat.reduceLT, Nat.reduceLeDiff, reduceIte]
      rw [e1, e2]
      exact end_ex rfl
    · have hw : IntKind.i64.wrap (x.Op - 1) = 3 := by rw [h]; rfl
      have e1 : x.wordM = ⟨#[109, 111, 118, 101]⟩ := by unfold VInstr.wordM; rw [h]; rfl
      have e2 : x.partsM = ⟨#[97, 98]⟩ := by unfold VInstr.partsM; rw [e1]; rfl
      simp only [hw, VInstr.width, VInstr.isAgg, VInstr.storable, VInstr.cells, Int.reduceToNat, ↓OD, OA, Nat.reduceEqDiff, reduceCtorEq, Nat.reduceAdd, Nat.reduceLT, Nat.reduceLeDiff, reduceIte]
      repeat (refine And.intro (by decide) ?_)
      try simp only [hw, VInstr.width, VInstr.isAgg, VInstr.storable, VInstr.cells, Int.reduceToNat, ↓OD, OA, Nat.reduceEqDiff, reduceCtorEq, Nat.reduceAdd, Nat.reduceLT, Nat.reduceLeDiff, reduceIte]
      rw [e1, e2]
      exact end_ex rfl
    · have hw : IntKind.i64.wrap (x.Op - 1) = 4 := by rw [h]; rfl
      have e1 : x.wordM = ⟨#[108, 111, 97, 100]⟩ := by unfold VInstr.wordM; rw [h]; rfl
      have e2 : x.partsM = ⟨#[97, 110]⟩ := by unfold VInstr.partsM; rw [e1]; rfl
      simp only [hw, VInstr.width, VInstr.isAgg, VInstr.storable, VInstr.cells, Int.reduceToNat, ↓OD, OA, Nat.reduceEqDiff, reduceCtorEq, Nat.reduceAdd, Nat.reduceLT, Nat.reduceLeDiff, reduceIte]
      repeat (refine And.intro (by decide) ?_)
      try simp only [hw, VInstr.width, VInstr.isAgg, VInstr.storable, VInstr.cells, Int.reduceToNat, ↓OD, OA, Nat.reduceEqDiff, reduceCtorEq, Nat.reduceAdd, Nat.reduceLT, Nat.reduceLeDiff, reduceIte]
      rw [e1, e2]
      exact end_ex rfl
    · have hw : IntKind.i64.wrap (x.Op - 1) = 5 := by rw [h]; rfl
      have e1 : x.wordM = ⟨#[115, 116, 111, 114, 101]⟩ := by unfold VInstr.wordM; rw [h]; rfl
      have e2 : x.partsM = ⟨#[97, 110]⟩ := by unfold VInstr.partsM; rw [e1]; rfl
      simp only [hw, VInstr.width, VInstr.isAgg, VInstr.storable, VInstr.cells, Int.reduceToNat, ↓OD, OA, Nat.reduceEqDiff, reduceCtorEq, Nat.reduceAdd, Nat.reduceLT, Nat.reduceLeDiff, reduceIte]
      repeat (refine And.intro (by decide) ?_)
      try simp only [hw, VInstr.width, VInstr.isAgg, VInstr.storable, VInstr.cells, Int.reduceToNat, ↓OD, OA, Nat.reduceEqDiff, reduceCtorEq, Nat.reduceAdd, Nat.reduceLT, Nat.reduceLeDiff, reduceIte]
      rw [e1, e2]
      exact end_ex rfl
    · have hw : IntKind.i64.wrap (x.Op - 1) = 7 := by rw [h]; rfl
      have e1 : x.wordM = ⟨#[110, 101, 119]⟩ := by unfold VInstr.wordM; rw [h]; rfl
      have e2 : x.partsM = ⟨#[97, 110]⟩ := by unfold VInstr.partsM; rw [e1]; rfl
      simp only [hw, VInstr.width, VInstr.isAgg, VInstr.storable, VInstr.cells, Int.reduceToNat, ↓OD, OA, Nat.reduceEqDiff, reduceCtorEq, Nat.reduceAdd, Nat.reduceLT, Nat.reduceLeDiff, reduceIte]
      repeat (refine And.intro (by decide) ?_)
      try simp only [hw, VInstr.width, VInstr.isAgg, VInstr.storable, VInstr.cells, Int.reduceToNat, ↓OD, OA, Nat.reduceEqDiff, reduceCtorEq, Nat.reduceAdd, Nat.reduceLT, Nat.reduceLeDiff, reduceIte]
      rw [e1, e2]
      exact end_ex rfl
    · have hw : IntKind.i64.wrap (x.Op - 1) = 8 := by rw [h]; rfl
      have e1 : x.wordM = ⟨#[112, 117, 116]⟩ := by unfold VInstr.wordM; rw [h]; rfl
      have e2 : x.partsM = ⟨#[97, 110, 98]⟩ := by unfold VInstr.partsM; rw [e1]; rfl
      simp only [hw, VInstr.width, VInstr.isAgg, VInstr.storable, VInstr.cells, Int.reduceToNat, ↓OD, OA, Nat.reduceEqDiff, reduceCtorEq, Nat.reduceAdd, Nat.reduceLT, Nat.reduceLeDiff, reduceIte]
      repeat (refine And.intro (by decide) ?_)
      try simp only [hw, VInstr.width, VInstr.isAgg, VInstr.storable, VInstr.cells, Int.reduceToNat, ↓OD, OA, Nat.reduceEqDiff, reduceCtorEq, Nat.reduceAdd, Nat.reduceLT, Nat.reduceLeDiff, reduceIte]
      rw [e1, e2]
      exact end_ex rfl
    · have hw : IntKind.i64.wrap (x.Op - 1) = 9 := by rw [h]; rfl
      have e1 : x.wordM = ⟨#[103, 101, 116]⟩ := by unfold VInstr.wordM; rw [h]; rfl
      have e2 : x.partsM = ⟨#[97, 98, 110]⟩ := by unfold VInstr.partsM; rw [e1]; rfl
      simp only [hw, VInstr.width, VInstr.isAgg, VInstr.storable, VInstr.cells, Int.reduceToNat, ↓OD, OA, Nat.reduceEqDiff, reduceCtorEq, Nat.reduceAdd, Nat.reduceLT, Nat.reduceLeDiff, reduceIte]
      repeat (refine And.intro (by decide) ?_)
      try simp only [hw, VInstr.width, VInstr.isAgg, VInstr.storable, VInstr.cells, Int.reduceToNat, ↓OD, OA, Nat.reduceEqDiff, reduceCtorEq, Nat.reduceAdd, Nat.reduceLT, Nat.reduceLeDiff, reduceIte]
      rw [e1, e2]
      exact end_ex rfl
    · have hw : IntKind.i64.wrap (x.Op - 1) = 10 := by rw [h]; rfl
      have e1 : x.wordM = ⟨#[122, 101, 114, 111]⟩ := by unfold VInstr.wordM; rw [h]; rfl
      have e2 : x.partsM = ⟨#[97, 110]⟩ := by unfold VInstr.partsM; rw [e1]; rfl
      simp only [hw, VInstr.width, VInstr.isAgg, VInstr.storable, VInstr.cells, Int.reduceToNat, ↓OD, OA, Nat.reduceEqDiff, reduceCtorEq, Nat.reduceAdd, Nat.reduceLT, Nat.reduceLeDiff, reduceIte]
      repeat (refine And.intro (by decide) ?_)
      try simp only [hw, VInstr.width, VInstr.isAgg, VInstr.storable, VInstr.cells, Int.reduceToNat, ↓OD, OA, Nat.reduceEqDiff, reduceCtorEq, Nat.reduceAdd, Nat.reduceLT, Nat.reduceLeDiff, reduceIte]
      rw [e1, e2]
      exact end_ex rfl
    · have hw : IntKind.i64.wrap (x.Op - 1) = 11 := by rw [h]; rfl
      have e1 : x.wordM = ⟨#[106, 117, 109, 112]⟩ := by unfold VInstr.wordM; rw [h]; rfl
      have e2 : x.partsM = ⟨#[110]⟩ := by unfold VInstr.partsM; rw [e1]; rfl
      simp only [hw, VInstr.width, VInstr.isAgg, VInstr.storable, VInstr.cells, Int.reduceToNat, ↓OD, OA, Nat.reduceEqDiff, reduceCtorEq, Nat.reduceAdd, Nat.reduceLT, Nat.reduceLeDiff, reduceIte]
      repeat (refine And.intro (by decide) ?_)
      try simp only [hw, VInstr.width, VInstr.isAgg, VInstr.storable, VInstr.cells, Int.reduceToNat, ↓OD, OA, Nat.reduceEqDiff, reduceCtorEq, Nat.reduceAdd, Nat.reduceLT, Nat.reduceLeDiff, reduceIte]
      rw [e1, e2]
      exact end_ex rfl
    · have hw : IntKind.i64.wrap (x.Op - 1) = 12 := by rw [h]; rfl
      have e1 : x.wordM = ⟨#[103, 111]⟩ := by unfold VInstr.wordM; rw [h]; rfl
      have e2 : x.partsM = ⟨#[97]⟩ := by unfold VInstr.partsM; rw [e1]; rfl
      simp only [hw, VInstr.width, VInstr.isAgg, VInstr.storable, VInstr.cells, Int.reduceToNat, ↓OD, OA, Nat.reduceEqDiff, reduceCtorEq, Nat.reduceAdd, Nat.reduceLT, Nat.reduceLeDiff, reduceIte]
      repeat (refine And.intro (by decide) ?_)
      try simp only [hw, VInstr.width, VInstr.isAgg, VInstr.storable, VInstr.cells, Int.reduceToNat, ↓OD, OA, Nat.reduceEqDiff, reduceCtorEq, Nat.reduceAdd, Nat.reduceLT, Nat.reduceLeDiff, reduceIte]
      rw [e1, e2]
      exact end_ex rfl
    · have hw : IntKind.i64.wrap (x.Op - 1) = 13 := by rw [h]; rfl
      have e1 : x.wordM = ⟨#[101, 120, 105, 116]⟩ := by unfold VInstr.wordM; rw [h]; rfl
      have e2 : x.partsM = ⟨#[97]⟩ := by unfold VInstr.partsM; rw [e1]; rfl
      simp only [hw, VInstr.width, VInstr.isAgg, VInstr.storable, VInstr.cells, Int.reduceToNat, ↓OD, OA, Nat.reduceEqDiff, reduceCtorEq, Nat.reduceAdd, Nat.reduceLT, Nat.reduceLeDiff, reduceIte]
      repeat (refine And.intro (by decide) ?_)
      try simp only [hw, VInstr.width, VInstr.isAgg, VInstr.storable, VInstr.cells, Int.reduceToNat, ↓OD, OA, Nat.reduceEqDiff, reduceCtorEq, Nat.reduceAdd, Nat.reduceLT, Nat.reduceLeDiff, reduceIte]
      rw [e1, e2]
      exact end_ex rfl
    · have hw : IntKind.i64.wrap (x.Op - 1) = 14 := by rw [h]; rfl
      have e1 : x.wordM = ⟨#[102, 97, 105, 108]⟩ := by unfold VInstr.wordM; rw [h]; rfl
      have e2 : x.partsM = ⟨#[110]⟩ := by unfold VInstr.partsM; rw [e1]; rfl
      simp only [hw, VInstr.width, VInstr.isAgg, VInstr.storable, VInstr.cells, Int.reduceToNat, ↓OD, OA, Nat.reduceEqDiff, reduceCtorEq, Nat.reduceAdd, Nat.reduceLT, Nat.reduceLeDiff, reduceIte]
      repeat (refine And.intro (by decide) ?_)
      try simp only [hw, VInstr.width, VInstr.isAgg, VInstr.storable, VInstr.cells, Int.reduceToNat, ↓OD, OA, Nat.reduceEqDiff, reduceCtorEq, Nat.reduceAdd, Nat.reduceLT, Nat.reduceLeDiff, reduceIte]
      rw [e1, e2]
      exact end_ex rfl
  · have h7 : x.Op = 7 := by simpa using hc
    have ht := h2 h7
    rcases ht with h | h | h | h | h | h | h | h | h
    · have e1 : x.wordM = ⟨#[97, 100, 100]⟩ := by unfold VInstr.wordM; rw [if_pos h7, h]; rfl
      have e2 : x.partsM = ⟨#[97, 98, 99]⟩ := by unfold VInstr.partsM; rw [e1]; rfl
      have d_size : decide (x.Text = ⟨#[115, 105, 122, 101]⟩) = false := by rw [h]; rfl
      have d_read : decide (x.Text = ⟨#[114, 101, 97, 100]⟩) = false := by rw [h]; rfl
      have d_print : decide (x.Text = ⟨#[112, 114, 105, 110, 116]⟩) = false := by rw [h]; rfl
      simp only [d_size, d_read, d_print, VInstr.width, VInstr.isAgg, VInstr.storable, VInstr.cells, avI, avB, ↓OD, OA, Nat.reduceEqDiff, reduceCtorEq, Nat.reduceAdd, Nat.reduceLT, Nat.reduceLeDiff, reduceIte]
      rw [h]
      refine mget_yes rfl rfl rfl (i := 0) (v := .v (.string ⟨#[97, 100, 100]⟩)) rfl ?_
      simp only [VInstr.width, VInstr.isAgg, VInstr.storable, VInstr.cells, ↓OD, OA, Nat.reduceEqDiff, reduceCtorEq, Nat.reduceAdd, Nat.reduceLT, Nat.reduceLeDiff, reduceIte]
      repeat (refine And.intro (by decide) ?_)
      try simp only [VInstr.width, VInstr.isAgg, VInstr.storable, VInstr.cells, ↓OD, OA, Nat.reduceEqDiff, reduceCtorEq, Nat.reduceAdd, Nat.reduceLT, Nat.reduceLeDiff, reduceIte]
      rw [e1, e2]
      exact end_ex rfl
    · have e1 : x.wordM = ⟨#[115, 117, 98]⟩ := by unfold VInstr.wordM; rw [if_pos h7, h]; rfl
      have e2 : x.partsM = ⟨#[97, 98, 99]⟩ := by unfold VInstr.partsM; rw [e1]; rfl
      have d_size : decide (x.Text = ⟨#[115, 105, 122, 101]⟩) = false := by rw [h]; rfl
      have d_read : decide (x.Text = ⟨#[114, 101, 97, 100]⟩) = false := by rw [h]; rfl
      have d_print : decide (x.Text = ⟨#[112, 114, 105, 110, 116]⟩) = false := by rw [h]; rfl
      simp only [d_size, d_read, d_print, VInstr.width, VInstr.isAgg, VInstr.storable, VInstr.cells, avI, avB, ↓OD, OA, Nat.reduceEqDiff, reduceCtorEq, Nat.reduceAdd, Nat.reduceLT, Nat.reduceLeDiff, reduceIte]
      rw [h]
      refine mget_yes rfl rfl rfl (i := 1) (v := .v (.string ⟨#[115, 117, 98]⟩)) rfl ?_
      simp only [VInstr.width, VInstr.isAgg, VInstr.storable, VInstr.cells, ↓OD, OA, Nat.reduceEqDiff, reduceCtorEq, Nat.reduceAdd, Nat.reduceLT, Nat.reduceLeDiff, reduceIte]
      repeat (refine And.intro (by decide) ?_)
      try simp only [VInstr.width, VInstr.isAgg, VInstr.storable, VInstr.cells, ↓OD, OA, Nat.reduceEqDiff, reduceCtorEq, Nat.reduceAdd, Nat.reduceLT, Nat.reduceLeDiff, reduceIte]
      rw [e1, e2]
      exact end_ex rfl
    · have e1 : x.wordM = ⟨#[109, 117, 108]⟩ := by unfold VInstr.wordM; rw [if_pos h7, h]; rfl
      have e2 : x.partsM = ⟨#[97, 98, 99]⟩ := by unfold VInstr.partsM; rw [e1]; rfl
      have d_size : decide (x.Text = ⟨#[115, 105, 122, 101]⟩) = false := by rw [h]; rfl
      have d_read : decide (x.Text = ⟨#[114, 101, 97, 100]⟩) = false := by rw [h]; rfl
      have d_print : decide (x.Text = ⟨#[112, 114, 105, 110, 116]⟩) = false := by rw [h]; rfl
      simp only [d_size, d_read, d_print, VInstr.width, VInstr.isAgg, VInstr.storable, VInstr.cells, avI, avB, ↓OD, OA, Nat.reduceEqDiff, reduceCtorEq, Nat.reduceAdd, Nat.reduceLT, Nat.reduceLeDiff, reduceIte]
      rw [h]
      refine mget_yes rfl rfl rfl (i := 2) (v := .v (.string ⟨#[109, 117, 108]⟩)) rfl ?_
      simp only [VInstr.width, VInstr.isAgg, VInstr.storable, VInstr.cells, ↓OD, OA, Nat.reduceEqDiff, reduceCtorEq, Nat.reduceAdd, Nat.reduceLT, Nat.reduceLeDiff, reduceIte]
      repeat (refine And.intro (by decide) ?_)
      try simp only [VInstr.width, VInstr.isAgg, VInstr.storable, VInstr.cells, ↓OD, OA, Nat.reduceEqDiff, reduceCtorEq, Nat.reduceAdd, Nat.reduceLT, Nat.reduceLeDiff, reduceIte]
      rw [e1, e2]
      exact end_ex rfl
    · have e1 : x.wordM = ⟨#[101, 113]⟩ := by unfold VInstr.wordM; rw [if_pos h7, h]; rfl
      have e2 : x.partsM = ⟨#[97, 98, 99]⟩ := by unfold VInstr.partsM; rw [e1]; rfl
      have d_size : decide (x.Text = ⟨#[115, 105, 122, 101]⟩) = false := by rw [h]; rfl
      have d_read : decide (x.Text = ⟨#[114, 101, 97, 100]⟩) = false := by rw [h]; rfl
      have d_print : decide (x.Text = ⟨#[112, 114, 105, 110, 116]⟩) = false := by rw [h]; rfl
      simp only [d_size, d_read, d_print, VInstr.width, VInstr.isAgg, VInstr.storable, VInstr.cells, avI, avB, ↓OD, OA, Nat.reduceEqDiff, reduceCtorEq, Nat.reduceAdd, Nat.reduceLT, Nat.reduceLeDiff, reduceIte]
      rw [h]
      refine mget_yes rfl rfl rfl (i := 3) (v := .v (.string ⟨#[101, 113]⟩)) rfl ?_
      simp only [VInstr.width, VInstr.isAgg, VInstr.storable, VInstr.cells, ↓OD, OA, Nat.reduceEqDiff, reduceCtorEq, Nat.reduceAdd, Nat.reduceLT, Nat.reduceLeDiff, reduceIte]
      repeat (refine And.intro (by decide) ?_)
      try simp only [VInstr.width, VInstr.isAgg, VInstr.storable, VInstr.cells, ↓OD, OA, Nat.reduceEqDiff, reduceCtorEq, Nat.reduceAdd, Nat.reduceLT, Nat.reduceLeDiff, reduceIte]
      rw [e1, e2]
      exact end_ex rfl
    · have e1 : x.wordM = ⟨#[108, 116]⟩ := by unfold VInstr.wordM; rw [if_pos h7, h]; rfl
      have e2 : x.partsM = ⟨#[97, 98, 99]⟩ := by unfold VInstr.partsM; rw [e1]; rfl
      have d_size : decide (x.Text = ⟨#[115, 105, 122, 101]⟩) = false := by rw [h]; rfl
      have d_read : decide (x.Text = ⟨#[114, 101, 97, 100]⟩) = false := by rw [h]; rfl
      have d_print : decide (x.Text = ⟨#[112, 114, 105, 110, 116]⟩) = false := by rw [h]; rfl
      simp only [d_size, d_read, d_print, VInstr.width, VInstr.isAgg, VInstr.storable, VInstr.cells, avI, avB, ↓OD, OA, Nat.reduceEqDiff, reduceCtorEq, Nat.reduceAdd, Nat.reduceLT, Nat.reduceLeDiff, reduceIte]
      rw [h]
      refine mget_yes rfl rfl rfl (i := 4) (v := .v (.string ⟨#[108, 116]⟩)) rfl ?_
      simp only [VInstr.width, VInstr.isAgg, VInstr.storable, VInstr.cells, ↓OD, OA, Nat.reduceEqDiff, reduceCtorEq, Nat.reduceAdd, Nat.reduceLT, Nat.reduceLeDiff, reduceIte]
      repeat (refine And.intro (by decide) ?_)
      try simp only [VInstr.width, VInstr.isAgg, VInstr.storable, VInstr.cells, ↓OD, OA, Nat.reduceEqDiff, reduceCtorEq, Nat.reduceAdd, Nat.reduceLT, Nat.reduceLeDiff, reduceIte]
      rw [e1, e2]
      exact end_ex rfl
    · have e1 : x.wordM = ⟨#[99, 97, 116]⟩ := by unfold VInstr.wordM; rw [if_pos h7, h]; rfl
      have e2 : x.partsM = ⟨#[97, 98, 99]⟩ := by unfold VInstr.partsM; rw [e1]; rfl
      have d_size : decide (x.Text = ⟨#[115, 105, 122, 101]⟩) = false := by rw [h]; rfl
      have d_read : decide (x.Text = ⟨#[114, 101, 97, 100]⟩) = false := by rw [h]; rfl
      have d_print : decide (x.Text = ⟨#[112, 114, 105, 110, 116]⟩) = false := by rw [h]; rfl
      simp only [d_size, d_read, d_print, VInstr.width, VInstr.isAgg, VInstr.storable, VInstr.cells, avI, avB, ↓OD, OA, Nat.reduceEqDiff, reduceCtorEq, Nat.reduceAdd, Nat.reduceLT, Nat.reduceLeDiff, reduceIte]
      rw [h]
      refine mget_yes rfl rfl rfl (i := 5) (v := .v (.string ⟨#[99, 97, 116]⟩)) rfl ?_
      simp only [VInstr.width, VInstr.isAgg, VInstr.storable, VInstr.cells, ↓OD, OA, Nat.reduceEqDiff, reduceCtorEq, Nat.reduceAdd, Nat.reduceLT, Nat.reduceLeDiff, reduceIte]
      repeat (refine And.intro (by decide) ?_)
      try simp only [VInstr.width, VInstr.isAgg, VInstr.storable, VInstr.cells, ↓OD, OA, Nat.reduceEqDiff, reduceCtorEq, Nat.reduceAdd, Nat.reduceLT, Nat.reduceLeDiff, reduceIte]
      rw [e1, e2]
      exact end_ex rfl
    · have e1 : x.wordM = ⟨#[115, 105, 122, 101]⟩ := by unfold VInstr.wordM; rw [if_pos h7, h]; rfl
      have e2 : x.partsM = ⟨#[97, 98]⟩ := by unfold VInstr.partsM; rw [e1]; rfl
      have d_size : decide (x.Text = ⟨#[115, 105, 122, 101]⟩) = true := by rw [h]; rfl
      have d_read : decide (x.Text = ⟨#[114, 101, 97, 100]⟩) = false := by rw [h]; rfl
      have d_print : decide (x.Text = ⟨#[112, 114, 105, 110, 116]⟩) = false := by rw [h]; rfl
      simp only [d_size, d_read, d_print, VInstr.width, VInstr.isAgg, VInstr.storable, VInstr.cells, avI, avB, ↓OD, OA, Nat.reduceEqDiff, reduceCtorEq, Nat.reduceAdd, Nat.reduceLT, Nat.reduceLeDiff, reduceIte]
      repeat (refine And.intro (by decide) ?_)
      try simp only [d_size, d_read, d_print, VInstr.width, VInstr.isAgg, VInstr.storable, VInstr.cells, avI, avB, ↓OD, OA, Nat.reduceEqDiff, reduceCtorEq, Nat.reduceAdd, Nat.reduceLT, Nat.reduceLeDiff, reduceIte]
      rw [e1, e2]
      exact end_ex rfl
    · have e1 : x.wordM = ⟨#[114, 101, 97, 100]⟩ := by unfold VInstr.wordM; rw [if_pos h7, h]; rfl
      have e2 : x.partsM = ⟨#[97]⟩ := by unfold VInstr.partsM; rw [e1]; rfl
      have d_size : decide (x.Text = ⟨#[115, 105, 122, 101]⟩) = false := by rw [h]; rfl
      have d_read : decide (x.Text = ⟨#[114, 101, 97, 100]⟩) = true := by rw [h]; rfl
      have d_print : decide (x.Text = ⟨#[112, 114, 105, 110, 116]⟩) = false := by rw [h]; rfl
      simp only [d_size, d_read, d_print, VInstr.width, VInstr.isAgg, VInstr.storable, VInstr.cells, avI, avB, ↓OD, OA, Nat.reduceEqDiff, reduceCtorEq, Nat.reduceAdd, Nat.reduceLT, Nat.reduceLeDiff, reduceIte]
      repeat (refine And.intro (by decide) ?_)
      try simp only [d_size, d_read, d_print, VInstr.width, VInstr.isAgg, VInstr.storable, VInstr.cells, avI, avB, ↓OD, OA, Nat.reduceEqDiff, reduceCtorEq, Nat.reduceAdd, Nat.reduceLT, Nat.reduceLeDiff, reduceIte]
      rw [e1, e2]
      exact end_ex rfl
    · have e1 : x.wordM = ⟨#[112, 114, 105, 110, 116]⟩ := by unfold VInstr.wordM; rw [if_pos h7, h]; rfl
      have e2 : x.partsM = ⟨#[98]⟩ := by unfold VInstr.partsM; rw [e1]; rfl
      have d_size : decide (x.Text = ⟨#[115, 105, 122, 101]⟩) = false := by rw [h]; rfl
      have d_read : decide (x.Text = ⟨#[114, 101, 97, 100]⟩) = false := by rw [h]; rfl
      have d_print : decide (x.Text = ⟨#[112, 114, 105, 110, 116]⟩) = true := by rw [h]; rfl
      simp only [d_size, d_read, d_print, VInstr.width, VInstr.isAgg, VInstr.storable, VInstr.cells, avI, avB, ↓OD, OA, Nat.reduceEqDiff, reduceCtorEq, Nat.reduceAdd, Nat.reduceLT, Nat.reduceLeDiff, reduceIte]
      repeat (refine And.intro (by decide) ?_)
      try simp only [d_size, d_read, d_print, VInstr.width, VInstr.isAgg, VInstr.storable, VInstr.cells, avI, avB, ↓OD, OA, Nat.reduceEqDiff, reduceCtorEq, Nat.reduceAdd, Nat.reduceLT, Nat.reduceLeDiff, reduceIte]
      rw [e1, e2]
      exact end_ex rfl
end Go.Proofs.Ab
