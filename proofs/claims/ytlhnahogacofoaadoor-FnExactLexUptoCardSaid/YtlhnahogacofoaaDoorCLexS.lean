/-
  THE REFERENCE'S LEXER: what it computes, in the plain words of CLexM.
-/
import Derived.Test.YtlhnahogacofoaaDoorCLexM
import Derived.Test.YtlhnahogacofoaaDoorCSpell
import Derived.Test.YtlhnahogacofoaaDoorAbM4
set_option linter.unusedVariables false
set_option linter.unusedSimpArgs false
set_option linter.defProp false
namespace Go.Proofs.Ab
open Go.Ab
set_option maxRecDepth 100000
set_option maxHeartbeats 4000000
theorem spec_l1Skip_c (s : ByteArray) (k : Nat) (hk : k ≤ s.size) (hs : s.size ≤ 1048576) :
    PCon Tryd.prog F.spec_l1Skip [avB s, avI k] (avI (k + skipB false ((bs s).drop k) : Nat)) := by
  have hl := bs_len s
  refine T.spec_l1Skip_con rfl rfl ?_
  simp only [T.spec_l1Skip, WA, Nat.reduceEqDiff, Nat.reduceAdd, Nat.reduceLT, Nat.reduceLeDiff, Nat.reduceMul, reduceIte, reduceCtorEq, Int.reduceEq, Int.reduceLT, Int.reduceLE, Int.reduceNe]
  refine bind_cut [avI (k + skipB false ((bs s).drop k) : Nat)] rfl ?_ (by simp only [WA, Nat.reduceEqDiff, Nat.reduceAdd, Nat.reduceLT, Nat.reduceLeDiff, Nat.reduceMul, reduceIte, reduceCtorEq, Int.reduceEq, Int.reduceLT, Int.reduceLE, Int.reduceNe])
  simp only [WA, Nat.reduceEqDiff, Nat.reduceAdd, Nat.reduceLT, Nat.reduceLeDiff, Nat.reduceMul, reduceIte, reduceCtorEq, Int.reduceEq, Int.reduceLT, Int.reduceLE, Int.reduceNe]
  refine loop_intro (ι := Nat) (fun i => i ≤ s.size ∧ k + skipB false ((bs s).drop k) = i + skipB false ((bs s).drop i)) (fun i => [avI i]) (fun i => s.size - i) k ⟨hk, rfl⟩ rfl fun i hi => ?_
  obtain ⟨hi, hI⟩ := hi
  simp only [WA, Nat.reduceEqDiff, Nat.reduceAdd, Nat.reduceLT, Nat.reduceLeDiff, Nat.reduceMul, reduceIte, reduceCtorEq, Int.reduceEq, Int.reduceLT, Int.reduceLE, Int.reduceNe]
  refine ite_dec (fun h => ?_) (fun h => ?_)
  · have hlt : i < (bs s).length := by omega
    have hx : (bs s)[i]? = some (bs s)[i] := List.getElem?_eq_getElem hlt
    have hdr := dropC hlt
    generalize hc : (bs s)[i] = c at hx hdr
    rw [hdr] at hI
    have hix := idxX hx
    simp only [WA, Nat.reduceEqDiff, Nat.reduceAdd, Nat.reduceLT, Nat.reduceLeDiff, Nat.reduceMul, reduceIte, reduceCtorEq, Int.reduceEq, Int.reduceLT, Int.reduceLE, Int.reduceNe]
    refine bind_cut [.v (.bool (blankB c))] rfl ?_ ?_
    · repeat' (first | (simp (disch := omega) only [hix, WA, Nat.reduceEqDiff, Nat.reduceAdd, Nat.reduceLT, Nat.reduceLeDiff, Nat.reduceMul, reduceIte, reduceCtorEq, Int.reduceEq, Int.reduceLT, Int.reduceLE, Int.reduceNe]) | (refine ite_dec (fun _ => ?_) (fun _ => ?_)) | (refine ite_ndec (fun _ => ?_) (fun _ => ?_)) | (refine ite_intro (fun _ => ?_) (fun _ => ?_)) | (refine bind_push ?_))
      all_goals simp_all [blankB]
    · simp only [WA, Nat.reduceEqDiff, Nat.reduceAdd, Nat.reduceLT, Nat.reduceLeDiff, Nat.reduceMul, reduceIte, reduceCtorEq, Int.reduceEq, Int.reduceLT, Int.reduceLE, Int.reduceNe]
      refine ite_intro (fun h1 => ?_) (fun h1 => ?_)
      · simp only [skipB, h1, if_true] at hI
        simp (disch := omega) only [wrapA1, WA, Nat.reduceEqDiff, Nat.reduceAdd, Nat.reduceLT, Nat.reduceLeDiff, Nat.reduceMul, reduceIte, reduceCtorEq, Int.reduceEq, Int.reduceLT, Int.reduceLE, Int.reduceNe]
        exact ⟨i + 1, ⟨by omega, by omega⟩, by omega, rfl⟩
      · simp only [hix, WA, Nat.reduceEqDiff, Nat.reduceAdd, Nat.reduceLT, Nat.reduceLeDiff, Nat.reduceMul, reduceIte, reduceCtorEq, Int.reduceEq, Int.reduceLT, Int.reduceLE, Int.reduceNe]
        refine ite_dec (fun h2 => ?_) (fun h2 => ?_)
        · have h2 : c = 35 := by omega
          subst h2
          simp only [WA, Nat.reduceEqDiff, Nat.reduceAdd, Nat.reduceLT, Nat.reduceLeDiff, Nat.reduceMul, reduceIte, reduceCtorEq, Int.reduceEq, Int.reduceLT, Int.reduceLE, Int.reduceNe]
          refine loop_intro (ι := Nat) (fun j => i ≤ j ∧ j ≤ s.size ∧ i + skipB true ((bs s).drop i) = j + skipB true ((bs s).drop j)) (fun j => [avI j]) (fun j => s.size - j) i ⟨Nat.le_refl _, hi, rfl⟩ rfl fun j hj => ?_
          obtain ⟨hij, hj, hJ⟩ := hj
          have hI2 : k + skipB false ((bs s).drop k) = i + skipB true ((bs s).drop i) := by
            rw [hI, hdr]; simp [skipB, blankB]
          simp only [WA, Nat.reduceEqDiff, Nat.reduceAdd, Nat.reduceLT, Nat.reduceLeDiff, Nat.reduceMul, reduceIte, reduceCtorEq, Int.reduceEq, Int.reduceLT, Int.reduceLE, Int.reduceNe]
          refine bind_push ?_
          simp only [WA, Nat.reduceEqDiff, Nat.reduceAdd, Nat.reduceLT, Nat.reduceLeDiff, Nat.reduceMul, reduceIte, reduceCtorEq, Int.reduceEq, Int.reduceLT, Int.reduceLE, Int.reduceNe]
          refine bind_push ?_
          simp only [WA, Nat.reduceEqDiff, Nat.reduceAdd, Nat.reduceLT, Nat.reduceLeDiff, Nat.reduceMul, reduceIte, reduceCtorEq, Int.reduceEq, Int.reduceLT, Int.reduceLE, Int.reduceNe]
          refine ite_dec (fun h3 => ?_) (fun h3 => ?_)
          · have hlt2 : j < (bs s).length := by omega
            have hx2 : (bs s)[j]? = some (bs s)[j] := List.getElem?_eq_getElem hlt2
            have hdr2 := dropC hlt2
            generalize hc2 : (bs s)[j] = d at hx2 hdr2
            have hix2 := idxX hx2
            simp only [hix2, WA, Nat.reduceEqDiff, Nat.reduceAdd, Nat.reduceLT, Nat.reduceLeDiff, Nat.reduceMul, reduceIte, reduceCtorEq, Int.reduceEq, Int.reduceLT, Int.reduceLE, Int.reduceNe]
            refine ite_ndec (fun h4 => ?_) (fun h4 => ?_)
            · rw [hdr2, skipB, if_neg h4] at hJ
              simp (disch := omega) only [wrapA1, WA, Nat.reduceEqDiff, Nat.reduceAdd, Nat.reduceLT, Nat.reduceLeDiff, Nat.reduceMul, reduceIte, reduceCtorEq, Int.reduceEq, Int.reduceLT, Int.reduceLE, Int.reduceNe]
              exact ⟨j + 1, ⟨by omega, by omega, by omega⟩, by omega, rfl⟩
            · subst h4
              simp only [WA, Nat.reduceEqDiff, Nat.reduceAdd, Nat.reduceLT, Nat.reduceLeDiff, Nat.reduceMul, reduceIte, reduceCtorEq, Int.reduceEq, Int.reduceLT, Int.reduceLE, Int.reduceNe]
              refine ⟨j, ⟨by omega, ?_⟩, ?_, rfl⟩
              · rw [hdr2]
                rw [hdr2] at hJ
                simp only [skipB, blankB, if_true, decide_true, Bool.or_true] at hJ ⊢
                omega
              · have : i ≠ j := fun he => by subst he; rw [hx] at hx2; cases hx2
                omega
          · have he : j = (bs s).length := by omega
            simp only [WA, Nat.reduceEqDiff, Nat.reduceAdd, Nat.reduceLT, Nat.reduceLeDiff, Nat.reduceMul, reduceIte, reduceCtorEq, Int.reduceEq, Int.reduceLT, Int.reduceLE, Int.reduceNe]
            refine ⟨j, ⟨by omega, ?_⟩, ?_, rfl⟩
            · subst he
              rw [dropE] at hJ ⊢
              simp only [skipB] at hJ ⊢
              omega
            · omega
        · rw [skipB_zero (by simpa using h1) (by omega)] at hI
          simp only [WA, Nat.reduceEqDiff, Nat.reduceAdd, Nat.reduceLT, Nat.reduceLeDiff, Nat.reduceMul, reduceIte, reduceCtorEq, Int.reduceEq, Int.reduceLT, Int.reduceLE, Int.reduceNe]
          rw [hI]; rfl
  · have he : i = (bs s).length := by omega
    subst he
    rw [dropE] at hI
    simp only [WA, Nat.reduceEqDiff, Nat.reduceAdd, Nat.reduceLT, Nat.reduceLeDiff, Nat.reduceMul, reduceIte, reduceCtorEq, Int.reduceEq, Int.reduceLT, Int.reduceLE, Int.reduceNe]
    rw [hI]; rfl
/-- what a code and a token come to -/
def digC (l : List Int) : Int := if maxI < valD 0 (l.takeWhile digB) ∨ (l.head? = some 48 ∧ 1 < (l.takeWhile digB).length) then 3 else 0
def zTok : VToken := ⟨0, ⟨#[]⟩, 0, 0⟩
theorem valD_cons (n c : Int) (r : List Int) : valD n (c :: r) = valD (n * 10 + (c - 48)) r := rfl
theorem spec_l1Digits_c (s : ByteArray) (k : Nat) (hk : k < s.size) (hs : s.size ≤ 1048576) :
    PCon Tryd.prog F.spec_l1Digits [avB s, avI k] (.tup [(if digC ((bs s).drop k) = 0 then (⟨1, ⟨#[]⟩, valD 0 (((bs s).drop k).takeWhile digB), k⟩ : VToken) else zTok).av, avI (k + (((bs s).drop k).takeWhile digB).length : Nat), avI (digC ((bs s).drop k))]) := by
  have hl := bs_len s
  have hall : ∀ c ∈ ((bs s).drop k).takeWhile digB, digB c = true := fun c hc => by
    have := List.all_takeWhile (l := (bs s).drop k) (p := digB)
    exact List.all_eq_true.1 this c hc
  generalize hds : ((bs s).drop k).takeWhile digB = ds at *
  refine T.spec_l1Digits_con rfl rfl ?_
  simp only [T.spec_l1Digits, WA, Nat.reduceEqDiff, Nat.reduceAdd, Nat.reduceLT, Nat.reduceLeDiff, Nat.reduceMul, reduceIte, reduceCtorEq, Int.reduceEq, Int.reduceLT, Int.reduceLE, Int.reduceNe]
  refine bind_post (fun vs => ∃ n b, vs = [avI (k + ds.length : Nat), avI n, .v (.bool b)] ∧ (b = true → maxI < valD 0 ds) ∧ (b = false → n = valD 0 ds ∧ n ≤ maxI)) ?_ ?_
  · simp only [WA, Nat.reduceEqDiff, Nat.reduceAdd, Nat.reduceLT, Nat.reduceLeDiff, Nat.reduceMul, reduceIte, reduceCtorEq, Int.reduceEq, Int.reduceLT, Int.reduceLE, Int.reduceNe]
    refine loop_intro (ι := Nat × Int × Bool) (fun q => q.1 ≤ s.size ∧ k + ds.length = q.1 + (((bs s).drop q.1).takeWhile digB).length ∧ 0 ≤ q.2.1 ∧ q.2.1 ≤ maxI ∧ (q.2.2 = true → maxI < valD 0 ds) ∧ (q.2.2 = false → valD 0 ds = valD q.2.1 (((bs s).drop q.1).takeWhile digB)))
      (fun q => [avI q.1, avI q.2.1, .v (.bool q.2.2)]) (fun q => s.size - q.1) (k, 0, false) ⟨by simp only; omega, by simp only; rw [hds], Int.le_refl _, by simp only [maxI]; omega, by simp, by simp only; rw [hds]; simp⟩ rfl ?_
    rintro ⟨i, n, b⟩ ⟨hi, hI, hn0, hn1, hb1, hb2⟩
    simp only at hi hI hn0 hn1 hb1 hb2
    simp only [WA, Nat.reduceEqDiff, Nat.reduceAdd, Nat.reduceLT, Nat.reduceLeDiff, Nat.reduceMul, reduceIte, reduceCtorEq, Int.reduceEq, Int.reduceLT, Int.reduceLE, Int.reduceNe]
    refine bind_push ?_
    simp only [WA, Nat.reduceEqDiff, Nat.reduceAdd, Nat.reduceLT, Nat.reduceLeDiff, Nat.reduceMul, reduceIte, reduceCtorEq, Int.reduceEq, Int.reduceLT, Int.reduceLE, Int.reduceNe]
    refine bind_push ?_
    simp only [WA, Nat.reduceEqDiff, Nat.reduceAdd, Nat.reduceLT, Nat.reduceLeDiff, Nat.reduceMul, reduceIte, reduceCtorEq, Int.reduceEq, Int.reduceLT, Int.reduceLE, Int.reduceNe]
    refine ite_dec (fun h => ?_) (fun h => ?_)
    · have hlt : i < (bs s).length := by omega
      have hx : (bs s)[i]? = some (bs s)[i] := List.getElem?_eq_getElem hlt
      obtain ⟨c0, c1⟩ := bs_range (List.getElem_mem hlt)
      have hdr := dropC hlt
      generalize hc : (bs s)[i] = c at hx hdr c0 c1
      rw [hdr, List.takeWhile_cons] at hI hb2
      have hix := idxX hx
      simp only [hix, wrap8 c0 c1, WA, Nat.reduceEqDiff, Nat.reduceAdd, Nat.reduceLT, Nat.reduceLeDiff, Nat.reduceMul, reduceIte, reduceCtorEq, Int.reduceEq, Int.reduceLT, Int.reduceLE, Int.reduceNe]
      refine call_v (spec_l1Num_c c) ?_
      simp only [WA, Nat.reduceEqDiff, Nat.reduceAdd, Nat.reduceLT, Nat.reduceLeDiff, Nat.reduceMul, reduceIte, reduceCtorEq, Int.reduceEq, Int.reduceLT, Int.reduceLE, Int.reduceNe]
      refine ite_intro (fun h1 => ?_) (fun h1 => ?_)
      · have h1' : digB c = true := h1
        rw [if_pos h1'] at hI hb2
        simp only [inB, Bool.and_eq_true, decide_eq_true_eq] at h1
        have e8 : IntKind.u8.wrap (c - 48) = c - 48 := by simp [IntKind.wrap, IntKind.signed, IntKind.bits]; omega
        have e64 : IntKind.i64.wrap (c - 48) = c - 48 := wrapI (by omega) (by omega)
        have em : IntKind.i64.wrap (9223372036854775807 - (c - 48)) = 9223372036854775807 - (c - 48) := wrapI (by omega) (by omega)
        have eq : IntKind.i64.wrap ((9223372036854775807 - (c - 48)).tdiv 10) = (9223372036854775807 - (c - 48)).tdiv 10 := by
          rw [Int.tdiv_eq_ediv_of_nonneg (by omega)]
          exact wrapI (by omega) (by omega)
        rw [List.length_cons] at hI
        have hge : ∀ m, 0 ≤ m → m ≤ valD m (((bs s).drop (i + 1)).takeWhile digB) := fun m hm => valD_ge _ m hm fun c hc => List.all_eq_true.1 List.all_takeWhile c hc
        simp only [WA, Nat.reduceEqDiff, Nat.reduceAdd, Nat.reduceLT, Nat.reduceLeDiff, Nat.reduceMul, reduceIte, reduceCtorEq, Int.reduceEq, Int.reduceLT, Int.reduceLE, Int.reduceNe]
        simp only [hix, e8, e64, WA, Nat.reduceEqDiff, Nat.reduceAdd, Nat.reduceLT, Nat.reduceLeDiff, Nat.reduceMul, reduceIte, reduceCtorEq, Int.reduceEq, Int.reduceLT, Int.reduceLE, Int.reduceNe]
        refine bind_push ?_
        simp only [em, eq, WA, Nat.reduceEqDiff, Nat.reduceAdd, Nat.reduceLT, Nat.reduceLeDiff, Nat.reduceMul, reduceIte, reduceCtorEq, Int.reduceEq, Int.reduceLT, Int.reduceLE, Int.reduceNe]
        rw [Int.tdiv_eq_ediv_of_nonneg (by omega)]
        refine ite_dec (fun h2 => ?_) (fun h2 => ?_)
        · simp (disch := omega) only [wrapA1, WA, Nat.reduceEqDiff, Nat.reduceAdd, Nat.reduceLT, Nat.reduceLeDiff, Nat.reduceMul, reduceIte, reduceCtorEq, Int.reduceEq, Int.reduceLT, Int.reduceLE, Int.reduceNe]
          refine ⟨(i + 1, n, true), ⟨by simp only; omega, by simp only; omega, hn0, hn1, fun _ => ?_, by simp⟩, by simp only; omega, rfl⟩
          cases b with
          | true => exact hb1 rfl
          | false =>
            rw [hb2 rfl, valD_cons]
            have := hge (n * 10 + (c - 48)) (by omega)
            simp only [maxI] at hn1 ⊢
            omega
        · simp only [maxI] at hn1
          have e1 : IntKind.i64.wrap (n * 10) = n * 10 := wrapI (by omega) (by omega)
          have e2 : IntKind.i64.wrap (n * 10 + (c - 48)) = n * 10 + (c - 48) := wrapI (by omega) (by omega)
          simp (disch := omega) only [e1, e2, wrapA1, WA, Nat.reduceEqDiff, Nat.reduceAdd, Nat.reduceLT, Nat.reduceLeDiff, Nat.reduceMul, reduceIte, reduceCtorEq, Int.reduceEq, Int.reduceLT, Int.reduceLE, Int.reduceNe]
          refine ⟨(i + 1, n * 10 + (c - 48), b), ⟨by simp only; omega, by simp only; omega, by simp only; omega, by simp only [maxI]; omega, hb1, fun hb => ?_⟩, by simp only; omega, rfl⟩
          rw [hb2 hb, valD_cons]
      · have h1' : digB c = false := h1
        rw [if_neg (by simp [h1'])] at hI hb2
        simp only [WA, Nat.reduceEqDiff, Nat.reduceAdd, Nat.reduceLT, Nat.reduceLeDiff, Nat.reduceMul, reduceIte, reduceCtorEq, Int.reduceEq, Int.reduceLT, Int.reduceLE, Int.reduceNe]
        refine ⟨n, b, ?_, hb1, fun hb => ⟨(hb2 hb).symm, hn1⟩⟩
        rw [hI]; rfl
    · have he : i = (bs s).length := by omega
      subst he
      rw [dropE] at hI hb2
      simp only [WA, Nat.reduceEqDiff, Nat.reduceAdd, Nat.reduceLT, Nat.reduceLeDiff, Nat.reduceMul, reduceIte, reduceCtorEq, Int.reduceEq, Int.reduceLT, Int.reduceLE, Int.reduceNe]
      refine ⟨n, b, ?_, hb1, fun hb => ⟨(hb2 hb).symm, hn1⟩⟩
      rw [hI]; rfl
  · rintro vs ⟨n, b, rfl, hb1, hb2⟩ _
    have hlt : k < (bs s).length := by omega
    have hx : (bs s)[k]? = some (bs s)[k] := List.getElem?_eq_getElem hlt
    have hdr := dropC hlt
    have hh : ((bs s).drop k).head? = some (bs s)[k] := by rw [hdr]; rfl
    generalize hc : (bs s)[k] = c at hx hdr hh
    have hix := idxX hx
    simp only [WA, Nat.reduceEqDiff, Nat.reduceAdd, Nat.reduceLT, Nat.reduceLeDiff, Nat.reduceMul, reduceIte, reduceCtorEq, Int.reduceEq, Int.reduceLT, Int.reduceLE, Int.reduceNe]
    refine bind_push ?_
    have hw1 : IntKind.i64.wrap ((k : Int) + 1) = ((k + 1 : Nat) : Int) := wrapA1 (by omega)
    have hdc : digC ((bs s).drop k) = if maxI < valD 0 ds ∨ (c = 48 ∧ 1 < ds.length) then 3 else 0 := by
      unfold digC; rw [hds, hh]; simp only [Option.some.injEq]
    simp only [WA, Nat.reduceEqDiff, Nat.reduceAdd, Nat.reduceLT, Nat.reduceLeDiff, Nat.reduceMul, reduceIte, reduceCtorEq, Int.reduceEq, Int.reduceLT, Int.reduceLE, Int.reduceNe]
    refine bind_push ?_
    simp only [WA, Nat.reduceEqDiff, Nat.reduceAdd, Nat.reduceLT, Nat.reduceLeDiff, Nat.reduceMul, reduceIte, reduceCtorEq, Int.reduceEq, Int.reduceLT, Int.reduceLE, Int.reduceNe]
    refine ite_intro (fun h => ?_) (fun h => ?_)
    · have := hb1 h
      rw [if_pos (.inl this)] at hdc
      simp only [WA, Nat.reduceEqDiff, Nat.reduceAdd, Nat.reduceLT, Nat.reduceLeDiff, Nat.reduceMul, reduceIte, reduceCtorEq, Int.reduceEq, Int.reduceLT, Int.reduceLE, Int.reduceNe]
      simp [hdc, zTok, tok_av, packR]
    · obtain ⟨h1, h2⟩ := hb2 h
      subst h1
      simp only [hix, WA, Nat.reduceEqDiff, Nat.reduceAdd, Nat.reduceLT, Nat.reduceLeDiff, Nat.reduceMul, reduceIte, reduceCtorEq, Int.reduceEq, Int.reduceLT, Int.reduceLE, Int.reduceNe]
      refine ite_dec (fun h3 => ?_) (fun h3 => ?_)
      · simp only [hw1, WA, Nat.reduceEqDiff, Nat.reduceAdd, Nat.reduceLT, Nat.reduceLeDiff, Nat.reduceMul, reduceIte, reduceCtorEq, Int.reduceEq, Int.reduceLT, Int.reduceLE, Int.reduceNe]
        refine ite_dec (fun h4 => ?_) (fun h4 => ?_)
        · rw [if_pos (.inr ⟨by omega, by omega⟩)] at hdc
          simp only [WA, Nat.reduceEqDiff, Nat.reduceAdd, Nat.reduceLT, Nat.reduceLeDiff, Nat.reduceMul, reduceIte, reduceCtorEq, Int.reduceEq, Int.reduceLT, Int.reduceLE, Int.reduceNe]
          simp [hdc, zTok, tok_av, packR]
        · rw [if_neg (by omega)] at hdc
          simp only [WA, Nat.reduceEqDiff, Nat.reduceAdd, Nat.reduceLT, Nat.reduceLeDiff, Nat.reduceMul, reduceIte, reduceCtorEq, Int.reduceEq, Int.reduceLT, Int.reduceLE, Int.reduceNe]
          simp [hdc, tok_av, packR]
      · rw [if_neg (by omega)] at hdc
        simp only [WA, Nat.reduceEqDiff, Nat.reduceAdd, Nat.reduceLT, Nat.reduceLeDiff, Nat.reduceMul, reduceIte, reduceCtorEq, Int.reduceEq, Int.reduceLT, Int.reduceLE, Int.reduceNe]
        simp [hdc, tok_av, packR]
theorem wordL_le (l : List Int) : (wordL l).length ≤ l.length := (List.takeWhile_sublist nameB).length_le
theorem take_wordL (l : List Int) : l.take (wordL l).length = wordL l := by
  unfold wordL
  induction l with
  | nil => rfl
  | cons c r ih =>
    rw [List.takeWhile_cons]
    split
    · simp [ih]
    · rfl
theorem take_digL (l : List Int) : l.take (l.takeWhile digB).length = l.takeWhile digB := by
  induction l with
  | nil => rfl
  | cons c r ih =>
    rw [List.takeWhile_cons]
    split
    · simp [ih]
    · rfl
/-- the word that begins at i: a loop over bytes of names -/
theorem name_loop {L : AX → SS → List AV → Prop} {R : AV → Prop} {S : List (List AV → Prop)} {t : T} {r : List AV} (s : ByteArray) (hs : s.size ≤ 1048576) (k : Nat) (hk : k ≤ s.size) {init : List AV} (h0 : init = [avI k])
    (hr : ∀ i, i ≤ s.size → k + (wordL ((bs s).drop k)).length = i + (wordL ((bs s).drop i)).length → wpT Tryd.prog L R t (r ++ [avI i]) ((fun vs => i < s.size ∧ (∃ c, (bs s)[i]? = some c ∧ nameB c = true) ∧ vs = [avI (i + 1 : Nat)]) :: S)) : loopT Tryd.prog L R init t r S := by
  have hl := bs_len s
  refine loop_intro (ι := Nat) (fun i => i ≤ s.size ∧ k + (wordL ((bs s).drop k)).length = i + (wordL ((bs s).drop i)).length) (fun i => [avI i]) (fun i => s.size - i) k ⟨hk, rfl⟩ h0 fun i hi => ?_
  refine wpT_mono (fun _ _ _ h => h) (fun _ h => h) t (.cons (fun vs hv => ?_) (.refl _)) (hr i hi.1 hi.2)
  obtain ⟨h1, ⟨c, h2, h3⟩, rfl⟩ := hv
  have hlt : i < (bs s).length := by omega
  refine ⟨i + 1, ⟨by omega, ?_⟩, by omega, rfl⟩
  have hg : (bs s)[i] = c := by rw [List.getElem?_eq_getElem hlt] at h2; exact Option.some.inj h2
  have := hi.2
  rw [dropC hlt, hg] at this
  simp only [wordL, List.takeWhile_cons, h3, if_true, List.length_cons] at this ⊢
  omega
def wordFrom (l : List Int) : Nat := if l.head? = some 39 then 1 else 0
def wordTok (l : List Int) (p : Int) : VToken :=
  if l.head? = some 39 then ⟨5, ofL (wordL (l.drop 1)), 0, p⟩
  else ⟨if hdB upB l = true then 4 else if isKeyM (ofL (wordL l)) = true then 6 else 3, ofL (wordL l), 0, p⟩
theorem spec_l1Word_c (s : ByteArray) (k : Nat) (hk : k < s.size) (hs : s.size ≤ 1048576) (l : List Int) (hlk : l = (bs s).drop k) (n : Nat) (hn : n = (wordL (l.drop (wordFrom l))).length) :
    PCon Tryd.prog F.spec_l1Word [avB s, avI k] (.tup [(if 12 < n then zTok else wordTok l k).av, avI (k + wordFrom l + n : Nat), avI (if 12 < n then 2 else 0)]) := by
  have hl := bs_len s
  have hlt : k < (bs s).length := by omega
  have hx : (bs s)[k]? = some (bs s)[k] := List.getElem?_eq_getElem hlt
  have hdr := dropC hlt
  generalize hc : (bs s)[k] = c at hx hdr
  have hh : l.head? = some c := by rw [hlk, hdr]; rfl
  have hix := idxX hx
  have hf : wordFrom l = if c = 39 then 1 else 0 := by unfold wordFrom; rw [hh]; simp
  have hw1 : IntKind.i64.wrap ((k : Int) + 1) = ((k + 1 : Nat) : Int) := wrapA1 (by omega)
  obtain ⟨c0, c1⟩ : 0 ≤ c ∧ c < 256 := by rw [← hc]; exact bs_range (List.getElem_mem hlt)
  have hdf : l.drop (wordFrom l) = (bs s).drop (k + wordFrom l) := by rw [hlk, List.drop_drop]
  rw [hdf] at hn
  have hnle := wordL_le ((bs s).drop (k + wordFrom l))
  rw [List.length_drop, hl] at hnle
  have hfle : k + wordFrom l ≤ s.size := by rw [hf]; split <;> omega
  refine T.spec_l1Word_con rfl rfl ?_
  simp only [T.spec_l1Word, WA, Nat.reduceEqDiff, Nat.reduceAdd, Nat.reduceLT, Nat.reduceLeDiff, Nat.reduceMul, reduceIte, reduceCtorEq, Int.reduceEq, Int.reduceLT, Int.reduceLE, Int.reduceNe]
  refine bind_cut [avI (k + wordFrom l : Nat)] rfl ?_ ?_
  · simp only [hix, WA, Nat.reduceEqDiff, Nat.reduceAdd, Nat.reduceLT, Nat.reduceLeDiff, Nat.reduceMul, reduceIte, reduceCtorEq, Int.reduceEq, Int.reduceLT, Int.reduceLE, Int.reduceNe]
    refine ite_dec (fun h => ?_) (fun h => ?_)
    · rw [if_pos h] at hf
      simp only [hw1, hf, WA, Nat.reduceEqDiff, Nat.reduceAdd, Nat.reduceLT, Nat.reduceLeDiff, Nat.reduceMul, reduceIte, reduceCtorEq, Int.reduceEq, Int.reduceLT, Int.reduceLE, Int.reduceNe]
    · rw [if_neg h] at hf
      simp only [hf, WA, Nat.reduceEqDiff, Nat.reduceAdd, Nat.reduceLT, Nat.reduceLeDiff, Nat.reduceMul, reduceIte, reduceCtorEq, Int.reduceEq, Int.reduceLT, Int.reduceLE, Int.reduceNe]
  simp only [WA, Nat.reduceEqDiff, Nat.reduceAdd, Nat.reduceLT, Nat.reduceLeDiff, Nat.reduceMul, reduceIte, reduceCtorEq, Int.reduceEq, Int.reduceLT, Int.reduceLE, Int.reduceNe]
  refine bind_cut [avI (k + wordFrom l + n : Nat)] rfl ?_ ?_
  · simp only [WA, Nat.reduceEqDiff, Nat.reduceAdd, Nat.reduceLT, Nat.reduceLeDiff, Nat.reduceMul, reduceIte, reduceCtorEq, Int.reduceEq, Int.reduceLT, Int.reduceLE, Int.reduceNe]
    refine name_loop s hs (k + wordFrom l) hfle rfl fun i hi hI => ?_
    simp only [WA, Nat.reduceEqDiff, Nat.reduceAdd, Nat.reduceLT, Nat.reduceLeDiff, Nat.reduceMul, reduceIte, reduceCtorEq, Int.reduceEq, Int.reduceLT, Int.reduceLE, Int.reduceNe]
    refine bind_push ?_
    simp only [WA, Nat.reduceEqDiff, Nat.reduceAdd, Nat.reduceLT, Nat.reduceLeDiff, Nat.reduceMul, reduceIte, reduceCtorEq, Int.reduceEq, Int.reduceLT, Int.reduceLE, Int.reduceNe]
    refine bind_push ?_
    simp only [WA, Nat.reduceEqDiff, Nat.reduceAdd, Nat.reduceLT, Nat.reduceLeDiff, Nat.reduceMul, reduceIte, reduceCtorEq, Int.reduceEq, Int.reduceLT, Int.reduceLE, Int.reduceNe]
    refine ite_dec (fun h => ?_) (fun h => ?_)
    · have hlt2 : i < (bs s).length := by omega
      have hx2 : (bs s)[i]? = some (bs s)[i] := List.getElem?_eq_getElem hlt2
      obtain ⟨d0, d1⟩ := bs_range (List.getElem_mem hlt2)
      have hdr2 := dropC hlt2
      generalize hc2 : (bs s)[i] = d at hx2 hdr2 d0 d1
      have hix2 := idxX hx2
      simp only [hix2, wrap8 d0 d1, WA, Nat.reduceEqDiff, Nat.reduceAdd, Nat.reduceLT, Nat.reduceLeDiff, Nat.reduceMul, reduceIte, reduceCtorEq, Int.reduceEq, Int.reduceLT, Int.reduceLE, Int.reduceNe]
      refine call_v (spec_l1NameByte_c d) ?_
      simp only [WA, Nat.reduceEqDiff, Nat.reduceAdd, Nat.reduceLT, Nat.reduceLeDiff, Nat.reduceMul, reduceIte, reduceCtorEq, Int.reduceEq, Int.reduceLT, Int.reduceLE, Int.reduceNe]
      refine ite_intro (fun h1 => ?_) (fun h1 => ?_)
      · simp (disch := omega) only [wrapA1, WA, Nat.reduceEqDiff, Nat.reduceAdd, Nat.reduceLT, Nat.reduceLeDiff, Nat.reduceMul, reduceIte, reduceCtorEq, Int.reduceEq, Int.reduceLT, Int.reduceLE, Int.reduceNe]
        first | exact ⟨by omega, ⟨d, hx2, h1⟩, rfl⟩ | exact ⟨by omega, d, hx2, h1⟩ | exact ⟨d, hx2, h1⟩
      · have e : wordL (d :: (bs s).drop (i + 1)) = [] := by simp [wordL, h1]
        rw [hdr2, e] at hI
        simp only [WA, Nat.reduceEqDiff, Nat.reduceAdd, Nat.reduceLT, Nat.reduceLeDiff, Nat.reduceMul, reduceIte, reduceCtorEq, Int.reduceEq, Int.reduceLT, Int.reduceLE, Int.reduceNe]
        rw [hn, hI]; rfl
    · have he : i = (bs s).length := by omega
      subst he
      have e : wordL [] = [] := rfl
      rw [dropE, e] at hI
      simp only [WA, Nat.reduceEqDiff, Nat.reduceAdd, Nat.reduceLT, Nat.reduceLeDiff, Nat.reduceMul, reduceIte, reduceCtorEq, Int.reduceEq, Int.reduceLT, Int.reduceLE, Int.reduceNe]
      rw [hn, hI]; rfl
  have hext : s.extract (k + wordFrom l) (k + wordFrom l + n) = ofL (wordL ((bs s).drop (k + wordFrom l))) := by
    rw [extract_ofL, show k + wordFrom l + n - (k + wordFrom l) = n by omega, hn, take_wordL]
  have hsub : IntKind.i64.wrap (((k + wordFrom l + n : Nat) : Int) - ((k + wordFrom l : Nat) : Int)) = (n : Int) := by rw [wrapS (by omega) (by omega)]; congr 1; omega
  simp only [Int.toNat_natCast, hext, WA, Nat.reduceEqDiff, Nat.reduceAdd, Nat.reduceLT, Nat.reduceLeDiff, Nat.reduceMul, reduceIte, reduceCtorEq, Int.reduceEq, Int.reduceLT, Int.reduceLE, Int.reduceNe]
  refine ⟨by omega, by omega, ?_⟩
  by_cases h12 : 12 < n
  · rw [if_pos h12, if_pos h12]
    refine bind_push ?_
    simp only [hsub, show decide ((12 : Int) < (n : Int)) = true from by simp; omega, zTok, tok_av, WA, Nat.reduceEqDiff, Nat.reduceAdd, Nat.reduceLT, Nat.reduceLeDiff, Nat.reduceMul, reduceIte, reduceCtorEq, Int.reduceEq, Int.reduceLT, Int.reduceLE, Int.reduceNe]
  · rw [if_neg h12, if_neg h12]
    refine bind_cut [avI (wordTok l k).Kind] rfl ?_ ?_
    · simp only [hsub, show decide ((12 : Int) < (n : Int)) = false from by simp; omega, WA, Nat.reduceEqDiff, Nat.reduceAdd, Nat.reduceLT, Nat.reduceLeDiff, Nat.reduceMul, reduceIte, reduceCtorEq, Int.reduceEq, Int.reduceLT, Int.reduceLE, Int.reduceNe]
      by_cases h39 : c = 39
      · have hf1 : wordFrom l = 1 := by rw [hf, if_pos h39]
        have ht : (wordTok l k).Kind = 5 := by unfold wordTok; rw [hh, h39, if_pos rfl, VToken.Kind_mk]
        simp only [ht, hf1, show decide ((k : Int) < ((k + 1 : Nat) : Int)) = true from by simp; omega, WA, Nat.reduceEqDiff, Nat.reduceAdd, Nat.reduceLT, Nat.reduceLeDiff, Nat.reduceMul, reduceIte, reduceCtorEq, Int.reduceEq, Int.reduceLT, Int.reduceLE, Int.reduceNe]
      · have hf1 : wordFrom l = 0 := by rw [hf, if_neg h39]
        have ht : (wordTok l k).Kind = if upB c = true then 4 else if isKeyM (ofL (wordL l)) = true then 6 else 3 := by
          unfold wordTok; rw [hh, if_neg (by simpa using h39), VToken.Kind_mk, show hdB upB l = upB c by rw [hlk, hdr]; rfl]
        rw [ht]
        have hlz : (bs s).drop k = l := hlk.symm
        simp only [hf1, hlz, Nat.add_zero, hix, wrap8 c0 c1, show decide ((k : Int) < (k : Int)) = false from by simp, WA, Nat.reduceEqDiff, Nat.reduceAdd, Nat.reduceLT, Nat.reduceLeDiff, Nat.reduceMul, reduceIte, reduceCtorEq, Int.reduceEq, Int.reduceLT, Int.reduceLE, Int.reduceNe]
        refine call_v (spec_l1Upper_c c) ?_
        simp only [WA, Nat.reduceEqDiff, Nat.reduceAdd, Nat.reduceLT, Nat.reduceLeDiff, Nat.reduceMul, reduceIte, reduceCtorEq, Int.reduceEq, Int.reduceLT, Int.reduceLE, Int.reduceNe]
        refine ite_intro (fun h1 => ?_) (fun h1 => ?_)
        · rw [if_pos (show upB c = true from h1)]
          simp only [WA, Nat.reduceEqDiff, Nat.reduceAdd, Nat.reduceLT, Nat.reduceLeDiff, Nat.reduceMul, reduceIte, reduceCtorEq, Int.reduceEq, Int.reduceLT, Int.reduceLE, Int.reduceNe]
        · rw [if_neg (by simp [upB, h1])]
          simp only [WA, Nat.reduceEqDiff, Nat.reduceAdd, Nat.reduceLT, Nat.reduceLeDiff, Nat.reduceMul, reduceIte, reduceCtorEq, Int.reduceEq, Int.reduceLT, Int.reduceLE, Int.reduceNe]
          refine call_v (spec_l1Key_c _) ?_
          simp only [WA, Nat.reduceEqDiff, Nat.reduceAdd, Nat.reduceLT, Nat.reduceLeDiff, Nat.reduceMul, reduceIte, reduceCtorEq, Int.reduceEq, Int.reduceLT, Int.reduceLE, Int.reduceNe]
          refine ite_intro (fun h2 => ?_) (fun h2 => ?_)
          · rw [if_pos h2]; simp only [WA, Nat.reduceEqDiff, Nat.reduceAdd, Nat.reduceLT, Nat.reduceLeDiff, Nat.reduceMul, reduceIte, reduceCtorEq, Int.reduceEq, Int.reduceLT, Int.reduceLE, Int.reduceNe]
          · rw [if_neg (by simp [h2])]; simp only [WA, Nat.reduceEqDiff, Nat.reduceAdd, Nat.reduceLT, Nat.reduceLeDiff, Nat.reduceMul, reduceIte, reduceCtorEq, Int.reduceEq, Int.reduceLT, Int.reduceLE, Int.reduceNe]
    · have ht : wordTok l k = ⟨(wordTok l k).Kind, ofL (wordL ((bs s).drop (k + wordFrom l))), 0, k⟩ := by
        rw [← hdf]
        unfold wordTok wordFrom
        split
        · rfl
        · simp [VToken.Kind_mk]
      generalize (wordTok l k).Kind = kd at ht ⊢
      rw [ht]
      simp only [tok_av, WA, Nat.reduceEqDiff, Nat.reduceAdd, Nat.reduceLT, Nat.reduceLeDiff, Nat.reduceMul, reduceIte, reduceCtorEq, Int.reduceEq, Int.reduceLT, Int.reduceLE, Int.reduceNe]
theorem strM_q {r : List Int} : strM (34 :: r) = some ([], 1) := by rw [strM.eq_def (34 :: r)]; simp
theorem strM_esc {d e : Int} {r : List Int} (h : d = 110 ∧ e = 10 ∨ (d = 34 ∨ d = 92) ∧ e = d) : strM (92 :: d :: r) = (strM r).map fun q => (e :: q.1, q.2 + 2) := by
  rcases h with ⟨rfl, rfl⟩ | ⟨h | h, rfl⟩
  · rw [strM.eq_def (92 :: 110 :: r)]; simp
  · subst h; rw [strM.eq_def (92 :: 34 :: r)]; simp
  · subst h; rw [strM.eq_def (92 :: 92 :: r)]; simp
theorem strM_bad {r : List Int} (h : ∀ d r', r = d :: r' → d ≠ 110 ∧ d ≠ 34 ∧ d ≠ 92) : strM (92 :: r) = none := by
  cases r with
  | nil => unfold strM; simp
  | cons d r' =>
    obtain ⟨h1, h2, h3⟩ := h d r' rfl
    unfold strM; simp [h1, h2, h3]
theorem strM_plain {c : Int} {r : List Int} (h1 : c ≠ 34) (h2 : c ≠ 92) (h3 : inB c 32 126 = true) : strM (c :: r) = (strM r).map fun q => (c :: q.1, q.2 + 1) := by rw [strM.eq_def (c :: r)]; simp [h1, h2, h3]
theorem strM_no {c : Int} {r : List Int} (h1 : c ≠ 34) (h2 : c ≠ 92) (h3 : inB c 32 126 = false) : strM (c :: r) = none := by rw [strM.eq_def (c :: r)]; simp [h1, h2, h3]
/-- ahead of what is left -/
def preS (acc : List Int) (m : Nat) (o : Option (List Int × Nat)) : Option (List Int × Nat) := o.map fun q => (acc ++ q.1, m + q.2)
theorem ofL_app (a b : List Int) : ofL (a ++ b) = ofL a ++ ofL b := by
  apply bytes_ext
  rw [app_list]
  simp [ofL]
theorem ofL_one (c : Int) : ofL [c] = byteB c := rfl
theorem ofL_size (l : List Int) : (ofL l).size = l.length := by
  show (ofL l).data.size = _
  simp [ofL]
def strTok (o : Option (List Int × Nat)) (p : Int) : VToken := match o with
  | some q => ⟨2, ofL q.1, 0, p⟩
  | none => zTok
def strNx (o : Option (List Int × Nat)) (k : Nat) (nx : Int) : Int := match o with
  | some q => (k + 1 + q.2 : Nat)
  | none => nx
def strCode (o : Option (List Int × Nat)) : Int := match o with
  | some _ => 0
  | none => 4
theorem spec_l1String_c (s : ByteArray) (k : Nat) (hk : k < s.size) (hs : s.size ≤ 1048576) (o : Option (List Int × Nat)) (ho : o = strM ((bs s).drop (k + 1))) :
    ∃ nx : Int, PCon Tryd.prog F.spec_l1String [avB s, avI k] (.tup [(strTok o k).av, avI (strNx o k nx), avI (strCode o)]) := by
  have hl := bs_len s
  have key : ∃ outs : List AV, outs.length = 3 ∧ (∃ nx : Int, outs = [(strTok o k).av, avI (strNx o k nx), avI (strCode o)]) ∧ wpT Tryd.prog (fun _ _ _ => False) (fun a => a = packR outs) T.spec_l1String [avB s, avI k] [] := by
    refine ex_intro ⟨_, rfl, 0, rfl⟩ ?_
    have fin : ∀ (a b c : AV), (∃ nx : Int, [a, b, c] = [(strTok o k).av, avI (strNx o k nx), avI (strCode o)]) → ex 3 (fun outs => ∃ nx : Int, outs = [(strTok o k).av, avI (strNx o k nx), avI (strCode o)]) (.tup [a, b, c]) := by
      rintro a b c ⟨nx, h⟩
      exact ⟨_, rfl, ⟨nx, h⟩, rfl⟩
    have exR : ∀ (m : Nat) (Q : List AV → Prop) (vs : List AV), retT (ex m Q) vs = ex m Q (packR vs) := fun _ _ _ => by unfold retT; rfl
    have hw1 : IntKind.i64.wrap ((k : Int) + 1) = ((k + 1 : Nat) : Int) := wrapA1 (by omega)
    simp only [T.spec_l1String, hw1, WA, Nat.reduceEqDiff, Nat.reduceAdd, Nat.reduceLT, Nat.reduceLeDiff, Nat.reduceMul, reduceIte, reduceCtorEq, Int.reduceEq, Int.reduceLT, Int.reduceLE, Int.reduceNe]
    refine bind_post (fun _ => o = none) ?_ ?_
    · simp only [WA, Nat.reduceEqDiff, Nat.reduceAdd, Nat.reduceLT, Nat.reduceLeDiff, Nat.reduceMul, reduceIte, reduceCtorEq, Int.reduceEq, Int.reduceLT, Int.reduceLE, Int.reduceNe]
      refine loop_intro (ι := Nat × List Int) (fun q => k + 1 ≤ q.1 ∧ q.1 ≤ s.size ∧ q.2.length ≤ q.1 ∧ o = preS q.2 (q.1 - (k + 1)) (strM ((bs s).drop q.1))) (fun q => [.sl (ysS (ofL q.2)), avI q.1]) (fun q => s.size - q.1) (k + 1, [])
        ⟨Nat.le_refl _, by simp only; omega, by simp, by simp only [Nat.sub_self, preS]; rw [ho]; cases strM ((bs s).drop (k + 1)) <;> simp⟩ (by rw [hw1]; rfl) ?_
      rintro ⟨i, acc⟩ ⟨hki, hi, hal, hI⟩
      simp only at hki hi hal hI
      simp only [WA, Nat.reduceEqDiff, Nat.reduceAdd, Nat.reduceLT, Nat.reduceLeDiff, Nat.reduceMul, reduceIte, reduceCtorEq, Int.reduceEq, Int.reduceLT, Int.reduceLE, Int.reduceNe]
      refine ite_dec (fun h => ?_) (fun h => ?_)
      · have hlt : i < (bs s).length := by omega
        have hx : (bs s)[i]? = some (bs s)[i] := List.getElem?_eq_getElem hlt
        obtain ⟨c0, c1⟩ := bs_range (List.getElem_mem hlt)
        have hdr := dropC hlt
        generalize hc : (bs s)[i] = c at hx hdr c0 c1
        rw [hdr] at hI
        have hix := idxX hx
        have hwi : IntKind.i64.wrap ((i : Int) + 1) = ((i + 1 : Nat) : Int) := wrapA1 (by omega)
        have put : ∀ d : Int, 0 ≤ d → d < 256 → ysS (ofL acc) ++ [AV.v (.int .u8 d)] = ysS (ofL (acc ++ [d])) := fun d h0 h1 => by rw [y1 _ _ h0 h1, ofL_app, ofL_one]
        have hsz : (ysS (ofL acc)).length = acc.length := by rw [← ofL_size acc]; simp [ysS]
        simp only [WA, Nat.reduceEqDiff, Nat.reduceAdd, Nat.reduceLT, Nat.reduceLeDiff, Nat.reduceMul, reduceIte, reduceCtorEq, Int.reduceEq, Int.reduceLT, Int.reduceLE, Int.reduceNe]
        refine bind_push ?_
        simp only [hix, WA, Nat.reduceEqDiff, Nat.reduceAdd, Nat.reduceLT, Nat.reduceLeDiff, Nat.reduceMul, reduceIte, reduceCtorEq, Int.reduceEq, Int.reduceLT, Int.reduceLE, Int.reduceNe]
        refine bind_push ?_
        simp only [WA, Nat.reduceEqDiff, Nat.reduceAdd, Nat.reduceLT, Nat.reduceLeDiff, Nat.reduceMul, reduceIte, reduceCtorEq, Int.reduceEq, Int.reduceLT, Int.reduceLE, Int.reduceNe]
        refine ite_dec (fun h1 => ?_) (fun h1 => ?_)
        · subst h1
          rw [strM_q] at hI
          simp only [hwi, exR, WA, Nat.reduceEqDiff, Nat.reduceAdd, Nat.reduceLT, Nat.reduceLeDiff, Nat.reduceMul, reduceIte, reduceCtorEq, Int.reduceEq, Int.reduceLT, Int.reduceLE, Int.reduceNe]
          refine fin _ _ _ ⟨0, ?_⟩
          rw [hI]
          simp only [preS, Option.map_some, List.append_nil, strTok, strNx, strCode, tok_av]
          rw [show k + 1 + (i - (k + 1) + 1) = i + 1 by omega]
        · simp only [WA, Nat.reduceEqDiff, Nat.reduceAdd, Nat.reduceLT, Nat.reduceLeDiff, Nat.reduceMul, reduceIte, reduceCtorEq, Int.reduceEq, Int.reduceLT, Int.reduceLE, Int.reduceNe]
          refine bind_push ?_
          simp only [WA, Nat.reduceEqDiff, Nat.reduceAdd, Nat.reduceLT, Nat.reduceLeDiff, Nat.reduceMul, reduceIte, reduceCtorEq, Int.reduceEq, Int.reduceLT, Int.reduceLE, Int.reduceNe]
          refine ite_dec (fun h2 => ?_) (fun h2 => ?_)
          · subst h2
            simp only [hwi, WA, Nat.reduceEqDiff, Nat.reduceAdd, Nat.reduceLT, Nat.reduceLeDiff, Nat.reduceMul, reduceIte, reduceCtorEq, Int.reduceEq, Int.reduceLT, Int.reduceLE, Int.reduceNe]
            refine ite_dec (fun h3 => ?_) (fun h3 => ?_)
            · have hlt2 : i + 1 < (bs s).length := by omega
              have hx2 : (bs s)[i + 1]? = some (bs s)[i + 1] := List.getElem?_eq_getElem hlt2
              obtain ⟨d0, d1⟩ := bs_range (List.getElem_mem hlt2)
              have hdr2 := dropC hlt2
              generalize hc2 : (bs s)[i + 1] = d at hx2 hdr2 d0 d1
              rw [hdr2] at hI
              have hix2 := idxX hx2
              have hwi2 : IntKind.i64.wrap (((i + 1 : Nat) : Int) + 1) = ((i + 2 : Nat) : Int) := wrapA1 (by omega)
              simp only [hwi, hix2, WA, Nat.reduceEqDiff, Nat.reduceAdd, Nat.reduceLT, Nat.reduceLeDiff, Nat.reduceMul, reduceIte, reduceCtorEq, Int.reduceEq, Int.reduceLT, Int.reduceLE, Int.reduceNe]
              have good : ∀ e : Int, 0 ≤ e → e < 256 → (d = 110 ∧ e = 10 ∨ (d = 34 ∨ d = 92) ∧ e = d) → ∃ j : Nat × List Int, (k + 1 ≤ j.1 ∧ j.1 ≤ s.size ∧ j.2.length ≤ j.1 ∧ o = preS j.2 (j.1 - (k + 1)) (strM ((bs s).drop j.1))) ∧ s.size - j.1 < s.size - i ∧ [AV.sl (ysS (ofL (acc ++ [e]))), avI (i + 2 : Nat)] = [.sl (ysS (ofL j.2)), avI j.1] := by
                intro e e0 e1 he
                refine ⟨(i + 2, acc ++ [e]), ⟨by simp only; omega, by simp only; omega, by simp; omega, ?_⟩, by simp only; omega, rfl⟩
                rw [hI, strM_esc he]
                simp only [preS, Option.map_map, Function.comp_def, List.append_assoc, List.cons_append, List.nil_append]
                congr 1
                funext q
                congr 1
                omega
              refine ite_dec (fun h4 => ?_) (fun h4 => ?_)
              · subst h4
                simp only [hix2, hwi, hwi2, hsz, put, decide_true, List.length_cons, List.length_nil, WA, Nat.reduceEqDiff, Nat.reduceAdd, Nat.reduceLT, Nat.reduceLeDiff, Nat.reduceMul, reduceIte, reduceCtorEq, Int.reduceEq, Int.reduceLT, Int.reduceLE, Int.reduceNe]
                repeat (refine And.intro (by first | omega | rfl | (intro y hy; subst hy; rfl)) ?_)
                try rw [put 10 (by omega) (by omega)]
                exact good 10 (by omega) (by omega) (.inl ⟨rfl, rfl⟩)
              · simp only [hix2, hwi, WA, Nat.reduceEqDiff, Nat.reduceAdd, Nat.reduceLT, Nat.reduceLeDiff, Nat.reduceMul, reduceIte, reduceCtorEq, Int.reduceEq, Int.reduceLT, Int.reduceLE, Int.reduceNe]
                refine ite_dec (fun h5 => ?_) (fun h5 => ?_)
                · subst h5
                  simp only [hix2, hwi, hwi2, hsz, decide_false, List.length_cons, List.length_nil, show decide ((34 : Int) = 110) = false from rfl, WA, Nat.reduceEqDiff, Nat.reduceAdd, Nat.reduceLT, Nat.reduceLeDiff, Nat.reduceMul, reduceIte, reduceCtorEq, Int.reduceEq, Int.reduceLT, Int.reduceLE, Int.reduceNe]
                  repeat (refine And.intro (by first | omega | rfl | (intro y hy; subst hy; rfl)) ?_)
                  try rw [put 34 (by omega) (by omega)]
                  exact good 34 (by omega) (by omega) (.inr ⟨.inl rfl, rfl⟩)
                · simp only [hix2, hwi, WA, Nat.reduceEqDiff, Nat.reduceAdd, Nat.reduceLT, Nat.reduceLeDiff, Nat.reduceMul, reduceIte, reduceCtorEq, Int.reduceEq, Int.reduceLT, Int.reduceLE, Int.reduceNe]
                  refine ite_dec (fun h6 => ?_) (fun h6 => ?_)
                  · subst h6
                    simp only [hix2, hwi, hwi2, hsz, decide_false, List.length_cons, List.length_nil, show decide ((92 : Int) = 110) = false from rfl, WA, Nat.reduceEqDiff, Nat.reduceAdd, Nat.reduceLT, Nat.reduceLeDiff, Nat.reduceMul, reduceIte, reduceCtorEq, Int.reduceEq, Int.reduceLT, Int.reduceLE, Int.reduceNe]
                    repeat (refine And.intro (by first | omega | rfl | (intro y hy; subst hy; rfl)) ?_)
                    try rw [put 92 (by omega) (by omega)]
                    exact good 92 (by omega) (by omega) (.inr ⟨.inr rfl, rfl⟩)
                  · rw [strM_bad (fun d' r' he => by cases he; exact ⟨h4, h5, h6⟩)] at hI
                    simp only [preS, Option.map_none] at hI
                    simp only [WA, Nat.reduceEqDiff, Nat.reduceAdd, Nat.reduceLT, Nat.reduceLeDiff, Nat.reduceMul, reduceIte, reduceCtorEq, Int.reduceEq, Int.reduceLT, Int.reduceLE, Int.reduceNe]
                    refine bind_push ?_
                    simp only [exR, WA, Nat.reduceEqDiff, Nat.reduceAdd, Nat.reduceLT, Nat.reduceLeDiff, Nat.reduceMul, reduceIte, reduceCtorEq, Int.reduceEq, Int.reduceLT, Int.reduceLE, Int.reduceNe]
                    refine fin _ _ _ ⟨i, ?_⟩
                    rw [hI]; rfl
            · rw [strM_bad (fun d' r' he => by
                have := congrArg List.length he
                simp at this; omega)] at hI
              simp only [preS, Option.map_none] at hI
              simp only [WA, Nat.reduceEqDiff, Nat.reduceAdd, Nat.reduceLT, Nat.reduceLeDiff, Nat.reduceMul, reduceIte, reduceCtorEq, Int.reduceEq, Int.reduceLT, Int.reduceLE, Int.reduceNe]
              refine bind_push ?_
              simp only [exR, WA, Nat.reduceEqDiff, Nat.reduceAdd, Nat.reduceLT, Nat.reduceLeDiff, Nat.reduceMul, reduceIte, reduceCtorEq, Int.reduceEq, Int.reduceLT, Int.reduceLE, Int.reduceNe]
              refine fin _ _ _ ⟨i, ?_⟩
              rw [hI]; rfl
          · simp only [WA, Nat.reduceEqDiff, Nat.reduceAdd, Nat.reduceLT, Nat.reduceLeDiff, Nat.reduceMul, reduceIte, reduceCtorEq, Int.reduceEq, Int.reduceLT, Int.reduceLE, Int.reduceNe]
            refine bind_push ?_
            simp only [h2, decide_false, wrap8 c0 c1, WA, Nat.reduceEqDiff, Nat.reduceAdd, Nat.reduceLT, Nat.reduceLeDiff, Nat.reduceMul, reduceIte, reduceCtorEq, Int.reduceEq, Int.reduceLT, Int.reduceLE, Int.reduceNe]
            refine call_v (spec_l1In_c c 32 126) ?_
            simp only [WA, Nat.reduceEqDiff, Nat.reduceAdd, Nat.reduceLT, Nat.reduceLeDiff, Nat.reduceMul, reduceIte, reduceCtorEq, Int.reduceEq, Int.reduceLT, Int.reduceLE, Int.reduceNe]
            cases h7 : inB c 32 126 with
            | true =>
              rw [strM_plain h1 h2 h7] at hI
              simp only [hwi, hsz, List.length_cons, List.length_nil, Bool.not_true, WA, Nat.reduceEqDiff, Nat.reduceAdd, Nat.reduceLT, Nat.reduceLeDiff, Nat.reduceMul, reduceIte, reduceCtorEq, Int.reduceEq, Int.reduceLT, Int.reduceLE, Int.reduceNe]
              repeat (refine And.intro (by first | omega | rfl | (intro y hy; subst hy; rfl)) ?_)
              try rw [put c c0 c1]
              refine ⟨(i + 1, acc ++ [c]), ⟨by simp only; omega, by simp only; omega, by simp; omega, ?_⟩, by simp only; omega, rfl⟩
              rw [hI]
              simp only [preS, Option.map_map, Function.comp_def, List.append_assoc, List.cons_append, List.nil_append]
              congr 1
              funext q
              congr 1
              omega
            | false =>
              rw [strM_no h1 h2 h7] at hI
              simp only [preS, Option.map_none] at hI
              simp only [Bool.not_false, exR, WA, Nat.reduceEqDiff, Nat.reduceAdd, Nat.reduceLT, Nat.reduceLeDiff, Nat.reduceMul, reduceIte, reduceCtorEq, Int.reduceEq, Int.reduceLT, Int.reduceLE, Int.reduceNe]
              refine fin _ _ _ ⟨i, ?_⟩
              rw [hI]; rfl
      · have he : i = (bs s).length := by omega
        subst he
        rw [dropE] at hI
        simp only [strM, preS, Option.map_none] at hI
        simp only [WA, Nat.reduceEqDiff, Nat.reduceAdd, Nat.reduceLT, Nat.reduceLeDiff, Nat.reduceMul, reduceIte, reduceCtorEq, Int.reduceEq, Int.reduceLT, Int.reduceLE, Int.reduceNe]
        exact hI
    · intro vs hv hlen
      simp only [exR, WA, Nat.reduceEqDiff, Nat.reduceAdd, Nat.reduceLT, Nat.reduceLeDiff, Nat.reduceMul, reduceIte, reduceCtorEq, Int.reduceEq, Int.reduceLT, Int.reduceLE, Int.reduceNe]
      refine fin _ _ _ ⟨k, ?_⟩
      rw [hv]; rfl
  obtain ⟨outs, h1, ⟨nx, rfl⟩, h2⟩ := key
  exact ⟨nx, T.spec_l1String_con rfl rfl h2⟩
theorem lexM_code {l : List Int} {p c : Int} (h : lexM l p = .inl c) : c ≠ 0 := by
  unfold lexM at h
  split at h
  · cases h; decide
  · split at h
    · split at h
      · cases h; decide
      · cases h
    · split at h
      · split at h
        · cases h; decide
        · cases h
      · split at h
        · split at h
          · cases h; decide
          · cases h
        · split at h
          · split at h
            · cases h; decide
            · cases h
          · unfold signTok at h
            split at h
            · cases h; decide
            · cases h
theorem prefix_ext (s y : ByteArray) (k : Nat) (h : k + y.size ≤ s.size) : (bs y).isPrefixOf ((bs s).drop k) = decide (s.extract k (k + y.size) = y) := by
  rw [Bool.eq_iff_iff, List.isPrefixOf_iff_prefix, List.prefix_iff_eq_take, decide_eq_true_eq, bs_len]
  have he := bs_extract s k (k + y.size)
  rw [show k + y.size - k = y.size by omega] at he
  rw [← he]
  exact ⟨fun q => bs_inj q.symm, fun q => by rw [q]⟩
theorem prefix_short (s y : ByteArray) (k : Nat) (hk : k ≤ s.size) (h : s.size < k + y.size) : (bs y).isPrefixOf ((bs s).drop k) = false := by
  cases hq : (bs y).isPrefixOf ((bs s).drop k) with
  | false => rfl
  | true =>
    have := (List.isPrefixOf_iff_prefix.1 hq).length_le
    rw [bs_len, List.length_drop, bs_len] at this
    omega
/-- what the reference's step tells, told by lexM -/
def tokR (l : List Int) (k : Nat) (tok : VToken) (nx code : Int) : Prop := match lexM l k with
  | .inl c => code = c
  | .inr q => code = 0 ∧ tok = q.1 ∧ nx = (k + q.2 : Nat)
theorem retT_ex (m : Nat) (Q : List AV → Prop) (vs : List AV) : retT (ex m Q) vs = ex m Q (packR vs) := by unfold retT; rfl
theorem ex_3 {Q : List AV → Prop} {a b c : AV} (h : Q [a, b, c]) : ex 3 Q (.tup [a, b, c]) := ⟨_, rfl, h, rfl⟩
theorem spec_l1Token_c (s : ByteArray) (k : Nat) (hk : k < s.size) (hs : s.size ≤ 1048576) (l : List Int) (hlk : l = (bs s).drop k) :
    ∃ (tok : VToken) (nx code : Int), PCon Tryd.prog F.spec_l1Token [avB s, avI k] (.tup [tok.av, avI nx, avI code]) ∧ tokR l k tok nx code := by
  have hl := bs_len s
  have hlt : k < (bs s).length := by omega
  have hx : (bs s)[k]? = some (bs s)[k] := List.getElem?_eq_getElem hlt
  obtain ⟨c0, c1⟩ := bs_range (List.getElem_mem hlt)
  have hdr := dropC hlt
  have htl : (bs s).drop (k + 1) = l.drop 1 := by rw [hlk, List.drop_drop]
  generalize hc : (bs s)[k] = c at hx hdr c0 c1
  rw [htl] at hdr
  generalize hr : l.drop 1 = r at hdr htl
  have hlc : l = c :: r := hlk.trans hdr
  have hh : l.head? = some c := by rw [hlc]; rfl
  have hix := idxX hx
  have key : ∃ outs : List AV, outs.length = 3 ∧ (∃ (tok : VToken) (nx code : Int), outs = [tok.av, avI nx, avI code] ∧ tokR l k tok nx code) ∧ wpT Tryd.prog (fun _ _ _ => False) (fun a => a = packR outs) T.spec_l1Token [avB s, avI k] [] := by
    have hne : ∃ outs : List AV, outs.length = 3 ∧ ∃ (tok : VToken) (nx code : Int), outs = [tok.av, avI nx, avI code] ∧ tokR l k tok nx code := by
      cases hq : lexM l k with
      | inl e => exact ⟨[zTok.av, avI 0, avI e], rfl, zTok, 0, e, rfl, by unfold tokR; rw [hq]⟩
      | inr q => exact ⟨[q.1.av, avI (k + q.2 : Nat), avI 0], rfl, q.1, (k + q.2 : Nat), 0, rfl, by unfold tokR; rw [hq]; exact ⟨rfl, rfl, rfl⟩⟩
    refine ex_intro hne ?_
    have fin : ∀ (tok : VToken) (nx code : Int), tokR l k tok nx code → ex 3 (fun outs => ∃ (tok : VToken) (nx code : Int), outs = [tok.av, avI nx, avI code] ∧ tokR l k tok nx code) (.tup [tok.av, avI nx, avI code]) :=
      fun tok nx code h => ex_3 ⟨tok, nx, code, rfl, h⟩
    have hw1 : IntKind.i64.wrap ((k : Int) + 1) = ((k + 1 : Nat) : Int) := wrapA1 (by omega)
    simp only [T.spec_l1Token, hix, wrap8 c0 c1, WA, Nat.reduceEqDiff, Nat.reduceAdd, Nat.reduceLT, Nat.reduceLeDiff, Nat.reduceMul, reduceIte, reduceCtorEq, Int.reduceEq, Int.reduceLT, Int.reduceLE, Int.reduceNe]
    refine bind_post (fun vs => digB c = false ∧ (lowB c || upB c || (decide (c = 39) && hdB lowB r)) = false ∧ c ≠ 34) ?_ ?_
    · simp only [WA, Nat.reduceEqDiff, Nat.reduceAdd, Nat.reduceLT, Nat.reduceLeDiff, Nat.reduceMul, reduceIte, reduceCtorEq, Int.reduceEq, Int.reduceLT, Int.reduceLE, Int.reduceNe]
      refine call_v (spec_l1Num_c c) ?_
      simp only [WA, Nat.reduceEqDiff, Nat.reduceAdd, Nat.reduceLT, Nat.reduceLeDiff, Nat.reduceMul, reduceIte, reduceCtorEq, Int.reduceEq, Int.reduceLT, Int.reduceLE, Int.reduceNe]
      refine ite_intro (fun h1 => ?_) (fun h1 => ?_)
      · have h1' : digB c = true := h1
        simp only [WA, Nat.reduceEqDiff, Nat.reduceAdd, Nat.reduceLT, Nat.reduceLeDiff, Nat.reduceMul, reduceIte, reduceCtorEq, Int.reduceEq, Int.reduceLT, Int.reduceLE, Int.reduceNe]
        refine call_p (spec_l1Digits_c s k hk hs) (by simp [AV.noref, AV.norefs, VToken.noref]) ?_
        rw [← hlk]
        have hd : digC l = if maxI < valD 0 ((c :: r).takeWhile digB) ∨ (c = 48 ∧ 1 < ((c :: r).takeWhile digB).length) then 3 else 0 := by
          unfold digC; rw [hh, hlc]; simp only [Option.some.injEq]
        simp only [VToken.isAgg, VToken.width, VToken.storable, VToken.cells, VToken.eta, retT_ex, WA, Nat.reduceEqDiff, Nat.reduceAdd, Nat.reduceLT, Nat.reduceLeDiff, Nat.reduceMul, reduceIte, reduceCtorEq, Int.reduceEq, Int.reduceLT, Int.reduceLE, Int.reduceNe]
        refine fin _ _ _ ?_
        unfold tokR
        rw [hlc, lexM, if_pos h1', ← hlc]
        rw [← hlc] at hd
        by_cases hb : maxI < valD 0 (l.takeWhile digB) ∨ (c = 48 ∧ 1 < (l.takeWhile digB).length)
        · rw [if_pos hb] at hd
          rw [if_pos hb]
          exact hd
        · rw [if_neg hb] at hd
          rw [if_neg hb]
          exact ⟨hd, by rw [if_pos hd], rfl⟩
      · have h1' : digB c = false := h1
        simp only [WA, Nat.reduceEqDiff, Nat.reduceAdd, Nat.reduceLT, Nat.reduceLeDiff, Nat.reduceMul, reduceIte, reduceCtorEq, Int.reduceEq, Int.reduceLT, Int.reduceLE, Int.reduceNe]
        refine bind_cut [.v (.bool (lowB c || upB c || (decide (c = 39) && hdB lowB r)))] rfl ?_ ?_
        · simp only [WA, Nat.reduceEqDiff, Nat.reduceAdd, Nat.reduceLT, Nat.reduceLeDiff, Nat.reduceMul, reduceIte, reduceCtorEq, Int.reduceEq, Int.reduceLT, Int.reduceLE, Int.reduceNe]
          refine call_v (spec_l1Lower_c c) ?_
          simp only [WA, Nat.reduceEqDiff, Nat.reduceAdd, Nat.reduceLT, Nat.reduceLeDiff, Nat.reduceMul, reduceIte, reduceCtorEq, Int.reduceEq, Int.reduceLT, Int.reduceLE, Int.reduceNe]
          refine ite_intro (fun h2 => ?_) (fun h2 => ?_)
          · have h2' : lowB c = true := h2
            simp only [h2', Bool.true_or, WA, Nat.reduceEqDiff, Nat.reduceAdd, Nat.reduceLT, Nat.reduceLeDiff, Nat.reduceMul, reduceIte, reduceCtorEq, Int.reduceEq, Int.reduceLT, Int.reduceLE, Int.reduceNe]
          · have h2' : lowB c = false := h2
            simp only [WA, Nat.reduceEqDiff, Nat.reduceAdd, Nat.reduceLT, Nat.reduceLeDiff, Nat.reduceMul, reduceIte, reduceCtorEq, Int.reduceEq, Int.reduceLT, Int.reduceLE, Int.reduceNe]
            refine call_v (spec_l1Upper_c c) ?_
            simp only [WA, Nat.reduceEqDiff, Nat.reduceAdd, Nat.reduceLT, Nat.reduceLeDiff, Nat.reduceMul, reduceIte, reduceCtorEq, Int.reduceEq, Int.reduceLT, Int.reduceLE, Int.reduceNe]
            refine ite_intro (fun h3 => ?_) (fun h3 => ?_)
            · have h3' : upB c = true := h3
              simp only [h3', Bool.or_true, Bool.true_or, WA, Nat.reduceEqDiff, Nat.reduceAdd, Nat.reduceLT, Nat.reduceLeDiff, Nat.reduceMul, reduceIte, reduceCtorEq, Int.reduceEq, Int.reduceLT, Int.reduceLE, Int.reduceNe]
            · have h3' : upB c = false := h3
              simp only [WA, Nat.reduceEqDiff, Nat.reduceAdd, Nat.reduceLT, Nat.reduceLeDiff, Nat.reduceMul, reduceIte, reduceCtorEq, Int.reduceEq, Int.reduceLT, Int.reduceLE, Int.reduceNe]
              refine ite_dec (fun h4 => ?_) (fun h4 => ?_)
              · simp only [hw1, WA, Nat.reduceEqDiff, Nat.reduceAdd, Nat.reduceLT, Nat.reduceLeDiff, Nat.reduceMul, reduceIte, reduceCtorEq, Int.reduceEq, Int.reduceLT, Int.reduceLE, Int.reduceNe]
                refine ite_dec (fun h5 => ?_) (fun h5 => ?_)
                · have hlt2 : k + 1 < (bs s).length := by omega
                  have hx2 : (bs s)[k + 1]? = some (bs s)[k + 1] := List.getElem?_eq_getElem hlt2
                  obtain ⟨d0, d1⟩ := bs_range (List.getElem_mem hlt2)
                  have hdr2 := dropC hlt2
                  generalize hc2 : (bs s)[k + 1] = d at hx2 hdr2 d0 d1
                  have hix2 := idxX hx2
                  have hrd : hdB lowB r = lowB d := by rw [← htl, hdr2]; rfl
                  simp only [hw1, hix2, wrap8 d0 d1, WA, Nat.reduceEqDiff, Nat.reduceAdd, Nat.reduceLT, Nat.reduceLeDiff, Nat.reduceMul, reduceIte, reduceCtorEq, Int.reduceEq, Int.reduceLT, Int.reduceLE, Int.reduceNe]
                  refine call_v (spec_l1Lower_c d) ?_
                  have hv : (lowB c || upB c || (decide (c = 39) && hdB lowB r)) = lowB d := by rw [h2', h3', hrd, decide_eq_true h4]; simp
                  rw [hv]
                  simp only [lowB, WA, Nat.reduceEqDiff, Nat.reduceAdd, Nat.reduceLT, Nat.reduceLeDiff, Nat.reduceMul, reduceIte, reduceCtorEq, Int.reduceEq, Int.reduceLT, Int.reduceLE, Int.reduceNe]
                · have hrn : r = [] := by
                    rw [← htl]; exact List.drop_eq_nil_of_le (by omega)
                  simp only [h2', h3', hrn, hdB, Bool.and_false, Bool.or_self, WA, Nat.reduceEqDiff, Nat.reduceAdd, Nat.reduceLT, Nat.reduceLeDiff, Nat.reduceMul, reduceIte, reduceCtorEq, Int.reduceEq, Int.reduceLT, Int.reduceLE, Int.reduceNe]
              · simp only [h2', h3', h4, decide_false, Bool.false_and, Bool.or_self, WA, Nat.reduceEqDiff, Nat.reduceAdd, Nat.reduceLT, Nat.reduceLeDiff, Nat.reduceMul, reduceIte, reduceCtorEq, Int.reduceEq, Int.reduceLT, Int.reduceLE, Int.reduceNe]
        · simp only [WA, Nat.reduceEqDiff, Nat.reduceAdd, Nat.reduceLT, Nat.reduceLeDiff, Nat.reduceMul, reduceIte, reduceCtorEq, Int.reduceEq, Int.reduceLT, Int.reduceLE, Int.reduceNe]
          refine ite_intro (fun h2 => ?_) (fun h2 => ?_)
          · simp only [WA, Nat.reduceEqDiff, Nat.reduceAdd, Nat.reduceLT, Nat.reduceLeDiff, Nat.reduceMul, reduceIte, reduceCtorEq, Int.reduceEq, Int.reduceLT, Int.reduceLE, Int.reduceNe]
            have hn39 : lowB c = true ∨ upB c = true → c ≠ 39 := by
              simp only [lowB, upB, inB, Bool.and_eq_true, decide_eq_true_eq]
              omega
            refine call_p (spec_l1Word_c s k hk hs l hlk _ rfl) (by simp [AV.noref, AV.norefs, VToken.noref]) ?_
            simp only [VToken.isAgg, VToken.width, VToken.storable, VToken.cells, VToken.eta, retT_ex, WA, Nat.reduceEqDiff, Nat.reduceAdd, Nat.reduceLT, Nat.reduceLeDiff, Nat.reduceMul, reduceIte, reduceCtorEq, Int.reduceEq, Int.reduceLT, Int.reduceLE, Int.reduceNe]
            refine fin _ _ _ ?_
            unfold tokR
            by_cases h3 : lowB c = true ∨ upB c = true
            · have h39 := hn39 h3
              have hf : wordFrom l = 0 := by unfold wordFrom; rw [hh, if_neg (by simpa using h39)]
              have ht : wordTok l k = ⟨if upB c = true then 4 else if isKeyM (ofL (wordL l)) = true then 6 else 3, ofL (wordL l), 0, k⟩ := by
                unfold wordTok; rw [hh, if_neg (by simpa using h39), show hdB upB l = upB c by rw [hlc]; rfl]
              rw [hlc, lexM, if_neg (by simp [h1']), if_pos h3, ← hlc, hf, List.drop_zero, ht]
              by_cases hb : 12 < (wordL l).length
              · rw [if_pos hb, if_pos hb]
              · rw [if_neg hb, if_neg hb, if_neg hb]
                exact ⟨rfl, rfl, rfl⟩
            · have h4 : c = 39 ∧ hdB lowB r = true := by
                simp only [not_or, Bool.not_eq_true] at h3
                simpa [h3.1, h3.2] using h2
              have hf : wordFrom l = 1 := by unfold wordFrom; rw [hh, h4.1, if_pos rfl]
              have ht : wordTok l k = ⟨5, ofL (wordL r), 0, k⟩ := by
                unfold wordTok; rw [hh, h4.1, if_pos rfl, hr]
              rw [hlc, lexM, if_neg (by simp [h1']), if_neg h3, if_pos h4, ← hlc, hf, hr, ht]
              by_cases hb : 12 < (wordL r).length
              · rw [if_pos hb, if_pos hb]
              · rw [if_neg hb, if_neg hb, if_neg hb]
                exact ⟨rfl, rfl, by simp only; omega⟩
          · simp only [WA, Nat.reduceEqDiff, Nat.reduceAdd, Nat.reduceLT, Nat.reduceLeDiff, Nat.reduceMul, reduceIte, reduceCtorEq, Int.reduceEq, Int.reduceLT, Int.reduceLE, Int.reduceNe]
            refine ite_dec (fun h3 => ?_) (fun h3 => ?_)
            · obtain ⟨nx, hst⟩ := spec_l1String_c s k hk hs (strM r) (by rw [htl])
              simp only [WA, Nat.reduceEqDiff, Nat.reduceAdd, Nat.reduceLT, Nat.reduceLeDiff, Nat.reduceMul, reduceIte, reduceCtorEq, Int.reduceEq, Int.reduceLT, Int.reduceLE, Int.reduceNe]
              refine call_p hst (by simp [AV.noref, AV.norefs, VToken.noref]) ?_
              simp only [VToken.isAgg, VToken.width, VToken.storable, VToken.cells, VToken.eta, retT_ex, WA, Nat.reduceEqDiff, Nat.reduceAdd, Nat.reduceLT, Nat.reduceLeDiff, Nat.reduceMul, reduceIte, reduceCtorEq, Int.reduceEq, Int.reduceLT, Int.reduceLE, Int.reduceNe]
              refine fin _ _ _ ?_
              simp only [Bool.or_eq_false_iff] at h2
              unfold tokR
              rw [hlc, lexM, if_neg (by simp [h1']), if_neg (by simp [h2.1.1, h2.1.2]), if_neg (by omega), if_pos h3]
              cases hq : strM r with
              | none => rfl
              | some q => exact ⟨rfl, rfl, by simp only [strNx]; omega⟩
            · simp only [WA, Nat.reduceEqDiff, Nat.reduceAdd, Nat.reduceLT, Nat.reduceLeDiff, Nat.reduceMul, reduceIte, reduceCtorEq, Int.reduceEq, Int.reduceLT, Int.reduceLE, Int.reduceNe]
              exact ⟨h1', h2, h3⟩
    · rintro vs ⟨h1, h2, h3⟩ hlen
      obtain rfl := List.eq_nil_of_length_eq_zero hlen
      simp only [Bool.or_eq_false_iff] at h2
      have hlx : lexM l k = signTok (signM l) k := by
        rw [hlc, lexM, if_neg (by simp [h1]), if_neg (by simp [h2.1.1, h2.1.2]), if_neg (by have := h2.2; simpa using this), if_neg h3]
      simp only [WA, Nat.reduceEqDiff, Nat.reduceAdd, Nat.reduceLT, Nat.reduceLeDiff, Nat.reduceMul, reduceIte, reduceCtorEq, Int.reduceEq, Int.reduceLT, Int.reduceLE, Int.reduceNe]
      refine call_p spec_l1Signs_c (norefsM (f := avB) fun _ => rfl) ?_
      simp only [WA, Nat.reduceEqDiff, Nat.reduceAdd, Nat.reduceLT, Nat.reduceLeDiff, Nat.reduceMul, reduceIte, reduceCtorEq, Int.reduceEq, Int.reduceLT, Int.reduceLE, Int.reduceNe]
      refine bind_post (fun _ => signM l = none) ?_ ?_
      · simp only [WA, Nat.reduceEqDiff, Nat.reduceAdd, Nat.reduceLT, Nat.reduceLeDiff, Nat.reduceMul, reduceIte, reduceCtorEq, Int.reduceEq, Int.reduceLT, Int.reduceLE, Int.reduceNe]
        refine loop_list signsM (fun i (_ : Unit) => [avI i]) (fun _ rest _ => signM l = rest.find? fun y => (bs y).isPrefixOf l) () rfl rfl (fun i y rest _ hi hy hm hel hd hg => ?_) (fun _ hd hg => ?_)
        · have hys := sign_size hm
          have hwy : IntKind.i64.wrap ((k : Int) + (y.size : Int)) = ((k + y.size : Nat) : Int) := wrapA (by omega)
          simp (disch := (first | rfl | exact rfl | (simp only [cells_v, List.length_cons, List.length_nil]; done))) only [hel, hd, List.length_map, WA, Nat.reduceEqDiff, Nat.reduceAdd, Nat.reduceLT, Nat.reduceLeDiff, Nat.reduceMul, reduceIte, reduceCtorEq, Int.reduceEq, Int.reduceLT, Int.reduceLE, Int.reduceNe]
          refine bind_push ?_
          simp (disch := (first | rfl | exact rfl | (simp only [cells_v, List.length_cons, List.length_nil]; done))) only [hel, hd, List.length_map, hwy, WA, Nat.reduceEqDiff, Nat.reduceAdd, Nat.reduceLT, Nat.reduceLeDiff, Nat.reduceMul, reduceIte, reduceCtorEq, Int.reduceEq, Int.reduceLT, Int.reduceLE, Int.reduceNe]
          refine bind_push ?_
          simp (disch := (first | rfl | exact rfl | (simp only [cells_v, List.length_cons, List.length_nil]; done))) only [hel, hd, List.length_map, hwy, WA, Nat.reduceEqDiff, Nat.reduceAdd, Nat.reduceLT, Nat.reduceLeDiff, Nat.reduceMul, reduceIte, reduceCtorEq, Int.reduceEq, Int.reduceLT, Int.reduceLE, Int.reduceNe]
          have next : ((bs y).isPrefixOf l) = false → i < signsM.length ∧ ∃ b' : Unit, (signM l = rest.find? fun y => (bs y).isPrefixOf l) ∧ [avI (IntKind.i64.wrap ((i : Int) + 1))] = [avI (i + 1 : Nat)] := by
            intro hp
            refine ⟨hi, (), ?_, ?_⟩
            · rw [hg, List.find?_cons_of_neg (by simp [hp])]
            · rw [wrapA1 (by have : signsM.length = 15 := rfl; omega)]
          refine ite_dec (fun h4 => ?_) (fun h4 => ?_)
          · have hp := prefix_ext s y k (by omega)
            rw [← hlk] at hp
            simp (disch := (first | rfl | exact rfl | (simp only [cells_v, List.length_cons, List.length_nil]; done))) only [hel, hd, List.length_map, hwy, Int.toNat_natCast, WA, Nat.reduceEqDiff, Nat.reduceAdd, Nat.reduceLT, Nat.reduceLeDiff, Nat.reduceMul, reduceIte, reduceCtorEq, Int.reduceEq, Int.reduceLT, Int.reduceLE, Int.reduceNe]
            refine ⟨by omega, by omega, ?_⟩
            try simp (disch := (first | rfl | exact rfl | (simp only [cells_v, List.length_cons, List.length_nil]; done))) only [hel, hd, List.length_map, hwy, Int.toNat_natCast, WA, Nat.reduceEqDiff, Nat.reduceAdd, Nat.reduceLT, Nat.reduceLeDiff, Nat.reduceMul, reduceIte, reduceCtorEq, Int.reduceEq, Int.reduceLT, Int.reduceLE, Int.reduceNe]
            refine ite_dec (fun h5 => ?_) (fun h5 => ?_)
            · have hsm : signM l = some y := by rw [hg, List.find?_cons_of_pos (by simp [hp, h5])]
              simp (disch := (first | rfl | exact rfl | (simp only [cells_v, List.length_cons, List.length_nil]; done))) only [hel, hd, List.length_map, hwy, retT_ex, WA, Nat.reduceEqDiff, Nat.reduceAdd, Nat.reduceLT, Nat.reduceLeDiff, Nat.reduceMul, reduceIte, reduceCtorEq, Int.reduceEq, Int.reduceLT, Int.reduceLE, Int.reduceNe]
              have := fin ⟨7, y, 0, k⟩ (k + y.size : Nat) 0 (by
                unfold tokR; rw [hlx, hsm]; unfold signTok; exact ⟨rfl, rfl, rfl⟩)
              simpa only [tok_av] using this
            · simp (disch := (first | rfl | exact rfl | (simp only [cells_v, List.length_cons, List.length_nil]; done))) only [hel, hd, List.length_map, hwy, WA, Nat.reduceEqDiff, Nat.reduceAdd, Nat.reduceLT, Nat.reduceLeDiff, Nat.reduceMul, reduceIte, reduceCtorEq, Int.reduceEq, Int.reduceLT, Int.reduceLE, Int.reduceNe]
              exact next (by rw [hp]; simpa using h5)
          · have hp := prefix_short s y k (by omega) (by omega)
            rw [← hlk] at hp
            simp (disch := (first | rfl | exact rfl | (simp only [cells_v, List.length_cons, List.length_nil]; done))) only [hel, hd, List.length_map, hwy, WA, Nat.reduceEqDiff, Nat.reduceAdd, Nat.reduceLT, Nat.reduceLeDiff, Nat.reduceMul, reduceIte, reduceCtorEq, Int.reduceEq, Int.reduceLT, Int.reduceLE, Int.reduceNe]
            exact next hp
        · simp only [hd, List.length_map, WA, Nat.reduceEqDiff, Nat.reduceAdd, Nat.reduceLT, Nat.reduceLeDiff, Nat.reduceMul, reduceIte, reduceCtorEq, Int.reduceEq, Int.reduceLT, Int.reduceLE, Int.reduceNe]
          rw [hg]; rfl
      · intro vs hv _
        simp only [retT_ex, WA, Nat.reduceEqDiff, Nat.reduceAdd, Nat.reduceLT, Nat.reduceLeDiff, Nat.reduceMul, reduceIte, reduceCtorEq, Int.reduceEq, Int.reduceLT, Int.reduceLE, Int.reduceNe]
        have := fin zTok k 1 (by unfold tokR; rw [hlx, hv]; rfl)
        simpa only [zTok, tok_av] using this
  obtain ⟨outs, h1, ⟨tok, nx, code, rfl, hR⟩, h2⟩ := key
  exact ⟨tok, nx, code, T.spec_l1Token_con rfl rfl h2, hR⟩
theorem skipB_head {c : Int} {r : List Int} (h : skipB false (c :: r) = 0) : blankB c = false ∧ c ≠ 35 := by
  unfold skipB at h
  split at h
  · omega
  · rename_i h1
    split at h
    · omega
    · rename_i h2; exact ⟨by simpa using h1, h2⟩
theorem spec_Lex_c (s : ByteArray) (hs : s.size ≤ 1048576) : PCon Tryd.prog F.spec_Lex [avB s] (.tup [.sl ((lexAllM s).1.map VToken.av), fAV (lexAllM s).2]) := by
  have hl := bs_len s
  refine T.spec_Lex_con rfl rfl ?_
  simp only [T.spec_Lex, WA, Nat.reduceEqDiff, Nat.reduceAdd, Nat.reduceLT, Nat.reduceLeDiff, Nat.reduceMul, reduceIte, reduceCtorEq, Int.reduceEq, Int.reduceLT, Int.reduceLE, Int.reduceNe]
  refine ite_dec (fun h => ?_) (fun h => ?_)
  · have hm : lexAllM s = ([], (5, 0)) := by unfold lexAllM; rw [if_pos (by omega)]
    simp only [hm, List.map_nil, WA, Nat.reduceEqDiff, Nat.reduceAdd, Nat.reduceLT, Nat.reduceLeDiff, Nat.reduceMul, reduceIte, reduceCtorEq, Int.reduceEq, Int.reduceLT, Int.reduceLE, Int.reduceNe]
  · have hm : lexAllM s = allM 1200 (bs s) 0 [] := by unfold lexAllM; rw [if_neg (by omega)]
    rw [allM_skip, Nat.zero_add] at hm
    generalize hq : lexAllM s = q at hm
    simp only [WA, Nat.reduceEqDiff, Nat.reduceAdd, Nat.reduceLT, Nat.reduceLeDiff, Nat.reduceMul, reduceIte, reduceCtorEq, Int.reduceEq, Int.reduceLT, Int.reduceLE, Int.reduceNe]
    refine bind_post (fun vs => ∃ acc : List VToken, vs = [.sl (acc.map VToken.av)] ∧ acc.length ≤ 1200 ∧ q = (acc ++ [⟨8, ⟨#[]⟩, 0, (s.size : Nat)⟩], (0, 0))) ?_ ?_
    · simp only [WA, Nat.reduceEqDiff, Nat.reduceAdd, Nat.reduceLT, Nat.reduceLeDiff, Nat.reduceMul, reduceIte, reduceCtorEq, Int.reduceEq, Int.reduceLT, Int.reduceLE, Int.reduceNe]
      have hsk := skipB_le false (bs s)
      have h0 := spec_l1Skip_c s 0 (Nat.zero_le _) hs
      rw [List.drop_zero, Nat.zero_add] at h0
      refine call_v h0 ?_
      simp only [WA, Nat.reduceEqDiff, Nat.reduceAdd, Nat.reduceLT, Nat.reduceLeDiff, Nat.reduceMul, reduceIte, reduceCtorEq, Int.reduceEq, Int.reduceLT, Int.reduceLE, Int.reduceNe]
      refine loop_intro (ι := Nat × List VToken) (fun z => z.1 ≤ s.size ∧ z.2.length ≤ 1200 ∧ skipB false ((bs s).drop z.1) = 0 ∧ q = allM 1200 ((bs s).drop z.1) z.1 z.2) (fun z => [.sl (z.2.map VToken.av), avI z.1]) (fun z => s.size - z.1) (skipB false (bs s), [])
        ⟨by simp only; omega, by simp, skipB_again (bs s), hm⟩ rfl ?_
      rintro ⟨k, acc⟩ ⟨hk, hal, hz, hI⟩
      simp only at hk hal hz hI
      simp only [WA, Nat.reduceEqDiff, Nat.reduceAdd, Nat.reduceLT, Nat.reduceLeDiff, Nat.reduceMul, reduceIte, reduceCtorEq, Int.reduceEq, Int.reduceLT, Int.reduceLE, Int.reduceNe]
      refine ite_dec (fun h1 => ?_) (fun h1 => ?_)
      · have hlt : k < (bs s).length := by omega
        obtain ⟨tok, nx, code, hcon, hR⟩ := spec_l1Token_c s k (by omega) hs _ rfl
        have hdr := dropC hlt
        unfold tokR at hR
        rw [hdr] at hI hz hR
        obtain ⟨hb1, hb2⟩ := skipB_head hz
        rw [allM_tok 1200 hb1 hb2] at hI
        simp only [WA, Nat.reduceEqDiff, Nat.reduceAdd, Nat.reduceLT, Nat.reduceLeDiff, Nat.reduceMul, reduceIte, reduceCtorEq, Int.reduceEq, Int.reduceLT, Int.reduceLE, Int.reduceNe]
        refine bind_push ?_
        simp only [WA, Nat.reduceEqDiff, Nat.reduceAdd, Nat.reduceLT, Nat.reduceLeDiff, Nat.reduceMul, reduceIte, reduceCtorEq, Int.reduceEq, Int.reduceLT, Int.reduceLE, Int.reduceNe]
        refine call_p hcon (by simp [AV.noref, AV.norefs, VToken.noref]) ?_
        simp only [VToken.isAgg, VToken.width, VToken.storable, VToken.cells, VToken.eta, List.length_map, WA, Nat.reduceEqDiff, Nat.reduceAdd, Nat.reduceLT, Nat.reduceLeDiff, Nat.reduceMul, reduceIte, reduceCtorEq, Int.reduceEq, Int.reduceLT, Int.reduceLE, Int.reduceNe]
        refine bind_push ?_
        simp only [WA, Nat.reduceEqDiff, Nat.reduceAdd, Nat.reduceLT, Nat.reduceLeDiff, Nat.reduceMul, reduceIte, reduceCtorEq, Int.reduceEq, Int.reduceLT, Int.reduceLE, Int.reduceNe]
        refine bind_push ?_
        simp only [VToken.isAgg, VToken.width, VToken.storable, VToken.cells, VToken.eta, List.length_map, WA, Nat.reduceEqDiff, Nat.reduceAdd, Nat.reduceLT, Nat.reduceLeDiff, Nat.reduceMul, reduceIte, reduceCtorEq, Int.reduceEq, Int.reduceLT, Int.reduceLE, Int.reduceNe]
        cases hlx : lexM ((bs s)[k] :: (bs s).drop (k + 1)) k with
        | inl e =>
          rw [hlx] at hI hR
          have he := lexM_code hlx
          simp only at hR hI
          subst hR
          simp only [he, decide_false, Bool.not_false, VToken.isAgg, VToken.width, VToken.storable, VToken.cells, VToken.eta, List.length_map, WA, Nat.reduceEqDiff, Nat.reduceAdd, Nat.reduceLT, Nat.reduceLeDiff, Nat.reduceMul, reduceIte, reduceCtorEq, Int.reduceEq, Int.reduceLT, Int.reduceLE, Int.reduceNe]
          rw [hI]
          simp only [List.map_nil]
        | inr p =>
          obtain ⟨t, n⟩ := p
          rw [hlx] at hI hR
          obtain ⟨hp1, hp2⟩ := lexM_pos hlx
          simp only at hR hI
          obtain ⟨rfl, rfl, rfl⟩ := hR
          have hp3 : k + n ≤ s.size := by
            have := List.length_drop (i := k) (l := bs s)
            rw [hdr] at this
            rw [this] at hp2
            omega
          simp only [decide_true, VToken.isAgg, VToken.width, VToken.storable, VToken.cells, VToken.eta, List.length_map, WA, Nat.reduceEqDiff, Nat.reduceAdd, Nat.reduceLT, Nat.reduceLeDiff, Nat.reduceMul, reduceIte, reduceCtorEq, Int.reduceEq, Int.reduceLT, Int.reduceLE, Int.reduceNe]
          by_cases h12 : acc.length = 1200
          · rw [if_pos h12] at hI
            simp only [h12, show decide (((1200 : Nat) : Int) = 1200) = true from rfl, show decide ((5 : Int) = 0) = false from rfl, Bool.not_false, VToken.isAgg, VToken.width, VToken.storable, VToken.cells, VToken.eta, List.length_map, WA, Nat.reduceEqDiff, Nat.reduceAdd, Nat.reduceLT, Nat.reduceLeDiff, Nat.reduceMul, reduceIte, reduceCtorEq, Int.reduceEq, Int.reduceLT, Int.reduceLE, Int.reduceNe]
            rw [hI]
            simp only [List.map_nil]
          · rw [if_neg h12] at hI
            simp only [show decide ((acc.length : Int) = 1200) = false from by simp; omega, show decide ((0 : Int) = 0) = true from rfl, Bool.not_true, VToken.isAgg, VToken.width, VToken.storable, VToken.cells, VToken.eta, List.length_map, List.length_cons, List.length_nil, WA, Nat.reduceEqDiff, Nat.reduceAdd, Nat.reduceLT, Nat.reduceLeDiff, Nat.reduceMul, reduceIte, reduceCtorEq, Int.reduceEq, Int.reduceLT, Int.reduceLE, Int.reduceNe]
            repeat (refine And.intro (by first | omega | rfl | (intro y hy; subst hy; first | rfl | exact VToken.width _)) ?_)
            have hsk2 := skipB_le false ((bs s).drop (k + n))
            rw [List.length_drop] at hsk2
            refine call_v (spec_l1Skip_c s (k + n) hp3 hs) ?_
            simp only [WA, Nat.reduceEqDiff, Nat.reduceAdd, Nat.reduceLT, Nat.reduceLeDiff, Nat.reduceMul, reduceIte, reduceCtorEq, Int.reduceEq, Int.reduceLT, Int.reduceLE, Int.reduceNe]
            have hdd : ((bs s)[k] :: (bs s).drop (k + 1)).drop n = (bs s).drop (k + n) := by rw [← hdr, List.drop_drop]
            rw [hdd, allM_skip] at hI
            refine ⟨(k + n + skipB false ((bs s).drop (k + n)), acc ++ [tok]), ⟨by simp only; omega, by simp; omega, ?_, ?_⟩, by simp only; omega, ?_⟩
            · simp only
              rw [← List.drop_drop]
              exact skipB_again _
            · simp only
              rw [hI, List.drop_drop]
            · simp only [List.map_append, List.map_cons, List.map_nil]
      · have he : k = (bs s).length := by omega
        subst he
        rw [dropE, allM_nil] at hI
        simp only [WA, Nat.reduceEqDiff, Nat.reduceAdd, Nat.reduceLT, Nat.reduceLeDiff, Nat.reduceMul, reduceIte, reduceCtorEq, Int.reduceEq, Int.reduceLT, Int.reduceLE, Int.reduceNe]
        refine ⟨acc, rfl, hal, ?_⟩
        rw [hI, hl]
    · rintro vs ⟨acc, rfl, hal, rfl⟩ _
      simp only [List.length_map, List.length_cons, List.length_nil, WA, Nat.reduceEqDiff, Nat.reduceAdd, Nat.reduceLT, Nat.reduceLeDiff, Nat.reduceMul, reduceIte, reduceCtorEq, Int.reduceEq, Int.reduceLT, Int.reduceLE, Int.reduceNe]
      repeat (refine And.intro (by first | omega | rfl | (intro y hy; subst hy; first | rfl | exact VToken.width _)) ?_)
      simp only [List.map_append, List.map_cons, List.map_nil, tok_av, WA, Nat.reduceEqDiff, Nat.reduceAdd, Nat.reduceLT, Nat.reduceLeDiff, Nat.reduceMul, reduceIte, reduceCtorEq, Int.reduceEq, Int.reduceLT, Int.reduceLE, Int.reduceNe]
end Go.Proofs.Ab
