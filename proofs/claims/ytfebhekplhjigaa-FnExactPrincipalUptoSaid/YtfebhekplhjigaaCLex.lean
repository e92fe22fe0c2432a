/-
  BYTES, NAMES, WORDS: what the lexer's small tests compute.
-/
import Derived.Test.YtfebhekplhjigaaH
import Derived.Test.YtfebhekplhjigaaSL
set_option linter.unusedVariables false
set_option linter.unusedSimpArgs false
set_option linter.defProp false
namespace Go.Ab
set_option maxRecDepth 100000
set_option maxHeartbeats 4000000
def inB (n lo hi : Int) : Bool := decide (lo ≤ n) && decide (n ≤ hi)
def nameB (c : Int) : Bool := inB c 97 122 || inB c 65 90 || inB c 48 57 || decide (c = 95)
def nameL (f : Int → Bool) : List Int → Bool
  | [] => false
  | c :: r => decide (r.length + 1 ≤ 12) && f c && (c :: r).all nameB
def isNameM (f : Int → Bool) (s : ByteArray) : Bool := nameL f (bs s)
def keysM : List ByteArray := [⟨#[116, 121, 112, 101]⟩, ⟨#[111, 102]⟩, ⟨#[108, 101, 116]⟩, ⟨#[114, 101, 99]⟩, ⟨#[105, 110]⟩, ⟨#[102, 117, 110]⟩, ⟨#[105, 102]⟩, ⟨#[116, 104, 101, 110]⟩, ⟨#[101, 108, 115, 101]⟩, ⟨#[109, 97, 116, 99, 104]⟩, ⟨#[119, 105, 116, 104]⟩, ⟨#[101, 110, 100]⟩, ⟨#[116, 114, 117, 101]⟩, ⟨#[102, 97, 108, 115, 101]⟩, ⟨#[114, 101, 102]⟩, ⟨#[114, 101, 97, 100]⟩, ⟨#[112, 114, 105, 110, 116]⟩, ⟨#[101, 120, 105, 116]⟩, ⟨#[115, 105, 122, 101]⟩]
def isKeyM (s : ByteArray) : Bool := keysM.any fun y => decide (s = y)
def lowM (s : ByteArray) : Bool := isNameM (fun c => inB c 97 122) s && !isKeyM s
theorem nameL_first (f : Int → Bool) {l : List Int} (h : 0 < l.length) (h12 : l.length ≤ 12) : nameL f l = (f l[0] && l.all nameB) := by
  cases l with
  | nil => simp at h
  | cons c r => simp only [List.length_cons] at h12; simp only [nameL, List.getElem_cons_zero, decide_eq_true h12, Bool.true_and]
theorem tw_all {α : Type} (p : α → Bool) : ∀ l : List α, decide ((l.takeWhile p).length = l.length) = l.all p
  | [] => rfl
  | x :: l => by
    simp only [List.takeWhile_cons, List.all_cons]
    split
    · rename_i h; simp [h, ← tw_all p l]
    · rename_i h; simp [h]
end Go.Ab
namespace Go.Proofs.Ab
open Go.Ab
set_option maxRecDepth 100000
set_option maxHeartbeats 4000000
theorem spec_l1In_c (n lo hi : Int) : PCon Try.prog F.spec_l1In [avI n, avI lo, avI hi] (.v (.bool (inB n lo hi))) := by
  refine T.spec_l1In_con rfl rfl ?_
  simp only [T.spec_l1In, WA, Nat.reduceEqDiff, Nat.reduceAdd, Nat.reduceLT, Nat.reduceLeDiff, Nat.reduceMul, reduceIte, reduceCtorEq, Int.reduceEq, Int.reduceLT, Int.reduceLE, Int.reduceNe]
  repeat' (first | (simp (disch := omega) only [WA, Nat.reduceEqDiff, Nat.reduceAdd, Nat.reduceLT, Nat.reduceLeDiff, Nat.reduceMul, reduceIte, reduceCtorEq, Int.reduceEq, Int.reduceLT, Int.reduceLE, Int.reduceNe]) | (refine ite_dec (fun _ => ?_) (fun _ => ?_)) | (refine ite_ndec (fun _ => ?_) (fun _ => ?_)) | (refine ite_intro (fun _ => ?_) (fun _ => ?_)) | (refine bind_push ?_))
  all_goals simp [inB, *]
theorem impl_within_c (n lo hi : Int) : PCon Try.prog F.impl_within [avI n, avI lo, avI hi] (.v (.bool (inB n lo hi))) := by
  refine T.impl_within_con rfl rfl ?_
  simp only [T.impl_within, WA, Nat.reduceEqDiff, Nat.reduceAdd, Nat.reduceLT, Nat.reduceLeDiff, Nat.reduceMul, reduceIte, reduceCtorEq, Int.reduceEq, Int.reduceLT, Int.reduceLE, Int.reduceNe]
  repeat' (first | (simp (disch := omega) only [WA, Nat.reduceEqDiff, Nat.reduceAdd, Nat.reduceLT, Nat.reduceLeDiff, Nat.reduceMul, reduceIte, reduceCtorEq, Int.reduceEq, Int.reduceLT, Int.reduceLE, Int.reduceNe]) | (refine ite_dec (fun _ => ?_) (fun _ => ?_)) | (refine ite_ndec (fun _ => ?_) (fun _ => ?_)) | (refine ite_intro (fun _ => ?_) (fun _ => ?_)) | (refine bind_push ?_))
  all_goals simp [inB, *]
theorem impl_small_c (c : Int) : PCon Try.prog F.impl_small [.v (.int .u8 c)] (.v (.bool (inB c 97 122))) := by
  refine T.impl_small_con rfl rfl ?_
  simp only [T.impl_small, WA, Nat.reduceEqDiff, Nat.reduceAdd, Nat.reduceLT, Nat.reduceLeDiff, Nat.reduceMul, reduceIte, reduceCtorEq, Int.reduceEq, Int.reduceLT, Int.reduceLE, Int.reduceNe]
  repeat' (first | (simp (disch := omega) only [WA, Nat.reduceEqDiff, Nat.reduceAdd, Nat.reduceLT, Nat.reduceLeDiff, Nat.reduceMul, reduceIte, reduceCtorEq, Int.reduceEq, Int.reduceLT, Int.reduceLE, Int.reduceNe]) | (refine ite_dec (fun _ => ?_) (fun _ => ?_)) | (refine ite_ndec (fun _ => ?_) (fun _ => ?_)) | (refine ite_intro (fun _ => ?_) (fun _ => ?_)) | (refine bind_push ?_))
  all_goals simp [inB, *]
theorem impl_great_c (c : Int) : PCon Try.prog F.impl_great [.v (.int .u8 c)] (.v (.bool (inB c 65 90))) := by
  refine T.impl_great_con rfl rfl ?_
  simp only [T.impl_great, WA, Nat.reduceEqDiff, Nat.reduceAdd, Nat.reduceLT, Nat.reduceLeDiff, Nat.reduceMul, reduceIte, reduceCtorEq, Int.reduceEq, Int.reduceLT, Int.reduceLE, Int.reduceNe]
  repeat' (first | (simp (disch := omega) only [WA, Nat.reduceEqDiff, Nat.reduceAdd, Nat.reduceLT, Nat.reduceLeDiff, Nat.reduceMul, reduceIte, reduceCtorEq, Int.reduceEq, Int.reduceLT, Int.reduceLE, Int.reduceNe]) | (refine ite_dec (fun _ => ?_) (fun _ => ?_)) | (refine ite_ndec (fun _ => ?_) (fun _ => ?_)) | (refine ite_intro (fun _ => ?_) (fun _ => ?_)) | (refine bind_push ?_))
  all_goals simp [inB, *]
theorem impl_digit_c (c : Int) : PCon Try.prog F.impl_digit [.v (.int .u8 c)] (.v (.bool (inB c 48 57))) := by
  refine T.impl_digit_con rfl rfl ?_
  simp only [T.impl_digit, WA, Nat.reduceEqDiff, Nat.reduceAdd, Nat.reduceLT, Nat.reduceLeDiff, Nat.reduceMul, reduceIte, reduceCtorEq, Int.reduceEq, Int.reduceLT, Int.reduceLE, Int.reduceNe]
  repeat' (first | (simp (disch := omega) only [WA, Nat.reduceEqDiff, Nat.reduceAdd, Nat.reduceLT, Nat.reduceLeDiff, Nat.reduceMul, reduceIte, reduceCtorEq, Int.reduceEq, Int.reduceLT, Int.reduceLE, Int.reduceNe]) | (refine ite_dec (fun _ => ?_) (fun _ => ?_)) | (refine ite_ndec (fun _ => ?_) (fun _ => ?_)) | (refine ite_intro (fun _ => ?_) (fun _ => ?_)) | (refine bind_push ?_))
  all_goals simp [inB, *]
theorem impl_nameByte_c (c : Int) : PCon Try.prog F.impl_nameByte [.v (.int .u8 c)] (.v (.bool (nameB c))) := by
  refine T.impl_nameByte_con rfl rfl ?_
  simp only [T.impl_nameByte, WA, Nat.reduceEqDiff, Nat.reduceAdd, Nat.reduceLT, Nat.reduceLeDiff, Nat.reduceMul, reduceIte, reduceCtorEq, Int.reduceEq, Int.reduceLT, Int.reduceLE, Int.reduceNe]
  repeat' (first | (simp (disch := omega) only [WA, Nat.reduceEqDiff, Nat.reduceAdd, Nat.reduceLT, Nat.reduceLeDiff, Nat.reduceMul, reduceIte, reduceCtorEq, Int.reduceEq, Int.reduceLT, Int.reduceLE, Int.reduceNe]) | (refine ite_dec (fun _ => ?_) (fun _ => ?_)) | (refine ite_ndec (fun _ => ?_) (fun _ => ?_)) | (refine ite_intro (fun _ => ?_) (fun _ => ?_)) | (refine bind_push ?_) | (refine call_v (impl_small_c _) ?_) | (refine call_v (impl_great_c _) ?_) | (refine call_v (impl_digit_c _) ?_))
  all_goals simp_all [nameB]
theorem spec_l1Upper_c (c : Int) : PCon Try.prog F.spec_l1Upper [avI c] (.v (.bool (inB c 65 90))) := by
  refine T.spec_l1Upper_con rfl rfl ?_
  simp only [T.spec_l1Upper, WA, Nat.reduceEqDiff, Nat.reduceAdd, Nat.reduceLT, Nat.reduceLeDiff, Nat.reduceMul, reduceIte, reduceCtorEq, Int.reduceEq, Int.reduceLT, Int.reduceLE, Int.reduceNe]
  repeat' (first | (simp (disch := omega) only [WA, Nat.reduceEqDiff, Nat.reduceAdd, Nat.reduceLT, Nat.reduceLeDiff, Nat.reduceMul, reduceIte, reduceCtorEq, Int.reduceEq, Int.reduceLT, Int.reduceLE, Int.reduceNe]) | (refine ite_dec (fun _ => ?_) (fun _ => ?_)) | (refine ite_ndec (fun _ => ?_) (fun _ => ?_)) | (refine ite_intro (fun _ => ?_) (fun _ => ?_)) | (refine bind_push ?_) | (refine call_v (spec_l1In_c _ _ _) ?_))
theorem spec_l1Lower_c (c : Int) : PCon Try.prog F.spec_l1Lower [avI c] (.v (.bool (inB c 97 122))) := by
  refine T.spec_l1Lower_con rfl rfl ?_
  simp only [T.spec_l1Lower, WA, Nat.reduceEqDiff, Nat.reduceAdd, Nat.reduceLT, Nat.reduceLeDiff, Nat.reduceMul, reduceIte, reduceCtorEq, Int.reduceEq, Int.reduceLT, Int.reduceLE, Int.reduceNe]
  repeat' (first | (simp (disch := omega) only [WA, Nat.reduceEqDiff, Nat.reduceAdd, Nat.reduceLT, Nat.reduceLeDiff, Nat.reduceMul, reduceIte, reduceCtorEq, Int.reduceEq, Int.reduceLT, Int.reduceLE, Int.reduceNe]) | (refine ite_dec (fun _ => ?_) (fun _ => ?_)) | (refine ite_ndec (fun _ => ?_) (fun _ => ?_)) | (refine ite_intro (fun _ => ?_) (fun _ => ?_)) | (refine bind_push ?_) | (refine call_v (spec_l1In_c _ _ _) ?_))
theorem spec_l1Num_c (c : Int) : PCon Try.prog F.spec_l1Num [avI c] (.v (.bool (inB c 48 57))) := by
  refine T.spec_l1Num_con rfl rfl ?_
  simp only [T.spec_l1Num, WA, Nat.reduceEqDiff, Nat.reduceAdd, Nat.reduceLT, Nat.reduceLeDiff, Nat.reduceMul, reduceIte, reduceCtorEq, Int.reduceEq, Int.reduceLT, Int.reduceLE, Int.reduceNe]
  repeat' (first | (simp (disch := omega) only [WA, Nat.reduceEqDiff, Nat.reduceAdd, Nat.reduceLT, Nat.reduceLeDiff, Nat.reduceMul, reduceIte, reduceCtorEq, Int.reduceEq, Int.reduceLT, Int.reduceLE, Int.reduceNe]) | (refine ite_dec (fun _ => ?_) (fun _ => ?_)) | (refine ite_ndec (fun _ => ?_) (fun _ => ?_)) | (refine ite_intro (fun _ => ?_) (fun _ => ?_)) | (refine bind_push ?_) | (refine call_v (spec_l1In_c _ _ _) ?_))
theorem spec_l1NameByte_c (c : Int) : PCon Try.prog F.spec_l1NameByte [avI c] (.v (.bool (nameB c))) := by
  refine T.spec_l1NameByte_con rfl rfl ?_
  simp only [T.spec_l1NameByte, WA, Nat.reduceEqDiff, Nat.reduceAdd, Nat.reduceLT, Nat.reduceLeDiff, Nat.reduceMul, reduceIte, reduceCtorEq, Int.reduceEq, Int.reduceLT, Int.reduceLE, Int.reduceNe]
  repeat' (first | (simp (disch := omega) only [WA, Nat.reduceEqDiff, Nat.reduceAdd, Nat.reduceLT, Nat.reduceLeDiff, Nat.reduceMul, reduceIte, reduceCtorEq, Int.reduceEq, Int.reduceLT, Int.reduceLE, Int.reduceNe]) | (refine ite_dec (fun _ => ?_) (fun _ => ?_)) | (refine ite_ndec (fun _ => ?_) (fun _ => ?_)) | (refine ite_intro (fun _ => ?_) (fun _ => ?_)) | (refine bind_push ?_) | (refine call_v (spec_l1Upper_c _) ?_) | (refine call_v (spec_l1Lower_c _) ?_) | (refine call_v (spec_l1Num_c _) ?_))
  all_goals simp_all [nameB]
theorem impl_run_c (s : ByteArray) (g : FuncId) (p : Int → Bool) (hg : ∀ c, 0 ≤ c → c < 256 → PCon Try.prog g [.v (.int .u8 c)] (.v (.bool (p c)))) (k : Nat) (hk : k ≤ s.size) (hs : s.size ≤ 1073741824) :
    PCon Try.prog F.impl_run [avB s, avI k, .fn g []] (avI (k + (((bs s).drop k).takeWhile p).length : Nat)) := by
  have hl := bs_len s
  refine T.impl_run_con rfl rfl ?_
  simp only [T.impl_run, WA, Nat.reduceEqDiff, Nat.reduceAdd, Nat.reduceLT, Nat.reduceLeDiff, Nat.reduceMul, reduceIte, reduceCtorEq, Int.reduceEq, Int.reduceLT, Int.reduceLE, Int.reduceNe]
  refine bind_cut [avI (k + (((bs s).drop k).takeWhile p).length : Nat)] rfl ?_ (by simp only [WA, Nat.reduceEqDiff, Nat.reduceAdd, Nat.reduceLT, Nat.reduceLeDiff, Nat.reduceMul, reduceIte, reduceCtorEq, Int.reduceEq, Int.reduceLT, Int.reduceLE, Int.reduceNe])
  simp only [WA, Nat.reduceEqDiff, Nat.reduceAdd, Nat.reduceLT, Nat.reduceLeDiff, Nat.reduceMul, reduceIte, reduceCtorEq, Int.reduceEq, Int.reduceLT, Int.reduceLE, Int.reduceNe]
  refine loop_intro (ι := Nat) (fun i => i ≤ s.size ∧ k + (((bs s).drop k).takeWhile p).length = i + (((bs s).drop i).takeWhile p).length) (fun i => [avI i]) (fun i => s.size - i) k ⟨hk, rfl⟩ rfl fun i hi => ?_
  obtain ⟨hi, hI⟩ := hi
  simp only [WA, Nat.reduceEqDiff, Nat.reduceAdd, Nat.reduceLT, Nat.reduceLeDiff, Nat.reduceMul, reduceIte, reduceCtorEq, Int.reduceEq, Int.reduceLT, Int.reduceLE, Int.reduceNe]
  refine bind_push ?_
  simp only [WA, Nat.reduceEqDiff, Nat.reduceAdd, Nat.reduceLT, Nat.reduceLeDiff, Nat.reduceMul, reduceIte, reduceCtorEq, Int.reduceEq, Int.reduceLT, Int.reduceLE, Int.reduceNe]
  refine bind_push ?_
  simp only [WA, Nat.reduceEqDiff, Nat.reduceAdd, Nat.reduceLT, Nat.reduceLeDiff, Nat.reduceMul, reduceIte, reduceCtorEq, Int.reduceEq, Int.reduceLT, Int.reduceLE, Int.reduceNe]
  refine ite_dec (fun h => ?_) (fun h => ?_)
  · have hlt : i < (bs s).length := by omega
    obtain ⟨c0, c1⟩ := bs_range (List.getElem_mem hlt)
    rw [dropC hlt, List.takeWhile_cons] at hI
    simp only [WA, Nat.reduceEqDiff, Nat.reduceAdd, Nat.reduceLT, Nat.reduceLeDiff, Nat.reduceMul, reduceIte, reduceCtorEq, Int.reduceEq, Int.reduceLT, Int.reduceLE, Int.reduceNe]
    refine idxB hlt ?_
    simp only [WA, Nat.reduceEqDiff, Nat.reduceAdd, Nat.reduceLT, Nat.reduceLeDiff, Nat.reduceMul, reduceIte, reduceCtorEq, Int.reduceEq, Int.reduceLT, Int.reduceLE, Int.reduceNe]
    refine call_v (hg _ c0 c1) ?_
    simp only [WA, Nat.reduceEqDiff, Nat.reduceAdd, Nat.reduceLT, Nat.reduceLeDiff, Nat.reduceMul, reduceIte, reduceCtorEq, Int.reduceEq, Int.reduceLT, Int.reduceLE, Int.reduceNe]
    refine ite_intro (fun h => ?_) (fun h => ?_)
    · rw [if_pos h] at hI
      simp (disch := omega) only [wrapA1, WA, Nat.reduceEqDiff, Nat.reduceAdd, Nat.reduceLT, Nat.reduceLeDiff, Nat.reduceMul, reduceIte, reduceCtorEq, Int.reduceEq, Int.reduceLT, Int.reduceLE, Int.reduceNe]
      exact ⟨i + 1, ⟨by omega, by rw [hI, List.length_cons]; omega⟩, by omega, rfl⟩
    · rw [h] at hI
      simp only [WA, Nat.reduceEqDiff, Nat.reduceAdd, Nat.reduceLT, Nat.reduceLeDiff, Nat.reduceMul, reduceIte, reduceCtorEq, Int.reduceEq, Int.reduceLT, Int.reduceLE, Int.reduceNe]
      rw [hI]; rfl
  · have he : i = (bs s).length := by omega
    subst he
    rw [dropE] at hI
    simp only [WA, Nat.reduceEqDiff, Nat.reduceAdd, Nat.reduceLT, Nat.reduceLeDiff, Nat.reduceMul, reduceIte, reduceCtorEq, Int.reduceEq, Int.reduceLT, Int.reduceLE, Int.reduceNe]
    rw [hI]; rfl
theorem impl_isName_c (s : ByteArray) (g : FuncId) (p : Int → Bool) (hg : ∀ c, 0 ≤ c → c < 256 → PCon Try.prog g [.v (.int .u8 c)] (.v (.bool (p c)))) (hs : s.size ≤ 1048576) :
    PCon Try.prog F.impl_isName [avB s, .fn g []] (.v (.bool (isNameM p s))) := by
  have hl := bs_len s
  refine T.impl_isName_con rfl rfl ?_
  simp only [T.impl_isName, WA, Nat.reduceEqDiff, Nat.reduceAdd, Nat.reduceLT, Nat.reduceLeDiff, Nat.reduceMul, reduceIte, reduceCtorEq, Int.reduceEq, Int.reduceLT, Int.reduceLE, Int.reduceNe]
  refine bind_push ?_
  simp only [WA, Nat.reduceEqDiff, Nat.reduceAdd, Nat.reduceLT, Nat.reduceLeDiff, Nat.reduceMul, reduceIte, reduceCtorEq, Int.reduceEq, Int.reduceLT, Int.reduceLE, Int.reduceNe]
  refine call_v (impl_within_c _ _ _) ?_
  simp only [WA, Nat.reduceEqDiff, Nat.reduceAdd, Nat.reduceLT, Nat.reduceLeDiff, Nat.reduceMul, reduceIte, reduceCtorEq, Int.reduceEq, Int.reduceLT, Int.reduceLE, Int.reduceNe]
  refine ite_intro (fun h => ?_) (fun h => ?_)
  · simp [inB] at h
    have hlt : 0 < (bs s).length := by omega
    obtain ⟨c0, c1⟩ := bs_range (List.getElem_mem hlt)
    simp only [WA, Nat.reduceEqDiff, Nat.reduceAdd, Nat.reduceLT, Nat.reduceLeDiff, Nat.reduceMul, reduceIte, reduceCtorEq, Int.reduceEq, Int.reduceLT, Int.reduceLE, Int.reduceNe]
    refine idxB (i := 0) hlt ?_
    simp only [WA, Nat.reduceEqDiff, Nat.reduceAdd, Nat.reduceLT, Nat.reduceLeDiff, Nat.reduceMul, reduceIte, reduceCtorEq, Int.reduceEq, Int.reduceLT, Int.reduceLE, Int.reduceNe]
    refine call_v (hg _ c0 c1) ?_
    have hall := tw_all nameB (bs s)
    have hrun := impl_run_c s F.impl_nameByte nameB (fun c _ _ => impl_nameByte_c c) 0 (by omega) (by omega)
    simp only [WA, Nat.reduceEqDiff, Nat.reduceAdd, Nat.reduceLT, Nat.reduceLeDiff, Nat.reduceMul, reduceIte, reduceCtorEq, Int.reduceEq, Int.reduceLT, Int.reduceLE, Int.reduceNe]
    refine ite_intro (fun h' => ?_) (fun h' => ?_)
    · simp only [WA, Nat.reduceEqDiff, Nat.reduceAdd, Nat.reduceLT, Nat.reduceLeDiff, Nat.reduceMul, reduceIte, reduceCtorEq, Int.reduceEq, Int.reduceLT, Int.reduceLE, Int.reduceNe]
      refine call_v hrun ?_
      simp only [WA, Nat.reduceEqDiff, Nat.reduceAdd, Nat.reduceLT, Nat.reduceLeDiff, Nat.reduceMul, reduceIte, reduceCtorEq, Int.reduceEq, Int.reduceLT, Int.reduceLE, Int.reduceNe]
      rw [List.drop_zero]
      unfold isNameM nameL
      cases hb : bs s with
      | nil => rw [hb] at hlt; simp at hlt
      | cons c r =>
        simp only [hb, List.getElem_cons_zero] at h'
        rw [hb] at hall hl
        simp only
        rw [← hall, h', ← hl, decide_eq_true (by simp at hl; omega : r.length + 1 ≤ 12)]
        simp
        omega
    · simp only [WA, Nat.reduceEqDiff, Nat.reduceAdd, Nat.reduceLT, Nat.reduceLeDiff, Nat.reduceMul, reduceIte, reduceCtorEq, Int.reduceEq, Int.reduceLT, Int.reduceLE, Int.reduceNe]
      unfold isNameM nameL
      cases hb : bs s with
      | nil => rfl
      | cons c r =>
        simp only [hb, List.getElem_cons_zero] at h'
        simp [h']
  · simp only [WA, Nat.reduceEqDiff, Nat.reduceAdd, Nat.reduceLT, Nat.reduceLeDiff, Nat.reduceMul, reduceIte, reduceCtorEq, Int.reduceEq, Int.reduceLT, Int.reduceLE, Int.reduceNe]
    unfold isNameM nameL
    cases hb : bs s with
    | nil => rfl
    | cons c r =>
      rw [hb] at hl
      simp [inB] at h hl
      have : ¬ (r.length + 1 ≤ 12) := by omega
      simp [this]
theorem spec_l1Name_c (s : ByteArray) (b : Bool) (hs : s.size ≤ 1048576) :
    PCon Try.prog F.spec_l1Name [avB s, .v (.bool b)] (.v (.bool (isNameM (fun c => if b = true then inB c 65 90 else inB c 97 122) s))) := by
  have hl := bs_len s
  refine T.spec_l1Name_con rfl rfl ?_
  simp only [T.spec_l1Name, WA, Nat.reduceEqDiff, Nat.reduceAdd, Nat.reduceLT, Nat.reduceLeDiff, Nat.reduceMul, reduceIte, reduceCtorEq, Int.reduceEq, Int.reduceLT, Int.reduceLE, Int.reduceNe]
  refine bind_push ?_
  simp only [WA, Nat.reduceEqDiff, Nat.reduceAdd, Nat.reduceLT, Nat.reduceLeDiff, Nat.reduceMul, reduceIte, reduceCtorEq, Int.reduceEq, Int.reduceLT, Int.reduceLE, Int.reduceNe]
  refine bind_push ?_
  simp only [WA, Nat.reduceEqDiff, Nat.reduceAdd, Nat.reduceLT, Nat.reduceLeDiff, Nat.reduceMul, reduceIte, reduceCtorEq, Int.reduceEq, Int.reduceLT, Int.reduceLE, Int.reduceNe]
  refine call_v (spec_l1In_c _ _ _) ?_
  simp only [WA, Nat.reduceEqDiff, Nat.reduceAdd, Nat.reduceLT, Nat.reduceLeDiff, Nat.reduceMul, reduceIte, reduceCtorEq, Int.reduceEq, Int.reduceLT, Int.reduceLE, Int.reduceNe]
  refine ite_intro (fun h => ?_) (fun h => ?_)
  · simp only [WA, Nat.reduceEqDiff, Nat.reduceAdd, Nat.reduceLT, Nat.reduceLeDiff, Nat.reduceMul, reduceIte, reduceCtorEq, Int.reduceEq, Int.reduceLT, Int.reduceLE, Int.reduceNe]
    unfold isNameM nameL
    cases hb : bs s with
    | nil => rfl
    | cons c r =>
      rw [hb] at hl
      simp [inB] at h hl
      have : ¬ (r.length + 1 ≤ 12) := by omega
      simp [this]
  · simp [inB] at h
    have hlt : 0 < (bs s).length := by omega
    obtain ⟨c0, c1⟩ := bs_range (List.getElem_mem hlt)
    simp only [WA, Nat.reduceEqDiff, Nat.reduceAdd, Nat.reduceLT, Nat.reduceLeDiff, Nat.reduceMul, reduceIte, reduceCtorEq, Int.reduceEq, Int.reduceLT, Int.reduceLE, Int.reduceNe]
    refine idxB (i := 0) hlt ?_
    simp only [wrap8 c0 c1, WA, Nat.reduceEqDiff, Nat.reduceAdd, Nat.reduceLT, Nat.reduceLeDiff, Nat.reduceMul, reduceIte, reduceCtorEq, Int.reduceEq, Int.reduceLT, Int.reduceLE, Int.reduceNe]
    refine call_v (spec_l1Upper_c _) ?_
    simp only [WA, Nat.reduceEqDiff, Nat.reduceAdd, Nat.reduceLT, Nat.reduceLeDiff, Nat.reduceMul, reduceIte, reduceCtorEq, Int.reduceEq, Int.reduceLT, Int.reduceLE, Int.reduceNe]
    have key : isNameM (fun c => if b = true then inB c 65 90 else inB c 97 122) s = ((if b = true then inB (bs s)[0] 65 90 else inB (bs s)[0] 97 122) && (bs s).all nameB) := nameL_first _ hlt (by omega)
    rw [key]
    refine ite_intro (fun h => ?_) (fun h => ?_)
    · have hx : (if b = true then inB (bs s)[0] 65 90 else inB (bs s)[0] 97 122) = false := by
        cases b with
        | false =>
          have h : inB (bs s)[0] 65 90 = true := by simpa using h
          simp only [inB, Bool.and_eq_true, decide_eq_true_eq] at h
          simp [inB]; omega
        | true => simpa using h
      simp only [hx, Bool.false_and, WA, Nat.reduceEqDiff, Nat.reduceAdd, Nat.reduceLT, Nat.reduceLeDiff, Nat.reduceMul, reduceIte, reduceCtorEq, Int.reduceEq, Int.reduceLT, Int.reduceLE, Int.reduceNe]
    · simp only [WA, Nat.reduceEqDiff, Nat.reduceAdd, Nat.reduceLT, Nat.reduceLeDiff, Nat.reduceMul, reduceIte, reduceCtorEq, Int.reduceEq, Int.reduceLT, Int.reduceLE, Int.reduceNe]
      refine ite_intro (fun h2 => ?_) (fun h2 => ?_)
      · have hb : b = false := by simpa using h2
        subst hb
        simp only [WA, Nat.reduceEqDiff, Nat.reduceAdd, Nat.reduceLT, Nat.reduceLeDiff, Nat.reduceMul, reduceIte, reduceCtorEq, Int.reduceEq, Int.reduceLT, Int.reduceLE, Int.reduceNe]
        refine idxB (i := 0) hlt ?_
        simp only [wrap8 c0 c1, WA, Nat.reduceEqDiff, Nat.reduceAdd, Nat.reduceLT, Nat.reduceLeDiff, Nat.reduceMul, reduceIte, reduceCtorEq, Int.reduceEq, Int.reduceLT, Int.reduceLE, Int.reduceNe]
        refine call_v (spec_l1Lower_c _) ?_
        simp only [WA, Nat.reduceEqDiff, Nat.reduceAdd, Nat.reduceLT, Nat.reduceLeDiff, Nat.reduceMul, reduceIte, reduceCtorEq, Int.reduceEq, Int.reduceLT, Int.reduceLE, Int.reduceNe]
        refine ite_intro (fun h3 => ?_) (fun h3 => ?_)
        · have h3 : inB (bs s)[0] 97 122 = false := by simpa using h3
          simp [h3, WA, Nat.reduceEqDiff, Nat.reduceAdd, Nat.reduceLT, Nat.reduceLeDiff, Nat.reduceMul, reduceIte, reduceCtorEq, Int.reduceEq, Int.reduceLT, Int.reduceLE, Int.reduceNe]
        · have h3 : inB (bs s)[0] 97 122 = true := by simpa using h3
          simp only [h3, WA, Nat.reduceEqDiff, Nat.reduceAdd, Nat.reduceLT, Nat.reduceLeDiff, Nat.reduceMul, reduceIte, reduceCtorEq, Int.reduceEq, Int.reduceLT, Int.reduceLE, Int.reduceNe]
          refine bind_push ?_
          simp only [WA, Nat.reduceEqDiff, Nat.reduceAdd, Nat.reduceLT, Nat.reduceLeDiff, Nat.reduceMul, reduceIte, reduceCtorEq, Int.reduceEq, Int.reduceLT, Int.reduceLE, Int.reduceNe]
          refine loop_inv (bs s).length (fun i => (bs s).all nameB = ((bs s).drop i).all nameB) (fun i => [avI i]) rfl rfl fun i hi hI => ?_
          simp only [WA, Nat.reduceEqDiff, Nat.reduceAdd, Nat.reduceLT, Nat.reduceLeDiff, Nat.reduceMul, reduceIte, reduceCtorEq, Int.reduceEq, Int.reduceLT, Int.reduceLE, Int.reduceNe]
          refine ite_dec (fun h => ?_) (fun h => ?_)
          · have hlt : i < (bs s).length := by omega
            obtain ⟨c0, c1⟩ := bs_range (List.getElem_mem hlt)
            rw [dropC hlt, List.all_cons] at hI
            simp only [WA, Nat.reduceEqDiff, Nat.reduceAdd, Nat.reduceLT, Nat.reduceLeDiff, Nat.reduceMul, reduceIte, reduceCtorEq, Int.reduceEq, Int.reduceLT, Int.reduceLE, Int.reduceNe]
            refine idxB hlt ?_
            simp only [wrap8 c0 c1, WA, Nat.reduceEqDiff, Nat.reduceAdd, Nat.reduceLT, Nat.reduceLeDiff, Nat.reduceMul, reduceIte, reduceCtorEq, Int.reduceEq, Int.reduceLT, Int.reduceLE, Int.reduceNe]
            refine call_v (spec_l1NameByte_c _) ?_
            simp only [WA, Nat.reduceEqDiff, Nat.reduceAdd, Nat.reduceLT, Nat.reduceLeDiff, Nat.reduceMul, reduceIte, reduceCtorEq, Int.reduceEq, Int.reduceLT, Int.reduceLE, Int.reduceNe]
            refine ite_intro (fun h => ?_) (fun h => ?_)
            · have h : nameB (bs s)[i] = false := by simpa using h
              rw [h] at hI
              simp [hI, WA, Nat.reduceEqDiff, Nat.reduceAdd, Nat.reduceLT, Nat.reduceLeDiff, Nat.reduceMul, reduceIte, reduceCtorEq, Int.reduceEq, Int.reduceLT, Int.reduceLE, Int.reduceNe]
            · have h : nameB (bs s)[i] = true := by simpa using h
              rw [h] at hI
              simp (disch := omega) only [wrapA1, WA, Nat.reduceEqDiff, Nat.reduceAdd, Nat.reduceLT, Nat.reduceLeDiff, Nat.reduceMul, reduceIte, reduceCtorEq, Int.reduceEq, Int.reduceLT, Int.reduceLE, Int.reduceNe]
              exact ⟨hlt, by simpa using hI⟩
          · have he : i = (bs s).length := by omega
            subst he
            rw [dropE] at hI
            simp [hI, WA, Nat.reduceEqDiff, Nat.reduceAdd, Nat.reduceLT, Nat.reduceLeDiff, Nat.reduceMul, reduceIte, reduceCtorEq, Int.reduceEq, Int.reduceLT, Int.reduceLE, Int.reduceNe]
      · have hb : b = true := by simpa using h2
        subst hb
        have h4 : inB (bs s)[0] 65 90 = true := by simpa using h
        simp only [h4, WA, Nat.reduceEqDiff, Nat.reduceAdd, Nat.reduceLT, Nat.reduceLeDiff, Nat.reduceMul, reduceIte, reduceCtorEq, Int.reduceEq, Int.reduceLT, Int.reduceLE, Int.reduceNe]
        refine bind_push ?_
        simp only [WA, Nat.reduceEqDiff, Nat.reduceAdd, Nat.reduceLT, Nat.reduceLeDiff, Nat.reduceMul, reduceIte, reduceCtorEq, Int.reduceEq, Int.reduceLT, Int.reduceLE, Int.reduceNe]
        refine loop_inv (bs s).length (fun i => (bs s).all nameB = ((bs s).drop i).all nameB) (fun i => [avI i]) rfl rfl fun i hi hI => ?_
        simp only [WA, Nat.reduceEqDiff, Nat.reduceAdd, Nat.reduceLT, Nat.reduceLeDiff, Nat.reduceMul, reduceIte, reduceCtorEq, Int.reduceEq, Int.reduceLT, Int.reduceLE, Int.reduceNe]
        refine ite_dec (fun h => ?_) (fun h => ?_)
        · have hlt : i < (bs s).length := by omega
          obtain ⟨c0, c1⟩ := bs_range (List.getElem_mem hlt)
          rw [dropC hlt, List.all_cons] at hI
          simp only [WA, Nat.reduceEqDiff, Nat.reduceAdd, Nat.reduceLT, Nat.reduceLeDiff, Nat.reduceMul, reduceIte, reduceCtorEq, Int.reduceEq, Int.reduceLT, Int.reduceLE, Int.reduceNe]
          refine idxB hlt ?_
          simp only [wrap8 c0 c1, WA, Nat.reduceEqDiff, Nat.reduceAdd, Nat.reduceLT, Nat.reduceLeDiff, Nat.reduceMul, reduceIte, reduceCtorEq, Int.reduceEq, Int.reduceLT, Int.reduceLE, Int.reduceNe]
          refine call_v (spec_l1NameByte_c _) ?_
          simp only [WA, Nat.reduceEqDiff, Nat.reduceAdd, Nat.reduceLT, Nat.reduceLeDiff, Nat.reduceMul, reduceIte, reduceCtorEq, Int.reduceEq, Int.reduceLT, Int.reduceLE, Int.reduceNe]
          refine ite_intro (fun h => ?_) (fun h => ?_)
          · have h : nameB (bs s)[i] = false := by simpa using h
            rw [h] at hI
            simp [hI, WA, Nat.reduceEqDiff, Nat.reduceAdd, Nat.reduceLT, Nat.reduceLeDiff, Nat.reduceMul, reduceIte, reduceCtorEq, Int.reduceEq, Int.reduceLT, Int.reduceLE, Int.reduceNe]
          · have h : nameB (bs s)[i] = true := by simpa using h
            rw [h] at hI
            simp (disch := omega) only [wrapA1, WA, Nat.reduceEqDiff, Nat.reduceAdd, Nat.reduceLT, Nat.reduceLeDiff, Nat.reduceMul, reduceIte, reduceCtorEq, Int.reduceEq, Int.reduceLT, Int.reduceLE, Int.reduceNe]
            exact ⟨hlt, by simpa using hI⟩
        · have he : i = (bs s).length := by omega
          subst he
          rw [dropE] at hI
          simp [hI, WA, Nat.reduceEqDiff, Nat.reduceAdd, Nat.reduceLT, Nat.reduceLeDiff, Nat.reduceMul, reduceIte, reduceCtorEq, Int.reduceEq, Int.reduceLT, Int.reduceLE, Int.reduceNe]
theorem impl_isKey_c (s : ByteArray) : PCon Try.prog F.impl_isKey [avB s] (.v (.bool (isKeyM s))) := by
  refine T.impl_isKey_con rfl rfl ?_
  simp only [T.impl_isKey, AV.cells, AV.isCell, WA, Nat.reduceEqDiff, Nat.reduceAdd, Nat.reduceLT, Nat.reduceLeDiff, Nat.reduceMul, reduceIte, reduceCtorEq, Int.reduceEq, Int.reduceLT, Int.reduceLE, Int.reduceNe]
  refine call_v (contE_string keysM s (by decide)) ?_
  simp only [WA, Nat.reduceEqDiff, Nat.reduceAdd, Nat.reduceLT, Nat.reduceLeDiff, Nat.reduceMul, reduceIte, reduceCtorEq, Int.reduceEq, Int.reduceLT, Int.reduceLE, Int.reduceNe]
  rfl
end Go.Proofs.Ab
