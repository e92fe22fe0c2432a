/-
  THE REFERENCE'S LEXER: what it computes, in the plain words of CLexM.
-/
import Derived.Test.YtlhnahogacofoaaDoorCLexM
import Derived.Test.YtlhnahogacofoaaDoorCSpell
import Derived.Test.YtlhnahogacofoaaDoorAbM4
set_option linter.unusedVariables false
set_option linter.unusedSimpArgs false
set_option linter.defProp false
namespace Go.Proofs.Ab
open Go.Ab
set_option maxRecDepth 100000
set_option maxHeartbeats 4000000
def zTok : VToken := ⟨0, ⟨#[]⟩, 0, 0⟩
theorem wordL_le (l : List Int) : (wordL l).length ≤ l.length := (List.takeWhile_sublist nameB).length_le
theorem take_wordL (l : List Int) : l.take (wordL l).length = wordL l := by
  unfold wordL
  induction l with
  | nil => rfl
  | cons c r ih =>
    rw [List.takeWhile_cons]
    split
    · simp [ih]
    · rfl
theorem take_digL (l : List Int) : l.take (l.takeWhile digB).length = l.takeWhile digB := by
  induction l with
  | nil => rfl
  | cons c r ih =>
    rw [List.takeWhile_cons]
    split
    · simp [ih]
    · rfl
def wordFrom (l : List Int) : Nat := if l.head? = some 39 then 1 else 0
def wordTok (l : List Int) (p : Int) : VToken :=
  if l.head? = some 39 then ⟨5, ofL (wordL (l.drop 1)), 0, p⟩
  else ⟨if hdB upB l = true then 4 else if isKeyM (ofL (wordL l)) = true then 6 else 3, ofL (wordL l), 0, p⟩
theorem strM_q {r : List Int} : strM (34 :: r) = some ([], 1) := by rw [strM.eq_def (34 :: r)]; simp
theorem strM_esc {d e : Int} {r : List Int} (h : d = 110 ∧ e = 10 ∨ (d = 34 ∨ d = 92) ∧ e = d) : strM (92 :: d :: r) = (strM r).map fun q => (e :: q.1, q.2 + 2) := by
  rcases h with ⟨rfl, rfl⟩ | ⟨h | h, rfl⟩
  · rw [strM.eq_def (92 :: 110 :: r)]; simp
  · subst h; rw [strM.eq_def (92 :: 34 :: r)]; simp
  · subst h; rw [strM.eq_def (92 :: 92 :: r)]; simp
theorem strM_bad {r : List Int} (h : ∀ d r', r = d :: r' → d ≠ 110 ∧ d ≠ 34 ∧ d ≠ 92) : strM (92 :: r) = none := by
  cases r with
  | nil => unfold strM; simp
  | cons d r' =>
    obtain ⟨h1, h2, h3⟩ := h d r' rfl
    unfold strM; simp [h1, h2, h3]
theorem strM_plain {c : Int} {r : List Int} (h1 : c ≠ 34) (h2 : c ≠ 92) (h3 : inB c 32 126 = true) : strM (c :: r) = (strM r).map fun q => (c :: q.1, q.2 + 1) := by rw [strM.eq_def (c :: r)]; simp [h1, h2, h3]
theorem strM_no {c : Int} {r : List Int} (h1 : c ≠ 34) (h2 : c ≠ 92) (h3 : inB c 32 126 = false) : strM (c :: r) = none := by rw [strM.eq_def (c :: r)]; simp [h1, h2, h3]
/-- ahead of what is left -/
def preS (acc : List Int) (m : Nat) (o : Option (List Int × Nat)) : Option (List Int × Nat) := o.map fun q => (acc ++ q.1, m + q.2)
theorem ofL_app (a b : List Int) : ofL (a ++ b) = ofL a ++ ofL b := by
  apply bytes_ext
  rw [app_list]
  simp [ofL]
theorem ofL_one (c : Int) : ofL [c] = byteB c := rfl
theorem ofL_size (l : List Int) : (ofL l).size = l.length := by
  show (ofL l).data.size = _
  simp [ofL]
theorem lexM_code {l : List Int} {p c : Int} (h : lexM l p = .inl c) : c ≠ 0 := by
  unfold lexM at h
  split at h
  · cases h; decide
  · split at h
    · split at h
      · cases h; decide
      · cases h
    · split at h
      · split at h
        · cases h; decide
        · cases h
      · split at h
        · split at h
          · cases h; decide
          · cases h
        · split at h
          · split at h
            · cases h; decide
            · cases h
          · unfold signTok at h
            split at h
            · cases h; decide
            · cases h
theorem prefix_ext (s y : ByteArray) (k : Nat) (h : k + y.size ≤ s.size) : (bs y).isPrefixOf ((bs s).drop k) = decide (s.extract k (k + y.size) = y) := by
  rw [Bool.eq_iff_iff, List.isPrefixOf_iff_prefix, List.prefix_iff_eq_take, decide_eq_true_eq, bs_len]
  have he := bs_extract s k (k + y.size)
  rw [show k + y.size - k = y.size by omega] at he
  rw [← he]
  exact ⟨fun q => bs_inj q.symm, fun q => by rw [q]⟩
theorem prefix_short (s y : ByteArray) (k : Nat) (hk : k ≤ s.size) (h : s.size < k + y.size) : (bs y).isPrefixOf ((bs s).drop k) = false := by
  cases hq : (bs y).isPrefixOf ((bs s).drop k) with
  | false => rfl
  | true =>
    have := (List.isPrefixOf_iff_prefix.1 hq).length_le
    rw [bs_len, List.length_drop, bs_len] at this
    omega
theorem retT_ex (m : Nat) (Q : List AV → Prop) (vs : List AV) : retT (ex m Q) vs = ex m Q (packR vs) := by unfold retT; rfl
end Go.Proofs.Ab
