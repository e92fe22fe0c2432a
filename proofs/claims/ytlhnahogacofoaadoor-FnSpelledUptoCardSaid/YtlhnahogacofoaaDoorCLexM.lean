/-
  THE LEXER IN PLAIN WORDS: blanks and notes, numbers, words, strings, signs; a whole text.
-/
import Derived.Test.YtlhnahogacofoaaDoorCLex
set_option linter.unusedVariables false
set_option linter.unusedSimpArgs false
set_option linter.defProp false
namespace Go.Ab
set_option maxRecDepth 100000
set_option maxHeartbeats 4000000
set_option maxHeartbeats 4000000
theorem tok_av (a : Int) (b : ByteArray) (c d : Int) : (VToken.mk a b c d).av = .agg [avI a, avB b, avI c, avI d] := nr rfl
/-- a part of a list of bytes as a text -/
def ofL (l : List Int) : ByteArray := ⟨(l.map fun c => UInt8.ofNat c.toNat).toArray⟩
theorem bs_ofL {l : List Int} (h : ∀ c ∈ l, 0 ≤ c ∧ c < 256) : bs (ofL l) = l := by
  simp only [bs, ofL, List.map_map]
  conv => rhs; rw [← List.map_id l]
  refine List.map_congr_left fun c hc => ?_
  obtain ⟨h0, h1⟩ := h c hc
  simp only [Function.comp_apply, UInt8.toNat_ofNat', id_eq]
  omega
theorem bs_extract (s : ByteArray) (a b : Nat) : bs (s.extract a b) = ((bs s).drop a).take (b - a) := by
  simp only [bs]
  have : (s.extract a b).data.toList = (s.data.toList.drop a).take (b - a) := by
    rw [ByteArray.data_extract, Array.toList_extract]
  rw [this, List.map_take, List.map_drop]
theorem extract_ofL (s : ByteArray) (a b : Nat) : s.extract a b = ofL (((bs s).drop a).take (b - a)) := by
  apply bs_inj
  rw [bs_extract, bs_ofL]
  intro c hc
  exact bs_range (List.mem_of_mem_drop (List.mem_of_mem_take hc))
def digB (c : Int) : Bool := inB c 48 57
def lowB (c : Int) : Bool := inB c 97 122
def upB (c : Int) : Bool := inB c 65 90
def blankB (c : Int) : Bool := decide (c = 32) || decide (c = 9) || decide (c = 10)
/-- how many bytes are blanks and notes; true: within a note -/
def skipB : Bool → List Int → Nat
  | _, [] => 0
  | true, c :: r => if c = 10 then skipB false r + 1 else skipB true r + 1
  | false, c :: r => if blankB c = true then skipB false r + 1 else if c = 35 then skipB true r + 1 else 0
theorem skipB_le : ∀ (b : Bool) (l : List Int), skipB b l ≤ l.length
  | b, [] => by cases b <;> simp [skipB]
  | true, c :: r => by
    have h1 := skipB_le true r; have h2 := skipB_le false r
    simp only [skipB, List.length_cons]; split <;> omega
  | false, c :: r => by
    have h1 := skipB_le true r; have h2 := skipB_le false r
    simp only [skipB, List.length_cons]; split
    · omega
    · split <;> omega
theorem skipB_note : ∀ l : List Int, skipB true l = (l.takeWhile fun c => !decide (c = 10)).length + skipB false (l.drop (l.takeWhile fun c => !decide (c = 10)).length)
  | [] => rfl
  | c :: r => by
    by_cases h : c = 10
    · subst h; simp [skipB, blankB]
    · have := skipB_note r
      simp only [skipB, List.takeWhile_cons, h, decide_false, Bool.not_false, if_true, List.length_cons, List.drop_succ_cons, if_false]
      omega
theorem skipB_stop : ∀ (b : Bool) (l : List Int), l.drop (skipB b l) = [] ∨ ∃ c r, l.drop (skipB b l) = c :: r ∧ blankB c = false ∧ c ≠ 35
  | b, [] => by cases b <;> exact .inl rfl
  | true, c :: r => by
    simp only [skipB]
    split
    · simpa using skipB_stop false r
    · simpa using skipB_stop true r
  | false, c :: r => by
    simp only [skipB]
    split
    · simpa using skipB_stop false r
    · rename_i h
      split
      · simpa using skipB_stop true r
      · rename_i h2
        exact .inr ⟨c, r, rfl, by simpa using h, h2⟩
theorem skipB_zero {c : Int} {r : List Int} (h : blankB c = false) (h2 : c ≠ 35) : skipB false (c :: r) = 0 := by simp [skipB, h, h2]
/-- the number that digits are -/
def valD (n : Int) (l : List Int) : Int := l.foldl (fun n c => n * 10 + (c - 48)) n
theorem valD_ge : ∀ (l : List Int) (n : Int), 0 ≤ n → (∀ c ∈ l, digB c = true) → n ≤ valD n l
  | [], n, _, _ => Int.le_refl _
  | c :: r, n, h, hd => by
    have hc := hd c (by simp)
    simp only [digB, inB, Bool.and_eq_true, decide_eq_true_eq] at hc
    have := valD_ge r (n * 10 + (c - 48)) (by omega) fun x hx => hd x (by simp [hx])
    simp only [valD, List.foldl_cons] at this ⊢
    omega
def maxI : Int := 9223372036854775807
/-- a string behind its first quote: what it holds, and how many bytes with the last quote -/
def strM : List Int → Option (List Int × Nat)
  | [] => none
  | c :: r => if c = 34 then some ([], 1)
    else if c = 92 then (match r with
      | d :: r' => if d = 110 then (strM r').map fun q => (10 :: q.1, q.2 + 2) else if d = 34 ∨ d = 92 then (strM r').map fun q => (d :: q.1, q.2 + 2) else none
      | [] => none)
    else if inB c 32 126 = true then (strM r).map fun q => (c :: q.1, q.2 + 1) else none
/-- the first byte is so -/
def hdB (p : Int → Bool) : List Int → Bool
  | [] => false
  | d :: _ => p d
def signM (l : List Int) : Option ByteArray := signsM.find? fun y => (bs y).isPrefixOf l
def wordL (l : List Int) : List Int := l.takeWhile nameB
def signTok (o : Option ByteArray) (p : Int) : Int ⊕ (VToken × Nat) := match o with
  | none => .inl 1
  | some y => .inr (⟨7, y, 0, p⟩, y.size)
/-- one token at the beginning of what is left, at place p: a fault's code, or the token and its length -/
def lexM (l : List Int) (p : Int) : Int ⊕ (VToken × Nat) :=
  match l with
  | [] => .inl 1
  | c :: r =>
    if digB c = true then
      if maxI < valD 0 ((c :: r).takeWhile digB) ∨ (c = 48 ∧ 1 < ((c :: r).takeWhile digB).length) then .inl 3
      else .inr (⟨1, ⟨#[]⟩, valD 0 ((c :: r).takeWhile digB), p⟩, ((c :: r).takeWhile digB).length)
    else if lowB c = true ∨ upB c = true then
      if 12 < (wordL (c :: r)).length then .inl 2
      else .inr (⟨if upB c = true then 4 else if isKeyM (ofL (wordL (c :: r))) = true then 6 else 3, ofL (wordL (c :: r)), 0, p⟩, (wordL (c :: r)).length)
    else if c = 39 ∧ hdB lowB r = true then
      if 12 < (wordL r).length then .inl 2
      else .inr (⟨5, ofL (wordL r), 0, p⟩, (wordL r).length + 1)
    else if c = 34 then
      match strM r with
      | none => .inl 4
      | some q => .inr (⟨2, ofL q.1, 0, p⟩, q.2 + 1)
    else signTok (signM (c :: r)) p
abbrev fAV (q : Int × Int) : AV := .agg [avI q.1, avI q.2]
/-- a whole text: what is left of it, its place, the tokens so far -/
def allM (most : Nat) (l : List Int) (p : Nat) (acc : List VToken) : List VToken × (Int × Int) :=
  if _h : skipB false l < l.length then
    match lexM (l.drop (skipB false l)) (p + skipB false l : Nat) with
    | .inl code => ([], ⟨code, (p + skipB false l : Nat)⟩)
    | .inr (t, n) => if acc.length = most then ([], ⟨5, (p + skipB false l : Nat)⟩) else allM most (l.drop (skipB false l + 1 + (n - 1))) (p + skipB false l + 1 + (n - 1)) (acc ++ [t])
  else (acc ++ [⟨8, ⟨#[]⟩, 0, (p + skipB false l : Nat)⟩], ⟨0, 0⟩)
termination_by l.length
decreasing_by
  simp only [List.length_drop]
  omega
def lexAllM (s : ByteArray) : List VToken × (Int × Int) := if 4000 < s.size then ([], ⟨5, 0⟩) else allM 1200 (bs s) 0 []
theorem wordL_pos {c : Int} {r : List Int} (h : lowB c = true ∨ upB c = true) : 1 ≤ (wordL (c :: r)).length := by
  have : nameB c = true := by
    simp only [lowB, upB] at h
    simp only [nameB, Bool.or_eq_true]
    rcases h with h | h <;> simp [h]
  simp [wordL, List.takeWhile_cons, this]
theorem strM_pos : ∀ {l : List Int} {q : List Int × Nat}, strM l = some q → 1 ≤ q.2 ∧ q.2 ≤ l.length
  | [], q, h => by simp [strM] at h
  | c :: r, q, h => by
    unfold strM at h
    split at h
    · cases h; simp
    · split at h
      · split at h
        · rename_i d r'
          split at h
          · simp only [Option.map_eq_some_iff] at h
            obtain ⟨q', h1, rfl⟩ := h
            have := strM_pos h1
            simp only [List.length_cons]; omega
          · split at h
            · simp only [Option.map_eq_some_iff] at h
              obtain ⟨q', h1, rfl⟩ := h
              have := strM_pos h1
              simp only [List.length_cons]; omega
            · cases h
        · cases h
      · split at h
        · simp only [Option.map_eq_some_iff] at h
          obtain ⟨q', h1, rfl⟩ := h
          have := strM_pos h1
          simp only [List.length_cons]; omega
        · cases h
theorem signM_some {l : List Int} {y : ByteArray} (h : signM l = some y) : y ∈ signsM ∧ (bs y).isPrefixOf l = true := ⟨List.mem_of_find?_eq_some h, List.find?_some (p := fun y => (bs y).isPrefixOf l) h⟩
theorem sign_size {y : ByteArray} (h : y ∈ signsM) : 1 ≤ y.size ∧ y.size ≤ 2 := by
  have : signsM.all (fun y => decide (1 ≤ y.size) && decide (y.size ≤ 2)) = true := by decide
  have := List.all_eq_true.1 this y h
  simpa using this
/-- a token takes a byte at least, and no more than there are -/
theorem lexM_pos {l : List Int} {p : Int} {t : VToken} {n : Nat} (h : lexM l p = .inr (t, n)) : 1 ≤ n ∧ n ≤ l.length := by
  have tw : ∀ (p : Int → Bool) (l : List Int), (l.takeWhile p).length ≤ l.length := fun p l => (List.takeWhile_sublist p).length_le
  unfold lexM at h
  split at h
  · cases h
  · rename_i c r
    split at h
    · rename_i hd
      split at h
      · cases h
      · cases h
        exact ⟨by simp [List.takeWhile_cons, hd], tw _ _⟩
    · split at h
      · rename_i hw
        split at h
        · cases h
        · cases h
          exact ⟨wordL_pos hw, tw _ _⟩
      · split at h
        · split at h
          · cases h
          · cases h
            have := tw nameB r
            simp only [List.length_cons, wordL]; omega
        · split at h
          · split at h
            · cases h
            · rename_i q hq
              cases h
              have := strM_pos hq
              simp only [List.length_cons]; omega
          · unfold signTok at h
            split at h
            · cases h
            · rename_i y hy
              cases h
              obtain ⟨h1, h2⟩ := signM_some hy
              have := sign_size h1
              have h3 := (List.isPrefixOf_iff_prefix.1 h2).length_le
              rw [bs_len] at h3
              exact ⟨this.1, h3⟩
section
variable (most : Nat)
/-- blanks and notes -/
theorem skipB_again (l : List Int) : skipB false (l.drop (skipB false l)) = 0 := by
  rcases skipB_stop false l with h | ⟨c, r, h, h1, h2⟩
  · rw [h]; rfl
  · rw [h]; exact skipB_zero h1 h2
theorem allM_skip (l : List Int) (p : Nat) (acc : List VToken) : allM most l p acc = allM most (l.drop (skipB false l)) (p + skipB false l) acc := by
  have hle := skipB_le false l
  have h0 := skipB_again l
  rw [allM, allM.eq_1 most (l.drop (skipB false l))]
  simp only [h0, List.drop_zero, Nat.add_zero, List.length_drop, List.drop_drop, Nat.zero_add, dite_eq_ite]
  by_cases h : skipB false l < l.length
  · rw [if_pos h, if_pos (by omega)]
    split
    · rfl
    · split
      · rfl
      · congr 2; omega
  · rw [if_neg h, if_neg (by omega)]
theorem allM_nil (p : Nat) (acc : List VToken) : allM most [] p acc = (acc ++ [⟨8, ⟨#[]⟩, 0, (p : Nat)⟩], ⟨0, 0⟩) := by
  rw [allM]
  simp [skipB]
theorem allM_blank {c : Int} {r : List Int} (h : blankB c = true) (p : Nat) (acc : List VToken) : allM most (c :: r) p acc = allM most r (p + 1) acc := by
  rw [allM_skip most (c :: r), allM_skip most r]
  simp only [skipB, h, if_true, List.drop_succ_cons]
  congr 1; omega
theorem allM_note {r : List Int} (p : Nat) (acc : List VToken) (k : Nat) (hk : k = ((35 :: r).takeWhile fun c => !decide (c = 10)).length) : allM most (35 :: r) p acc = allM most ((35 :: r).drop k) (p + k) acc := by
  rw [allM_skip most (35 :: r), allM_skip most ((35 :: r).drop k)]
  have h1 : skipB false (35 :: r) = skipB true (35 :: r) := by simp [skipB, blankB]
  rw [h1, skipB_note, ← hk, List.drop_drop]
  congr 1; omega
theorem allM_tok {c : Int} {r : List Int} (h : blankB c = false) (h2 : c ≠ 35) (p : Nat) (acc : List VToken) : allM most (c :: r) p acc = match lexM (c :: r) (p : Nat) with
    | .inl code => ([], ⟨code, (p : Nat)⟩)
    | .inr (t, n) => if acc.length = most then ([], ⟨5, (p : Nat)⟩) else allM most ((c :: r).drop n) (p + n) (acc ++ [t]) := by
  rw [allM]
  have h0 : skipB false (c :: r) = 0 := skipB_zero h h2
  simp only [h0, List.drop_zero, Nat.add_zero, Nat.zero_add, dite_eq_ite]
  rw [if_pos (by simp)]
  split
  · rfl
  · rename_i t n hq
    obtain ⟨h5, _⟩ := lexM_pos hq
    split
    · rfl
    · rw [show (0 + 1 + (n - 1)) = n by omega, show p + 1 + (n - 1) = p + n by omega]
end
end Go.Ab
