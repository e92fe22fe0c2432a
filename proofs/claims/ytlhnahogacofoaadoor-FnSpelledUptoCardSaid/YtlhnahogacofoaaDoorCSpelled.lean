/-
  TOKENS COME BACK OF THEIR SPELLING: in plain words.
-/
import Derived.Test.YtlhnahogacofoaaDoorCLexW
set_option linter.unusedVariables false
set_option linter.unusedSimpArgs false
set_option linter.defProp false
namespace Go.Ab
open Go.Proofs.Ab
set_option maxRecDepth 100000
set_option maxHeartbeats 4000000
/-- what may stand behind a token -/
def sep0 (r : List Int) : Prop := r = [] ∨ ∃ r', r = 32 :: r'
theorem takeWhile_app {p : Int → Bool} {a r : List Int} (ha : ∀ c ∈ a, p c = true) (hr : r = [] ∨ ∃ d r', r = d :: r' ∧ p d = false) : (a ++ r).takeWhile p = a := by
  induction a with
  | nil =>
    rcases hr with rfl | ⟨d, r', rfl, hd⟩
    · rfl
    · simp [List.takeWhile_cons, hd]
  | cons c a ih =>
    rw [List.cons_append, List.takeWhile_cons, if_pos (ha c (by simp)), ih fun x hx => ha x (by simp [hx])]
theorem sep0.not {r : List Int} (h : sep0 r) {p : Int → Bool} (hp : p 32 = false) : r = [] ∨ ∃ d r', r = d :: r' ∧ p d = false := by
  rcases h with rfl | ⟨r', rfl⟩
  · exact .inl rfl
  · exact .inr ⟨32, r', rfl, hp⟩
theorem ofL_bs (s : ByteArray) : ofL (bs s) = s := bs_inj (bs_ofL fun c hc => bs_range hc)
theorem bs_app (a b : ByteArray) : bs (a ++ b) = bs a ++ bs b := by simp only [bs, app_list, List.map_append]
theorem bs_byteB (c : Int) (h0 : 0 ≤ c) (h1 : c < 256) : bs (byteB c) = [c] := by
  rw [← ofL_one, bs_ofL]
  intro x hx
  rw [List.mem_singleton.1 hx]
  exact ⟨h0, h1⟩
/- numerals -/
theorem valD_app (n : Int) (a b : List Int) : valD n (a ++ b) = valD (valD n a) b := by simp [valD]
theorem fig_digits (u : Nat) : (∀ c ∈ bs (figB u), digB c = true) ∧ valD 0 (bs (figB u)) = u ∧ bs (figB u) ≠ [] ∧ ((bs (figB u)).head? = some 48 → (bs (figB u)).length = 1) := by
  induction u using Nat.strongRecOn with
  | ind u ih =>
    rw [figB_eq]
    split
    · rename_i h
      rw [bs_byteB _ (by omega) (by omega)]
      refine ⟨?_, ?_, by simp, by simp⟩
      · intro c hc
        rw [List.mem_singleton.1 hc]
        simp only [digB, inB, Bool.and_eq_true, decide_eq_true_eq]; omega
      · simp [valD]; omega
    · rename_i h
      obtain ⟨h1, h2, h3, h4⟩ := ih (u / 10) (by omega)
      rw [bs_app, bs_byteB _ (by omega) (by omega)]
      refine ⟨?_, ?_, by simp, ?_⟩
      · intro c hc
        rcases List.mem_append.1 hc with hc | hc
        · exact h1 c hc
        · rw [List.mem_singleton.1 hc]
          simp only [digB, inB, Bool.and_eq_true, decide_eq_true_eq]; omega
      · rw [valD_app, h2]; simp [valD]; omega
      · intro hh
        exfalso
        obtain ⟨c, r, hcr⟩ := List.exists_cons_of_ne_nil h3
        rw [hcr] at hh h2 h4
        simp only [List.cons_append, List.head?_cons, Option.some.injEq] at hh
        subst hh
        have := h4 rfl
        simp only [List.length_cons] at this
        have hr : r = [] := List.eq_nil_of_length_eq_zero (by omega)
        subst hr
        simp [valD] at h2
        omega
/- quoted texts -/
theorem strM_quo (l r : List Int) (hl : ∀ c ∈ l, 0 ≤ c ∧ c < 256 ∧ (inB c 32 126 || decide (c = 10)) = true) : strM (bs (quoB l) ++ 34 :: r) = some (l, (quoB l).size + 1) := by
  induction l with
  | nil =>
    have : bs (quoB []) = [] := rfl
    rw [this, List.nil_append, strM_q]
    rfl
  | cons c l ih =>
    obtain ⟨h0, h1, h2⟩ := hl c (by simp)
    have ih := ih fun x hx => hl x (by simp [hx])
    rw [quoB, bs_app, List.append_assoc, app_size]
    unfold quo1
    by_cases h10 : c = 10
    · subst h10
      rw [if_pos rfl, bs_app, bs_byteB 92 (by omega) (by omega), bs_byteB 110 (by omega) (by omega)]
      simp only [List.cons_append, List.nil_append]
      rw [strM_esc (.inl ⟨rfl, rfl⟩), ih]
      simp only [Option.map_some, app_size, byteB_size]
      congr 2; omega
    · rw [if_neg h10]
      by_cases h34 : c = 34 ∨ c = 92
      · rw [if_pos h34, bs_app, bs_byteB 92 (by omega) (by omega), bs_byteB c h0 h1]
        simp only [List.cons_append, List.nil_append]
        rw [strM_esc (.inr ⟨h34, rfl⟩), ih]
        simp only [Option.map_some, app_size, byteB_size]
        congr 2; omega
      · rw [if_neg h34, bs_byteB c h0 h1]
        simp only [List.cons_append, List.nil_append]
        rw [strM_plain (by omega) (by omega) (by simpa [h10] using h2), ih]
        simp only [Option.map_some, byteB_size]
        congr 2; omega
/- names -/
theorem name_facts {f : Int → Bool} {s : ByteArray} (h : isNameM f s = true) : (∀ c ∈ bs s, nameB c = true) ∧ 1 ≤ s.size ∧ s.size ≤ 12 ∧ hdB f (bs s) = true := by
  unfold isNameM at h
  have hl := bs_len s
  cases hb : bs s with
  | nil => rw [hb] at h; simp [nameL] at h
  | cons c r =>
    rw [hb] at h hl
    simp only [nameL, Bool.and_eq_true, decide_eq_true_eq, List.all_eq_true, List.length_cons] at h hl
    exact ⟨h.2, by omega, by omega, h.1.2⟩
/-- the head of a token is no blank -/
def headOk (l : List Int) : Prop := ∃ c r, l = c :: r ∧ blankB c = false ∧ c ≠ 35
theorem lex_name {s : ByteArray} {r : List Int} (hr : sep0 r) (p : Int) (ha : ∀ c ∈ bs s, nameB c = true) (h1 : 1 ≤ s.size) (h12 : s.size ≤ 12) (hf : hdB lowB (bs s) = true ∨ hdB upB (bs s) = true) :
    lexM (bs s ++ r) p = .inr (⟨if hdB upB (bs s) = true then 4 else if isKeyM s = true then 6 else 3, s, 0, p⟩, s.size) ∧ headOk (bs s ++ r) := by
  have hw : wordL (bs s ++ r) = bs s := takeWhile_app ha (hr.not rfl)
  have ho := ofL_bs s
  have hl := bs_len s
  cases hb : bs s with
  | nil => rw [hb] at hl; simp at hl; omega
  | cons c q =>
    rw [hb] at hw hf ho hl
    simp only [hdB] at hf
    have hnd : digB c = false := by
      rcases hf with hf | hf <;> (simp only [lowB, upB, digB, inB, Bool.and_eq_true, decide_eq_true_eq] at hf; simp [digB, inB]; omega)
    constructor
    · rw [List.cons_append] at hw ⊢
      rw [lexM, if_neg (by simp [hnd]), if_pos hf, hw, if_neg (by omega), ho, hl]
      rfl
    · refine ⟨c, q ++ r, rfl, ?_, ?_⟩
      · rcases hf with hf | hf <;> (simp only [lowB, upB, inB, Bool.and_eq_true, decide_eq_true_eq] at hf; simp [blankB]; omega)
      · rcases hf with hf | hf <;> (simp only [lowB, upB, inB, Bool.and_eq_true, decide_eq_true_eq] at hf; omega)
theorem key_facts {s : ByteArray} (h : isKeyM s = true) : (∀ c ∈ bs s, nameB c = true) ∧ 1 ≤ s.size ∧ s.size ≤ 12 ∧ hdB lowB (bs s) = true := by
  unfold isKeyM at h
  obtain ⟨y, hy, he⟩ := List.any_eq_true.1 h
  have := of_decide_eq_true he
  subst this
  have key : keysM.all (fun s => (bs s).all nameB && decide (1 ≤ s.size) && decide (s.size ≤ 12) && hdB lowB (bs s)) = true := by decide +kernel
  have := List.all_eq_true.1 key s hy
  simpa [and_assoc] using this
theorem upB_low {l : List Int} (h : hdB lowB l = true) : hdB upB l = false := by
  cases l with
  | nil => rfl
  | cons c r =>
    simp only [hdB, lowB, upB, inB, Bool.and_eq_true, decide_eq_true_eq] at h ⊢
    simp; omega
theorem signM_self {y : ByteArray} (h : y ∈ signsM) {r : List Int} (hr : sep0 r) : signM (bs y ++ r) = some y ∧ headOk (bs y ++ r) ∧ ∃ c q, bs y = c :: q ∧ digB c = false ∧ lowB c = false ∧ upB c = false ∧ c ≠ 39 ∧ c ≠ 34 := by
  simp only [signsM, List.mem_cons, List.not_mem_nil, or_false] at h
  rcases hr with rfl | ⟨r', rfl⟩ <;> rcases h with rfl | rfl | rfl | rfl | rfl | rfl | rfl | rfl | rfl | rfl | rfl | rfl | rfl | rfl | rfl <;>
    exact ⟨by simp [signM, signsM, bs, List.find?, List.isPrefixOf], ⟨_, _, rfl, by decide, by decide⟩, _, _, rfl, by decide, by decide, by decide, by decide, by decide⟩
/-- ONE TOKEN COMES BACK -/
theorem lex_tok {t : VToken} (ht : tokenM t = true) (h8 : t.Kind ≠ 8) (ho : t.ok) {r : List Int} (hr : sep0 r) (p : Int) :
    lexM (bs (tokB t) ++ r) p = .inr (⟨t.Kind, t.Text, t.Num, p⟩, (tokB t).size) ∧ headOk (bs (tokB t) ++ r) := by
  have hi := (VToken.ok_iff t).1 ho
  unfold tokB
  rw [if_pos ht]
  obtain ⟨K, T, N, Q⟩ := t
  simp only [VToken.Kind_mk, VToken.Text_mk, VToken.Num_mk, VToken.Pos_mk, inR] at hi h8 ⊢
  simp only [tokenM, VToken.Kind_mk, VToken.Text_mk, VToken.Num_mk, VToken.Pos_mk, Bool.and_eq_true, decide_eq_true_eq, Bool.or_eq_true] at ht
  obtain ⟨⟨⟨hp, hn⟩, hk1⟩, ht⟩ := ht
  by_cases h1 : K = 1
  · subst h1
    rw [if_pos rfl] at ht ⊢
    have ht := of_decide_eq_true ht
    subst ht
    obtain ⟨u, rfl⟩ : ∃ u : Nat, N = u := ⟨N.toNat, by omega⟩
    obtain ⟨d1, d2, d3, d4⟩ := fig_digits u
    have hl := bs_len (figB u)
    rw [numB_nat]
    have hw : (bs (figB u) ++ r).takeWhile digB = bs (figB u) := takeWhile_app d1 (hr.not rfl)
    obtain ⟨c, q, hcq⟩ := List.exists_cons_of_ne_nil d3
    rw [hcq] at hw d1 d2 d4 hl ⊢
    have hc := d1 c (by simp)
    constructor
    · rw [List.cons_append] at hw ⊢
      rw [lexM, if_pos hc, hw, d2, if_neg, hl]
      · rfl
      · rintro (h | ⟨h, h'⟩)
        · simp only [maxI] at h; omega
        · subst h
          have := d4 rfl
          omega
    · simp only [digB, inB, Bool.and_eq_true, decide_eq_true_eq] at hc
      exact ⟨c, q ++ r, rfl, by simp [blankB]; omega, by omega⟩
  · rw [if_neg h1] at ht ⊢
    have hN : N = 0 := by rcases hk1 with h | h; exact (h1 h).elim; exact h
    subst hN
    by_cases h2 : K = 2
    · subst h2
      rw [if_pos rfl] at ht ⊢
      have hpl : ∀ c ∈ bs T, 0 ≤ c ∧ c < 256 ∧ (inB c 32 126 || decide (c = 10)) = true := fun c hc => ⟨(bs_range hc).1, (bs_range hc).2, List.all_eq_true.1 ht c hc⟩
      have e : bs (quotedB T) ++ r = 34 :: (bs (quoB (bs T)) ++ 34 :: r) := by
        unfold quotedB
        rw [bs_app, bs_app, bs_byteB 34 (by omega) (by omega)]
        simp
      have hs : (quotedB T).size = (quoB (bs T)).size + 2 := by
        unfold quotedB
        rw [app_size, app_size, byteB_size]; omega
      rw [e, hs]
      constructor
      · rw [lexM, if_neg (by decide), if_neg (by decide), if_neg (by simp), if_pos rfl, strM_quo _ _ hpl]
        simp only [ofL_bs]
      · exact ⟨34, _, rfl, by decide, by decide⟩
    · rw [if_neg h2] at ht ⊢
      by_cases h5 : K = 5
      · subst h5
        rw [if_neg (by decide), if_neg (by decide), if_pos rfl] at ht
        rw [if_pos rfl]
        obtain ⟨n1, n2, n3, n4⟩ := name_facts ht
        have e : bs (byteB 39 ++ T) ++ r = 39 :: (bs T ++ r) := by
          rw [bs_app, bs_byteB 39 (by omega) (by omega)]; rfl
        have hw : wordL (bs T ++ r) = bs T := takeWhile_app n1 (hr.not rfl)
        have hl := bs_len T
        have hh : hdB lowB (bs T ++ r) = true := by
          cases hb : bs T with
          | nil => rw [hb] at n4; cases n4
          | cons c q => rw [hb] at n4; exact n4
        rw [e]
        constructor
        · rw [lexM, if_neg (by decide), if_neg (by decide), if_pos ⟨rfl, hh⟩, hw, if_neg (by omega), ofL_bs, hl, app_size, byteB_size]
          congr 2; omega
        · exact ⟨39, _, rfl, by decide, by decide⟩
      · rw [if_neg h5]
        by_cases h3 : K = 3
        · subst h3
          rw [if_pos rfl] at ht
          simp only [lowM, Bool.and_eq_true] at ht
          obtain ⟨n1, n2, n3, n4⟩ := name_facts ht.1
          have hk : isKeyM T = false := by simpa using ht.2
          have h := lex_name hr p n1 n2 n3 (.inl n4)
          rw [upB_low n4, if_neg (by simp), hk, if_neg (by simp)] at h
          exact h
        · rw [if_neg h3] at ht
          by_cases h4 : K = 4
          · subst h4
            rw [if_pos rfl] at ht
            obtain ⟨n1, n2, n3, n4⟩ := name_facts ht
            have h := lex_name hr p n1 n2 n3 (.inr n4)
            rw [if_pos (show hdB upB (bs T) = true from n4)] at h
            exact h
          · rw [if_neg h4, if_neg h5] at ht
            by_cases h6 : K = 6
            · subst h6
              rw [if_pos rfl] at ht
              obtain ⟨n1, n2, n3, n4⟩ := key_facts ht
              have h := lex_name hr p n1 n2 n3 (.inl n4)
              rw [upB_low n4, if_neg (by simp), ht, if_pos rfl] at h
              exact h
            · rw [if_neg h6] at ht
              by_cases h7 : K = 7
              · subst h7
                rw [if_pos rfl] at ht
                unfold isSignM at ht
                obtain ⟨y, hy, he⟩ := List.any_eq_true.1 ht
                have := of_decide_eq_true he
                subst this
                obtain ⟨s1, s2, c, q, s3, s4, s5, s6, s7, s8⟩ := signM_self hy hr
                refine ⟨?_, s2⟩
                rw [s3] at s1 ⊢
                rw [List.cons_append] at s1 ⊢
                rw [lexM, if_neg (by simp [s4]), if_neg (by simp [s5, s6]), if_neg (by simp [s7]), if_neg s8, s1]
                rfl
              · rw [if_neg h7] at ht
                by_cases h8' : K = 8
                · exact (h8 h8').elim
                · rw [if_neg h8'] at ht
                  cases ht
/-- A WHOLE LIST COMES BACK, at other places -/
def atP (p : Nat) : List VToken → List VToken
  | [] => []
  | t :: r => ⟨t.Kind, t.Text, t.Num, p⟩ :: atP (p + (tokB t).size + 1) r
theorem atP_len (p : Nat) (l : List VToken) : (atP p l).length = l.length := by
  induction l generalizing p with
  | nil => rfl
  | cons t r ih => simp [atP, ih]
theorem atP_get (p : Nat) (l : List VToken) (i : Nat) (h : i < l.length) : ∃ q : Nat, (atP p l)[i]? = some ⟨l[i].Kind, l[i].Text, l[i].Num, q⟩ := by
  induction l generalizing p i with
  | nil => simp at h
  | cons t r ih =>
    cases i with
    | zero => exact ⟨p, rfl⟩
    | succ i =>
      obtain ⟨q, hq⟩ := ih (p + (tokB t).size + 1) i (by simpa using h)
      exact ⟨q, by simpa [atP] using hq⟩
theorem allM_spell (most : Nat) : ∀ (l : List VToken) (p : Nat) (acc : List VToken), (∀ t ∈ l, tokenM t = true ∧ t.Kind ≠ 8 ∧ t.ok) → acc.length + l.length ≤ most →
    ∃ e : Nat, allM most (bs (joinB byteSp (l.map tokB))) p acc = (acc ++ atP p l ++ [⟨8, ⟨#[]⟩, 0, e⟩], (0, 0))
  | [], p, acc, _, _ => ⟨p, by
    have : bs (joinB byteSp (([] : List VToken).map tokB)) = [] := rfl
    rw [this, allM_nil, atP, List.append_nil]⟩
  | t :: r, p, acc, h, hm => by
    obtain ⟨h1, h2, h3⟩ := h t (by simp)
    have hr : ∀ x ∈ r, tokenM x = true ∧ x.Kind ≠ 8 ∧ x.ok := fun x hx => h x (by simp [hx])
    simp only [List.length_cons] at hm
    have hs : sep0 (bs (tailB byteSp (r.map tokB))) := by
      cases r with
      | nil => exact .inl rfl
      | cons y r => exact .inr ⟨_, by rw [List.map_cons, tailB, appA, bs_app]; rfl⟩
    obtain ⟨q1, q2⟩ := lex_tok h1 h2 h3 hs p
    obtain ⟨c, q, hcq, hb1, hb2⟩ := q2
    rw [List.map_cons, joinB, bs_app]
    rw [hcq] at q1 ⊢
    rw [allM_tok most hb1 hb2, q1]
    simp only
    rw [if_neg (by omega), ← hcq]
    have hd : (bs (tokB t) ++ bs (tailB byteSp (r.map tokB))).drop (tokB t).size = bs (tailB byteSp (r.map tokB)) := by
      rw [← bs_len]; simp
    rw [hd]
    cases r with
    | nil =>
      refine ⟨p + (tokB t).size, ?_⟩
      have : bs (tailB byteSp (([] : List VToken).map tokB)) = [] := rfl
      rw [this, allM_nil]
      rfl
    | cons y r =>
      have e : bs (tailB byteSp ((y :: r).map tokB)) = 32 :: bs (joinB byteSp ((y :: r).map tokB)) := by
        rw [List.map_cons, tailB, joinB, appA, bs_app]; rfl
      rw [e, allM_blank most rfl]
      obtain ⟨e2, he⟩ := allM_spell most (y :: r) (p + (tokB t).size + 1) (acc ++ [⟨t.Kind, t.Text, t.Num, p⟩]) hr (by simp only [List.length_append, List.length_cons, List.length_nil] at hm ⊢; omega)
      refine ⟨e2, ?_⟩
      have ea : atP p (t :: y :: r) = ⟨t.Kind, t.Text, t.Num, p⟩ :: atP (p + (tokB t).size + 1) (y :: r) := rfl
      rw [he, ea]
      simp only [List.append_assoc, List.cons_append, List.nil_append]
end Go.Ab
