/-
  REGIONS THAT DRAW THEIR ORDER (3): the model's schedules.
-/
import Derived.Test.YtaaoifpijmbhoaaAbDraw2
set_option linter.unusedVariables false
set_option linter.unusedSimpArgs false
set_option linter.defProp false
namespace Go.Ab

/-- row n: the operations that stand ahead of operation n by the edges, as bits -/
def cloN (rows : List (List Nat)) : Nat → List Nat
  | 0 => []
  | n + 1 => let acc := cloN rows n; acc ++ [(rows.getD n []).foldl (fun s j => s ||| (2 ^ j ||| acc.getD j 0)) 0]

theorem cloN_length (rows : List (List Nat)) (n : Nat) : (cloN rows n).length = n := by
  induction n with
  | zero => rfl
  | succ n ih => simp [cloN, ih]

theorem cloN_get (rows : List (List Nat)) {i n : Nat} (h : i < n) : (cloN rows n).getD i 0 = (rows.getD i []).foldl (fun s j => s ||| (2 ^ j ||| (cloN rows i).getD j 0)) 0 := by
  induction n with
  | zero => omega
  | succ n ih =>
    simp only [cloN]
    by_cases hi : i < n
    · rw [List.getD, List.getElem?_append_left (by rw [cloN_length]; exact hi)]
      exact ih hi
    · obtain rfl : i = n := by omega
      rw [List.getD, List.getElem?_append_right (by rw [cloN_length]; exact Nat.le_refl _)]
      simp [cloN_length]

theorem cloN_stable (rows : List (List Nat)) {i n m : Nat} (h : i < n) (h' : i < m) : (cloN rows n).getD i 0 = (cloN rows m).getD i 0 := by
  rw [cloN_get rows h, cloN_get rows h']

theorem testBit_fold (f : Nat → Nat) (p : Nat) : ∀ (l : List Nat) (s : Nat), (l.foldl (fun s j => s ||| (2 ^ j ||| f j)) s).testBit p = true → s.testBit p = true ∨ ∃ j ∈ l, p = j ∨ (f j).testBit p = true
  | [], s, h => .inl h
  | j :: l, s, h => by
    rcases testBit_fold f p l _ h with h1 | ⟨k, hk, h1⟩
    · rw [Nat.testBit_or, Nat.testBit_or] at h1
      simp only [Bool.or_eq_true] at h1
      rcases h1 with h1 | h1 | h1
      · exact .inl h1
      · rw [Nat.testBit_two_pow] at h1
        exact .inr ⟨j, by simp, .inl (by simpa using (of_decide_eq_true h1).symm)⟩
      · exact .inr ⟨j, by simp, .inr h1⟩
    · exact .inr ⟨k, by simp [hk], h1⟩

/-- what stands ahead is in every set that the edges close -/
theorem clo_in {rows : List (List Nat)} {n : Nat} {S : Nat → Prop} (hrows : ∀ i, i < n → ∀ d ∈ rows.getD i [], d < i) (hS : ∀ j, j < n → S j → ∀ d ∈ rows.getD j [], S d) :
    ∀ i, i < n → (∀ d ∈ rows.getD i [], S d) → ∀ p, ((cloN rows n).getD i 0).testBit p = true → S p := by
  intro i
  induction i using Nat.strongRecOn with
  | _ i ih =>
    intro hi hd p hp
    rw [cloN_get rows hi] at hp
    rcases testBit_fold _ p _ _ hp with h | ⟨j, hj, h⟩
    · simp at h
    · have hji := hrows i hi j hj
      rcases h with rfl | h
      · exact hd p hj
      · exact ih j hji (by omega) (hS j (by omega) (hd j hj)) p (by rw [cloN_stable rows (show j < n by omega) hji]; exact h)

def drawOk (rows : List (List Nat)) (al : List AOper) : Bool :=
  let c := cloN rows al.length
  (List.range al.length).all fun i => (rows.getD i []).all (· < i) &&
    (List.range i).all fun p => (c.getD i 0).testBit p || (match al[p]?, al[i]? with | some x, some y => indep x y | _, _ => false)

section
variable {P : Program} {ops : Array Oper} {al : List AOper}

theorem rows_get {i : Nat} {o : Oper} (h : ops[i]? = some o) : (rowsOf ops).getD i [] = (o.after.toList.filter (Region.binds .any)).map (·.on) := by
  have : ops.toList[i]? = some o := by simpa using h
  simp [rowsOf, List.getD, this]

theorem go_run (hlen : al.length = ops.size) (hok : drawOk (rowsOf ops) al = true) {e2 : Env} {O2 : List AObj} :
    ∀ (fuel t : Nat) (listed : Array Bool) (acc rem : List Nat) (e : Env) (O : List AObj), listed.size = ops.size → rem.length ≤ fuel → rem.Pairwise (· < ·) → (∀ j, j ∈ rem ↔ j < ops.size ∧ listed.getD j true = false) →
      (∀ j, j < ops.size → listed.getD j true = true → ∀ d ∈ (rowsOf ops).getD j [], listed.getD d true = true) →
      Run P (rem.map fun i => al.getD i ⟨none, none, .mov (.c .top)⟩) e O e2 O2 →
      ∃ l, Region.linearise.go .any ops fuel t listed acc = acc.reverse ++ l ∧ Run P (l.map fun i => al.getD i ⟨none, none, .mov (.c .top)⟩) e O e2 O2 ∧ ∀ i ∈ l, i < ops.size := by
  have hok' : ∀ i, i < ops.size → (∀ d ∈ (rowsOf ops).getD i [], d < i) ∧ ∀ p, p < i → ((cloN (rowsOf ops) ops.size).getD i 0).testBit p = true ∨ indep (al.getD p ⟨none, none, .mov (.c .top)⟩) (al.getD i ⟨none, none, .mov (.c .top)⟩) = true := by
    intro i hi
    unfold drawOk at hok
    simp only [List.all_eq_true, List.mem_range, Bool.and_eq_true, Bool.or_eq_true, decide_eq_true_eq, hlen] at hok
    obtain ⟨h1, h2⟩ := hok i hi
    refine ⟨h1, fun p hp => ?_⟩
    rcases h2 p hp with h | h
    · exact .inl h
    · refine .inr ?_
      have e1 : al[p]? = some (al.getD p ⟨none, none, .mov (.c .top)⟩) := by simp [List.getD, show p < al.length by omega]
      have e2 : al[i]? = some (al.getD i ⟨none, none, .mov (.c .top)⟩) := by simp [List.getD, show i < al.length by omega]
      rw [e1, e2] at h
      exact h
  intro fuel
  induction fuel with
  | zero =>
    intro t listed acc rem e O hsz hf hpw hmem hcl hr
    obtain rfl : rem = [] := List.eq_nil_of_length_eq_zero (by omega)
    exact ⟨[], by simp [Region.linearise.go], hr, by simp⟩
  | succ fuel ih =>
    intro t listed acc rem e O hsz hf hpw hmem hcl hr
    simp only [Region.linearise.go]
    generalize hrs : (List.range ops.size).filter (fun i => !listed.getD i true && ((ops[i]?).map (·.after.all fun e => !Region.binds .any e || listed.getD e.on false)).getD false) = rs
    cases hg : rs[t % rs.length]? with
    | none =>
      have hempty : rs = [] := by
        by_cases h0 : rs.length = 0
        · exact List.eq_nil_of_length_eq_zero h0
        · have := Nat.mod_lt t (Nat.pos_of_ne_zero h0)
          rw [List.getElem?_eq_getElem this] at hg; cases hg
      have hrem : rem = [] := by
        cases rem with
        | nil => rfl
        | cons i r =>
          exfalso
          obtain ⟨hi, hli⟩ := (hmem i).1 (by simp)
          have hmin : ∀ d, d < i → listed.getD d true = true := by
            intro d hdi
            cases hld : listed.getD d true with
            | true => rfl
            | false =>
              have hm := (hmem d).2 ⟨by omega, hld⟩
              rcases List.mem_cons.1 hm with rfl | hm
              · omega
              · have := List.rel_of_pairwise_cons hpw hm; omega
          have : i ∈ rs := by
            rw [← hrs, List.mem_filter]
            refine ⟨List.mem_range.2 hi, ?_⟩
            have ho : ops[i]? = some ops[i] := by simp [hi]
            simp only [hli, Bool.not_false, Bool.true_and, ho, Option.map_some, Option.getD_some, Array.all_eq_true, Bool.or_eq_true]
            intro j hj
            by_cases hbj : Region.binds .any (ops[i].after[j]) = true
            rotate_left
            · exact .inl (by simpa using hbj)
            refine .inr ?_
            have hdi : (ops[i].after[j]).on < i := (hok' i hi).1 _ (by rw [rows_get ho]; exact List.mem_map.2 ⟨_, List.mem_filter.2 ⟨Array.getElem_mem_toList hj, hbj⟩, rfl⟩)
            have := hmin _ hdi
            have hlt : (ops[i].after[j]).on < listed.size := by omega
            simp [Array.getD, hlt] at this ⊢
            exact this
          rw [hempty] at this; cases this
      subst hrem
      exact ⟨[], by simp, hr, by simp⟩
    | some i =>
      have hmi : i ∈ rs := List.mem_of_getElem? hg
      rw [← hrs, List.mem_filter] at hmi
      obtain ⟨hi, hprop⟩ := hmi
      have hi : i < ops.size := List.mem_range.1 hi
      have ho : ops[i]? = some ops[i] := by simp [hi]
      simp only [ho, Option.map_some, Option.getD_some, Bool.and_eq_true, Bool.not_eq_true', Array.all_eq_true, Bool.or_eq_true] at hprop
      obtain ⟨hli, hall⟩ := hprop
      have hdeps : ∀ d ∈ (rowsOf ops).getD i [], listed.getD d true = true := by
        intro d hdm
        rw [rows_get ho] at hdm
        obtain ⟨ed, hed0, rfl⟩ := List.mem_map.1 hdm
        obtain ⟨hed, hbe⟩ := List.mem_filter.1 hed0
        obtain ⟨j, hj⟩ := List.getElem?_of_mem hed
        obtain ⟨hjl, hje⟩ := List.getElem?_eq_some_iff.1 hj
        have hjl' : j < ops[i].after.size := by simpa using hjl
        have hje' : ops[i].after[j] = ed := by simpa using hje
        rcases hall j hjl' with h | h
        · rw [hje', hbe] at h; simp at h
        · rw [hje'] at h
          by_cases hlt : ed.on < listed.size
          · simp [Array.getD, hlt] at h ⊢; exact h
          · simp [Array.getD, hlt] at h
      have hirem : i ∈ rem := (hmem i).2 ⟨hi, hli⟩
      obtain ⟨pre, post, rfl⟩ := List.append_of_mem hirem
      have hpw' := List.pairwise_append.1 hpw
      have hpre : ∀ p ∈ pre, p < i := fun p hp => hpw'.2.2 p hp i (by simp)
      have hpost : ∀ p ∈ post, i < p := fun p hp => List.rel_of_pairwise_cons hpw'.2.1 hp
      have hfront := run_front (P := P) (i := al.getD i ⟨none, none, .mov (.c .top)⟩) (post := post.map fun i => al.getD i ⟨none, none, .mov (.c .top)⟩) (pre.map fun i => al.getD i ⟨none, none, .mov (.c .top)⟩) (by
        intro q hq
        obtain ⟨p, hp, rfl⟩ := List.mem_map.1 hq
        rcases (hok' i hi).2 p (hpre p hp) with h | h
        · exfalso
          have := clo_in (S := fun j => listed.getD j true = true) (fun j hj => (hok' j hj).1) hcl i hi hdeps p h
          have hpm := ((hmem p).1 (by simp [hp])).2
          rw [hpm] at this; cases this
        · exact h) (by simpa using hr)
      cases hfront with
      | cons hs hrest =>
        have hne : ∀ j, j ∈ pre ++ post → j ≠ i := by
          intro j hj he
          subst he
          rcases List.mem_append.1 hj with h | h
          · have := hpre j h; omega
          · have := hpost j h; omega
        have hset : ∀ j, (listed.setIfInBounds i true).getD j true = if j = i then true else listed.getD j true := by
          intro j
          simp only [Array.getD_eq_getD_getElem?, Array.getElem?_setIfInBounds]
          by_cases hji : i = j
          · subst hji; simp [hsz, hi]
          · rw [if_neg hji, if_neg (fun h => hji h.symm)]
        obtain ⟨l, h1, h2, h3⟩ := ih (t / rs.length) (listed.setIfInBounds i true) (i :: acc) (pre ++ post) _ _ (by simp [hsz]) (by simp at hf ⊢; omega)
          (List.pairwise_append.2 ⟨hpw'.1, (List.pairwise_cons.1 hpw'.2.1).2, fun x hx y hy => hpw'.2.2 x hx y (by simp [hy])⟩)
          (by
            intro j
            rw [hset]
            constructor
            · intro hj
              rw [if_neg (hne j hj)]
              exact (hmem j).1 (by rcases List.mem_append.1 hj with h | h <;> simp [h])
            · rintro ⟨hj1, hj2⟩
              by_cases hji : j = i
              · rw [if_pos hji] at hj2; cases hj2
              · rw [if_neg hji] at hj2
                have := (hmem j).2 ⟨hj1, hj2⟩
                simp only [List.mem_append, List.mem_cons] at this ⊢
                rcases this with h | h | h
                · exact .inl h
                · exact (hji h).elim
                · exact .inr h)
          (by
            intro j hj hlj d hd
            rw [hset] at hlj ⊢
            split
            · rfl
            · by_cases hji : j = i
              · subst hji; exact hdeps d hd
              · rw [if_neg hji] at hlj; exact hcl j hj hlj d hd)
          (by simpa using hrest)
        refine ⟨i :: l, by simp [h1], ?_, fun j hj => ?_⟩
        · exact .cons hs h2
        · rcases List.mem_cons.1 hj with rfl | h
          · exact hi
          · exact h3 j h

theorem schedule_run {mixed : Bool} (hd : Region.departs ops = false ∨ mixed = true) (hlen : al.length = ops.size) (hok : drawOk (rowsOf ops) al = true) {e e2 : Env} {O O2 : List AObj} (hr : Run P al e O e2 O2) (t : Nat) :
    Run P ((Region.schedule mixed ops t).map fun i => al.getD i ⟨none, none, .mov (.c .top)⟩) e O e2 O2 ∧ ∀ i ∈ Region.schedule mixed ops t, i < ops.size := by
  have hs : Region.schedule mixed ops t = Region.linearise .any ops t := by rcases hd with hd | hd <;> simp [Region.schedule, hd]
  rw [hs]
  have hall : (List.range ops.size).map (fun i => al.getD i ⟨none, none, .mov (.c .top)⟩) = al := by
    apply List.ext_getElem
    · simp [hlen]
    · intro i h1 h2
      simp [List.getD, h2]
  obtain ⟨l, h1, h2, h3⟩ := go_run (P := P) hlen hok ops.size t (Array.replicate ops.size false) [] (List.range ops.size) e O (by simp) (by simp) List.pairwise_lt_range
    (fun j => by
      rw [List.mem_range]
      constructor
      · intro h; exact ⟨h, by simp [Array.getD, h]⟩
      · exact fun h => h.1)
    (fun j hj h => by simp [Array.getD, hj] at h)
    (by rw [hall]; exact hr)
  simp only [Region.linearise]
  rw [h1]
  simpa using ⟨h2, h3⟩

end
end Go.Ab
