/-
  REGIONS THAT DRAW THEIR ORDER (2): a run in the text's order is a run in every order that the edges allow.
-/
import Derived.Test.YtaaoifpijmbhoaaAbDraw
set_option linter.unusedVariables false
set_option linter.unusedSimpArgs false
set_option linter.defProp false
namespace Go.Ab

/-- one operation of a region: carried out, or left out -/
inductive Step (P : Program) (o : AOper) (e : Env) (O : List AObj) : Env → List AObj → Prop
  | run (x : AV) (O' : List AObj) : (∀ t want, o.guard = some (t, want) → e t = .v (.bool want)) → Ex P o.op e O x O' → Step P o e O (setD e o.dst x) O'
  | skip (t : Nat) (want : Bool) : o.guard = some (t, want) → (e t = .v (.bool (!want)) ∨ e t = .tup []) → Step P o e O (setD e o.dst (.tup [])) O

inductive Run (P : Program) : List AOper → Env → List AObj → Env → List AObj → Prop
  | nil (e : Env) (O : List AObj) : Run P [] e O e O
  | cons {o : AOper} {l : List AOper} {e e1 e2 : Env} {O O1 O2 : List AObj} : Step P o e O e1 O1 → Run P l e1 O1 e2 O2 → Run P (o :: l) e O e2 O2

theorem set_self {e : Env} {t : Nat} {a : AV} (h : e t = a) : e.set t a = e := by
  funext k; unfold Env.set; split
  · rename_i hk; subst hk; exact h.symm
  · rfl

theorem run_of_wp {P : Program} : ∀ (l : List AOper) {e : Env} {O : List AObj} {K : Env → List AObj → Prop}, wpOps P l e O K → ∃ e' O', Run P l e O e' O' ∧ K e' O'
  | [], e, O, K, h => ⟨e, O, .nil e O, h⟩
  | o :: l, e, O, K, h => by
    simp only [wpOps] at h
    cases hg : o.guard with
    | none =>
      rw [hg] at h
      obtain ⟨x, O', h1, h2⟩ := exAny h
      obtain ⟨e2, O2, h3, h4⟩ := run_of_wp l h1
      exact ⟨e2, O2, .cons (.run x O' (fun t want h => by rw [hg] at h; cases h) h2) h3, h4⟩
    | some g =>
      obtain ⟨t, want⟩ := g
      rw [hg] at h
      simp only at h
      split at h
      · rename_i b hb
        by_cases hbw : b = want
        · have hs : e.set t (.v (.bool want)) = e := set_self (by rw [hb, hbw])
          rw [hs] at h
          obtain ⟨x, O', h1, h2⟩ := exAny (h.1 hbw)
          obtain ⟨e2, O2, h3, h4⟩ := run_of_wp l h1
          exact ⟨e2, O2, .cons (.run x O' (fun t' want' h => by rw [hg] at h; cases h; rw [hb, hbw]) h2) h3, h4⟩
        · have hbn : b = !want := by cases b <;> cases want <;> simp_all
          have hs : e.set t (.v (.bool (!want))) = e := set_self (by rw [hb, hbn])
          rw [hs] at h
          obtain ⟨e2, O2, h3, h4⟩ := run_of_wp l (h.2 hbn)
          exact ⟨e2, O2, .cons (.skip t want hg (.inl (by rw [hb, hbn]))) h3, h4⟩
      · rename_i hb
        obtain ⟨e2, O2, h3, h4⟩ := run_of_wp l h
        exact ⟨e2, O2, .cons (.skip t want hg (.inr hb)) h3, h4⟩
      · exact h.elim

def AOper.reads (o : AOper) : List Nat := (match o.guard with | some (t, _) => [t] | none => []) ++ o.op.reads

/-- may p, which stands ahead of i in the text, be carried out behind it? -/
def indep (p i : AOper) : Bool :=
  (match p.dst with
    | some t => !(i.reads.contains t) && !(i.dst == some t)
    | none => true) &&
  (match i.dst with
    | some t => !(p.reads.contains t)
    | none => true) &&
  (p.op.cls == 0 || i.op.cls == 0 || (p.op.cls == 1 && i.op.cls == 1) || (p.op.cls == 1 && i.op.cls == 2))

theorem setD_comm {e : Env} {d d' : Option Nat} {a b : AV} (h : d = none ∨ d ≠ d') : setD (setD e d a) d' b = setD (setD e d' b) d a := by
  cases d <;> cases d' <;> simp only [setD]
  rename_i t t'
  have hne : t ≠ t' := by
    rcases h with h | h
    · cases h
    · intro he; exact h (by rw [he])
  funext k
  simp only [Env.set]
  by_cases h1 : k = t
  · subst h1
    rw [if_neg hne, if_pos rfl, if_pos rfl]
  · rw [if_neg h1, if_neg h1]

theorem agree_setD {l : List Nat} {e : Env} {d : Option Nat} {a : AV} (h : ∀ t, d = some t → t ∉ l) : agree l (setD e d a) e := by
  intro t ht
  cases d with
  | none => rfl
  | some d =>
    simp only [setD, Env.set]
    rw [if_neg]
    intro he; subst he; exact h _ rfl ht

theorem Ex.congr {P : Program} {o : AOp} {e e' : Env} {O O' : List AObj} {x : AV} (h : Ex P o e O x O') (ha : agree o.reads e' e) : Ex P o e' O x O' := by
  intro K hk
  rw [wpOp_congr ha]
  exact h K hk

theorem Ex.zero {P : Program} {o : AOp} {e : Env} {O O' : List AObj} {x : AV} (h : Ex P o e O x O') (hc : o.cls = 0) : O' = O ∧ ∀ O'', Ex P o e O'' x O'' := by
  obtain ⟨y, ⟨h1, h2⟩, h3⟩ := ex0 hc (h (fun a b => a = x ∧ b = O') ⟨rfl, rfl⟩)
  subst h1
  exact ⟨h2.symm, h3⟩

theorem Ex.one {P : Program} {o : AOp} {e : Env} {O O' : List AObj} {x : AV} (h : Ex P o e O x O') (hc : o.cls = 1) : O' = O ∧ ∀ b, Ex P o e (O ++ [b]) x (O ++ [b]) := by
  obtain ⟨y, ⟨h1, h2⟩, _, h3⟩ := ex1 hc (h (fun a b => a = x ∧ b = O') ⟨rfl, rfl⟩)
  subst h1
  exact ⟨h2.symm, h3⟩

theorem Ex.two {P : Program} {o : AOp} {e : Env} {O O' : List AObj} {x : AV} (h : Ex P o e O x O') (hc : o.cls = 2) : ∃ b, O' = O ++ [b] := by
  obtain ⟨y, b, ⟨_, h2⟩, _⟩ := ex2 hc (h (fun a b => a = x ∧ b = O') ⟨rfl, rfl⟩)
  exact ⟨b, h2.symm⟩

theorem indep_inv {p i : AOper} (h : indep p i = true) :
    (∀ t, p.dst = some t → t ∉ i.reads) ∧ (p.dst = none ∨ p.dst ≠ i.dst) ∧ (∀ t, i.dst = some t → t ∉ p.reads) ∧
    (p.op.cls = 0 ∨ i.op.cls = 0 ∨ (p.op.cls = 1 ∧ i.op.cls = 1) ∨ (p.op.cls = 1 ∧ i.op.cls = 2)) := by
  unfold indep at h
  simp only [Bool.and_eq_true, Bool.or_eq_true, beq_iff_eq] at h
  obtain ⟨⟨h1, h2⟩, h3⟩ := h
  refine ⟨fun t ht => ?_, ?_, fun t ht => ?_, ?_⟩
  · rw [ht] at h1; simp at h1; exact h1.1
  · cases hp : p.dst with
    | none => exact .inl rfl
    | some t => rw [hp] at h1; simp at h1; exact .inr fun he => h1.2 he.symm
  · rw [ht] at h2; simpa using h2
  · rcases h3 with ((h3 | h3) | h3) | h3
    · exact .inl h3
    · exact .inr (.inl h3)
    · exact .inr (.inr (.inl h3))
    · exact .inr (.inr (.inr h3))

theorem step_swap {P : Program} {p i : AOper} (hd : indep p i = true) {e e1 e2 : Env} {O O1 O2 : List AObj} (h1 : Step P p e O e1 O1) (h2 : Step P i e1 O1 e2 O2) :
    ∃ e1' O1', Step P i e O e1' O1' ∧ Step P p e1' O1' e2 O2 := by
  obtain ⟨d1, d2, d3, d4⟩ := indep_inv hd
  have gi : ∀ {t want a}, i.guard = some (t, want) → setD e p.dst a t = e t := by
    intro t want a hg
    exact agree_setD (l := i.reads) d1 t (by simp [AOper.reads, hg])
  have gp : ∀ {t want} {e' : Env} {a}, p.guard = some (t, want) → setD e' i.dst a t = e' t := by
    intro t want e' a hg
    exact agree_setD (l := p.reads) d3 t (by simp [AOper.reads, hg])
  have ri : ∀ {a}, agree i.op.reads e (setD e p.dst a) := fun {a} t ht => (agree_setD (l := i.reads) d1 t (by simp [AOper.reads, ht])).symm
  have rp : ∀ {e' a}, agree p.op.reads (setD e' i.dst a) e' := fun {e' a} t ht => agree_setD (l := p.reads) d3 t (by simp [AOper.reads, ht])
  cases h1 with
  | skip t want hg hb =>
    cases h2 with
    | skip t' want' hg' hb' =>
      rw [gi hg'] at hb'
      refine ⟨_, _, .skip t' want' hg' hb', ?_⟩
      rw [setD_comm d2]
      refine .skip t want hg ?_
      rw [gp hg]; exact hb
    | run y _ hq hy =>
      refine ⟨_, _, .run y O2 (fun t' want' hg' => by rw [← gi hg']; exact hq t' want' hg') (hy.congr ri), ?_⟩
      rw [setD_comm d2]
      refine .skip t want hg ?_
      rw [gp hg]; exact hb
  | run x _ hq hx =>
    cases h2 with
    | skip t' want' hg' hb' =>
      rw [gi hg'] at hb'
      refine ⟨_, _, .skip t' want' hg' hb', ?_⟩
      rw [setD_comm d2]
      exact .run x O1 (fun t want hg => by rw [gp hg]; exact hq t want hg) (hx.congr rp)
    | run y _ hq' hy =>
      have hy' := hy.congr (ri (a := x))
      have gq : ∀ t want, i.guard = some (t, want) → e t = .v (.bool want) := fun t' want' hg' => by rw [← gi hg']; exact hq' t' want' hg'
      have gp' : ∀ a t want, p.guard = some (t, want) → setD e i.dst a t = .v (.bool want) := fun a t want hg => by rw [gp hg]; exact hq t want hg
      rcases d4 with hc | hc | ⟨hc, hc'⟩ | ⟨hc, hc'⟩
      · obtain ⟨rfl, hall⟩ := hx.zero hc
        refine ⟨_, _, .run y O2 gq hy', ?_⟩
        rw [setD_comm d2]
        exact .run x O2 (gp' y) ((hall O2).congr rp)
      · obtain ⟨rfl, hall⟩ := hy'.zero hc
        refine ⟨_, _, .run y O gq (hall O), ?_⟩
        rw [setD_comm d2]
        exact .run x O2 (gp' y) (hx.congr rp)
      · obtain ⟨rfl, _⟩ := hx.one hc
        obtain ⟨rfl, _⟩ := hy'.one hc'
        refine ⟨_, _, .run y _ gq hy', ?_⟩
        rw [setD_comm d2]
        exact .run x _ (gp' y) (hx.congr rp)
      · obtain ⟨rfl, hmore⟩ := hx.one hc
        obtain ⟨b, rfl⟩ := hy'.two hc'
        refine ⟨_, _, .run y _ gq hy', ?_⟩
        rw [setD_comm d2]
        exact .run x _ (gp' y) ((hmore b).congr rp)

theorem run_front {P : Program} {i : AOper} {post : List AOper} : ∀ (pre : List AOper), (∀ p ∈ pre, indep p i = true) → ∀ {e e2 : Env} {O O2 : List AObj}, Run P (pre ++ i :: post) e O e2 O2 → Run P (i :: (pre ++ post)) e O e2 O2
  | [], _, _, _, _, _, h => h
  | p :: pre, hp, e, e2, O, O2, h => by
    cases h with
    | cons hs hr =>
      have := run_front pre (fun q hq => hp q (by simp [hq])) hr
      cases this with
      | cons hi hr' =>
        obtain ⟨e1', O1', s1, s2⟩ := step_swap (hp p (by simp)) hs hi
        exact .cons s1 (.cons s2 hr')

end Go.Ab
