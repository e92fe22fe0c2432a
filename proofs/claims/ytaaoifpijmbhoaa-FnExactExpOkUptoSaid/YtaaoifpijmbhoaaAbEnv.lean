/-
  SLOTS AS LISTS; WEAKENING: what is no longer wanted is forgotten.
-/
import Derived.Test.YtaaoifpijmbhoaaAbCodeS
set_option linter.unusedVariables false
set_option linter.unusedSimpArgs false
set_option linter.defProp false
namespace Go.Ab
universe u

/-- an equation that the walk uses as such, not by unfolding -/
theorem nr {α : Sort u} {a b : α} (h : a = b) : a = b := h

def envL : List (Nat × AV) → Env
  | [], _ => .top
  | (k, a) :: l, t => if t = k then a else envL l t

theorem set_at (e : Env) (t : Nat) (a : AV) (k : Nat) : (e.set t a) k = if k = t then a else e k := nr rfl
theorem envL_cons (k : Nat) (a : AV) (l : List (Nat × AV)) (t : Nat) : envL ((k, a) :: l) t = if t = k then a else envL l t := nr rfl
theorem entry_at (args : List AV) (t : Nat) : entryE args t = args.getD t (.tup []) := nr rfl

theorem keepE_eq (live : List Nat) (e : Env) : keepE live e = envL (live.map fun t => (t, e t)) := by
  funext t
  induction live with
  | nil => rfl
  | cons k l ih =>
    simp only [List.map_cons, envL_cons]
    unfold keepE at ih ⊢
    by_cases h : t = k
    · subst h; simp
    · rw [if_neg h, ← ih]
      simp [h]

mutual
/-- all references are to objects ahead of k -/
def AV.inScope (k : Nat) : AV → Bool
  | .top | .v _ | .nils => true
  | .sl xs => AV.scopeds k xs
  | .iptr x _ => x.inScope k
  | .row n _ => n < k
  | .ptr n _ _ _ => n < k
  | .fn _ cs => AV.scopeds k cs
  | .agg cs => AV.scopeds k cs
  | .tup vs => AV.scopeds k vs
def AV.scopeds (k : Nat) : List AV → Bool
  | [] => true
  | x :: xs => x.inScope k && AV.scopeds k xs
end

theorem scopeds_mem {k : Nat} {xs : List AV} (h : AV.scopeds k xs = true) : ∀ x ∈ xs, x.inScope k = true := by
  induction xs with
  | nil => simp
  | cons y ys ih =>
    simp only [AV.scopeds, Bool.and_eq_true] at h
    intro x hx
    rcases List.mem_cons.1 hx with rfl | hx
    · exact h.1
    · exact ih h.2 x hx

mutual
theorem noref_scoped {k : Nat} : ∀ (x : AV), x.noref = true → x.inScope k = true
  | .top, _ | .v _, _ | .nils, _ => rfl
  | .sl xs, h => by simp only [AV.noref, AV.inScope] at *; exact norefs_scopeds xs h
  | .iptr x _, h => by simp only [AV.noref, AV.inScope] at *; exact noref_scoped x h
  | .row _ _, h => by simp [AV.noref] at h
  | .ptr _ _ _ _, h => by simp [AV.noref] at h
  | .fn _ cs, h => by simp only [AV.noref, AV.inScope] at *; exact norefs_scopeds cs h
  | .agg cs, h => by simp only [AV.noref, AV.inScope] at *; exact norefs_scopeds cs h
  | .tup cs, h => by simp only [AV.noref, AV.inScope] at *; exact norefs_scopeds cs h
theorem norefs_scopeds {k : Nat} : ∀ (xs : List AV), AV.norefs xs = true → AV.scopeds k xs = true
  | [], _ => rfl
  | x :: xs, h => by
    simp only [AV.norefs, AV.scopeds, Bool.and_eq_true] at *
    exact ⟨noref_scoped x h.1, norefs_scopeds xs h.2⟩
end

theorem scoped_cells {k : Nat} {x : AV} (h : x.inScope k = true) : ∀ c ∈ x.cells, c.inScope k = true := by
  cases x <;> simp only [AV.cells] <;> try (intro c hc; simp at hc; subst hc; exact h)
  simp only [AV.inScope] at h
  exact scopeds_mem h

def AObj.inScope (k : Nat) : AObj → Bool
  | .dead => true
  | .nil _ _ => true
  | .live _ _ xs => AV.scopeds k xs

theorem R.take {I : Imm} {L : Nat → Loc} {O : List AObj} {k : Nat} (hk : k ≤ O.length) {a : AV} {x : Value} (hr : R I L O a x) (h : a.inScope k = true) : R I L (O.take k) a x := by
  have hget : ∀ {n : Nat}, n < k → (O.take k)[n]? = O[n]? := fun {n} hn => by rw [List.getElem?_take, if_pos hn]
  have hlen : (O.take k).length = k := by simp; omega
  induction hr with
  | top x => exact .top x
  | v x hx => exact .v x hx
  | nils => exact .nils
  | sl0 a cap => exact .sl0 a cap
  | sl xs blk off cap s vals h1 h2 h3 h4 _ ih =>
    refine .sl xs blk off cap s vals h1 h2 h3 h4 fun i x j c hi hj => ih i x j c hi hj ?_
    exact scoped_cells (scopeds_mem (by simpa [AV.inScope] using h) x (List.mem_of_getElem? hi)) c (List.mem_of_getElem? hj)
  | iptr x f blk base vals h1 _ ih =>
    refine .iptr x f blk base vals h1 fun j c hj => ih j c hj ?_
    exact scoped_cells (by simpa [AV.inScope] using h) c (List.mem_of_getElem? hj)
  | rowLive n len e s xs hn hl =>
    have hn' : n < k := by simpa [AV.inScope] using h
    exact .rowLive n len e s xs (by rw [hget hn']; exact hn) hl
  | rowNil n e s hn =>
    have hn' : n < k := by simpa [AV.inScope] using h
    exact .rowNil n e s (by rw [hget hn']; exact hn)
  | rowDead n len x hn hnn hs hx =>
    have hn' : n < k := by simpa [AV.inScope] using h
    exact .rowDead n len x (by omega) (fun e s he => hnn e s (by rwa [hget hn'] at he)) (fun e s xs hxs => hs e s xs (by rwa [hget hn'] at hxs)) hx
  | ptrLive n len i f e s xs hn hl =>
    have hn' : n < k := by simpa [AV.inScope] using h
    exact .ptrLive n len i f e s xs (by rw [hget hn']; exact hn) hl
  | ptrDead n len i f x hn hnn hs hx =>
    have hn' : n < k := by simpa [AV.inScope] using h
    exact .ptrDead n len i f x (by omega) (fun e s he => hnn e s (by rwa [hget hn'] at he)) (fun e s xs hxs => hs e s xs (by rwa [hget hn'] at hxs)) hx
  | fn f caps vs h1 _ ih => exact .fn f caps vs h1 fun i c x hi hx => ih i c x hi hx (scopeds_mem (by simpa [AV.inScope] using h) c (List.mem_of_getElem? hi))
  | agg cs vs h1 _ ih => exact .agg cs vs h1 fun i c x hi hx => ih i c x hi hx (scopeds_mem (by simpa [AV.inScope] using h) c (List.mem_of_getElem? hi))
  | tup cs vs h1 _ ih => exact .tup cs vs h1 fun i c x hi hx => ih i c x hi hx (scopeds_mem (by simpa [AV.inScope] using h) c (List.mem_of_getElem? hi))

theorem Good.take {I0 I : Imm} {L0 L : Nat → Loc} {O0 O : List AObj} {w0 w : World} (h : Good I0 L0 O0 w0 I L O w) {k : Nat} (h0 : O0.length ≤ k) (hk : k ≤ O.length) (hb : ∀ ob ∈ O.take k, ob.inScope k = true) :
    Good I0 L0 O0 w0 I L (O.take k) w := by
  have hget : ∀ {n e s xs}, (O.take k)[n]? = some (.live e s xs) → O[n]? = some (.live e s xs) ∧ n < k := by
    intro n e s xs hn
    rw [List.getElem?_take] at hn
    split at hn
    · exact ⟨hn, by assumption⟩
    · cases hn
  have hgetn : ∀ {n e s : Nat}, (O.take k)[n]? = some (AObj.nil e s) → O[n]? = some (AObj.nil e s) := by
    intro n e s hn
    rw [List.getElem?_take] at hn
    split at hn
    · exact hn
    · cases hn
  refine ⟨⟨h.inv.imm, fun n e s xs hn => ?_, fun n m _ _ _ _ _ _ hn hm => h.inv.sep n m _ _ _ _ _ _ (hget hn).1 (hget hm).1, fun n e s xs o hn => h.inv.immSep n e s xs o (hget hn).1⟩, ⟨h.ext.imm, by simp; omega, fun n hn e s xs hx => h.ext.obj n hn e s xs (hget hx).1, fun n hn e s hx => h.ext.nil n hn e s (hgetn hx)⟩, h.frm, ?_, h.immNew⟩
  · obtain ⟨c, h1, h2, h3, h4, h5, h6⟩ := h.inv.obj n e s xs (hget hn).1
    refine ⟨c, h1, h2, h3, h4, h5, fun i x hx => ⟨(h6 i x hx).1, fun j a ha => ?_⟩⟩
    obtain ⟨y, hy, ho, hr⟩ := (h6 i x hx).2 j a ha
    have hbo := hb _ (List.mem_of_getElem? hn)
    exact ⟨y, hy, ho, hr.take hk (scoped_cells (scopeds_mem hbo x (List.mem_of_getElem? hx)) a (List.mem_of_getElem? ha))⟩
  · rintro b ⟨n, e, s, xs, hn, hb⟩
    exact h.lb b ⟨n, e, s, xs, (hget hn).1, hb⟩

/-- forget slots, and the objects from k on -/
theorem WK.forget {n0 : Nat} {e e' : Env} {O O' : List AObj} {k : Nat} (hO : O.take k = O') (h0 : n0 ≤ k) (hk : k ≤ O.length) (hb : ∀ ob ∈ O', ob.inScope k = true) (he : ∀ t, e' t = .top ∨ (e' t = e t ∧ (e' t).inScope k = true)) : WK n0 e O e' O' := by
  subst hO
  intro I0 L0 O0 w0 I L w f hl hg hr
  subst hl
  refine ⟨I, L, hg.take h0 hk hb, fun t => ?_⟩
  rcases he t with h | ⟨h, h'⟩
  · rw [h]; exact .top _
  · rw [h] at h' ⊢; exact (hr t).take hk h'

theorem envL_forget {e : Env} {k : Nat} {l : List (Nat × AV)} (h : ∀ p ∈ l, p.2 = e p.1 ∧ p.2.inScope k = true) : ∀ t, envL l t = .top ∨ (envL l t = e t ∧ (envL l t).inScope k = true) := by
  intro t
  induction l with
  | nil => exact .inl rfl
  | cons p l ih =>
    obtain ⟨q, a⟩ := p
    simp only [envL_cons]
    by_cases hq : t = q
    · subst hq
      rw [if_pos rfl]
      exact .inr (h (t, a) (by simp))
    · rw [if_neg hq]
      exact ih fun p hp => h p (by simp [hp])

theorem wpOp_mono {P : Program} {o : AOp} {e : Env} {O : List AObj} {K K' : AV → List AObj → Prop} (hk : ∀ x O, K x O → K' x O) (h : wpOp P o e O K) : wpOp P o e O K' := by
  obtain ⟨x, O', h1, h2⟩ := exAny h
  exact h2 K' (hk x O' h1)

theorem wpOps_mono {P : Program} : ∀ (l : List AOper) {e : Env} {O : List AObj} {K K' : Env → List AObj → Prop}, (∀ e O, K e O → K' e O) → wpOps P l e O K → wpOps P l e O K'
  | [], _, _, _, _, hk, h => hk _ _ h
  | o :: l, e, O, K, K', hk, h => by
    simp only [wpOps] at h ⊢
    split at h
    · exact wpOp_mono (fun x O' h => wpOps_mono l hk h) h
    · split at h
      · exact ⟨fun hb => wpOp_mono (fun x O' h => wpOps_mono l hk h) (h.1 hb), fun hb => wpOps_mono l hk (h.2 hb)⟩
      · exact wpOps_mono l hk h
      · exact h.elim

theorem wpOpsW_mono {P : Program} {n0 : Nat} : ∀ (l : List AOper) {e : Env} {O : List AObj} {K K' : Env → List AObj → Prop}, (∀ e O, K e O → K' e O) → wpOpsW P n0 l e O K → wpOpsW P n0 l e O K'
  | [], _, _, _, _, hk, ⟨e', O', hw, h⟩ => ⟨e', O', hw, hk _ _ h⟩
  | o :: l, e, O, K, K', hk, h => by
    simp only [wpOpsW] at h ⊢
    obtain ⟨e', O', hw, h⟩ := h
    refine ⟨e', O', hw, ?_⟩
    split at h
    · exact wpOp_mono (fun x O' h => wpOpsW_mono l hk h) h
    · split at h
      · exact ⟨fun hb => wpOp_mono (fun x O' h => wpOpsW_mono l hk h) (h.1 hb), fun hb => wpOpsW_mono l hk (h.2 hb)⟩
      · exact wpOpsW_mono l hk h
      · exact h.elim

theorem wpC_mono {P : Program} {n0 : Nat} (c : ACode) : ∀ {Q Q' : AX → Env → List AObj → Prop} {e : Env} {O : List AObj}, (∀ x e O, Q x e O → Q' x e O) → wpC P n0 c Q e O → wpC P n0 c Q' e O := by
  induction c with
  | skip => intro Q Q' e O hq h; exact hq _ _ _ h
  | region r ops => intro Q Q' e O hq h; exact wpOps_mono ops (fun e O h => hq _ _ _ h) h
  | regionW ops => intro Q Q' e O hq h; exact wpOpsW_mono ops (fun e O h => hq _ _ _ h) h
  | seq a b iha ihb =>
    intro Q Q' e O hq h
    refine iha (fun x e O h => ?_) h
    cases x
    · exact ihb hq h
    · exact hq _ _ _ h
    · exact hq _ _ _ h
  | cond c t f iht ihf =>
    intro Q Q' e O hq h
    simp only [wpC] at h ⊢
    split at h
    · exact ⟨fun hb => iht hq (h.1 hb), fun hb => ihf hq (h.2 hb)⟩
    · exact h.elim
  | block id b ih =>
    intro Q Q' e O hq h
    refine ih (fun x e O h => ?_) h
    cases x
    · exact hq _ _ _ h
    · simp only at h ⊢
      split
      · rename_i hi; rw [if_pos hi] at h; exact hq _ _ _ h
      · rename_i hi; rw [if_neg hi] at h; exact hq _ _ _ h
    · exact hq _ _ _ h
  | loop b ih =>
    intro Q Q' e O hq h
    obtain ⟨J, n, h0, hr⟩ := h
    refine ⟨J, n, h0, fun n e O hJ => ih (fun x e O h => ?_) (hr n e O hJ)⟩
    cases x
    · exact h
    · exact hq _ _ _ h
    · exact hq _ _ _ h
  | exit id => intro Q Q' e O hq h; exact hq _ _ _ h
  | ret => intro Q Q' e O hq h; exact hq _ _ _ h
  | keep l c ih =>
    intro Q Q' e O hq h
    refine ih (fun x e O h => ?_) h
    cases x <;> exact hq _ _ _ h
  | weak c ih =>
    intro Q Q' e O hq h
    obtain ⟨e', O', hw, h⟩ := h
    exact ⟨e', O', hw, ih hq h⟩

/-- what a round of a loop must come to -/
def roundQ (n0 : Nat) {ι : Type} (D : ι → Prop) (σ : ι → Env) (τ : ι → List AObj) (μ : ι → Nat) (i : ι) (Q : AX → Env → List AObj → Prop) : AX → Env → List AObj → Prop :=
  fun x e O => match x with | .normal => ∃ j, D j ∧ μ j < μ i ∧ WK n0 e O (σ j) (τ j) | x => Q x e O

/-- A LOOP, by a family of states. -/
theorem wpC_loop {P : Program} {n0 : Nat} {b : ACode} {Q : AX → Env → List AObj → Prop} {e : Env} {O : List AObj} {ι : Type} (D : ι → Prop) (σ : ι → Env) (τ : ι → List AObj) (μ : ι → Nat) (i0 : ι)
    (hd : D i0) (h0 : WK n0 e O (σ i0) (τ i0)) (hr : ∀ i, D i → wpC P n0 b (roundQ n0 D σ τ μ i Q) (σ i) (τ i)) : wpC P n0 (.loop b) Q e O := by
  refine ⟨fun n e O => ∃ i, D i ∧ μ i = n ∧ e = σ i ∧ O = τ i, μ i0, ⟨_, _, h0, i0, hd, rfl, rfl, rfl⟩, ?_⟩
  rintro n e O ⟨i, hi, rfl, rfl, rfl⟩
  refine wpC_mono b (fun x e O h => ?_) (hr i hi)
  cases x
  · obtain ⟨j, hj, h1, h2⟩ := h
    exact ⟨μ j, _, _, h1, h2, j, hj, rfl, rfl, rfl⟩
  · exact h
  · exact h

theorem WK.of_eq {n0 : Nat} {e e' : Env} {O O' : List AObj} (he : e = e') (hO : O = O') : WK n0 e O e' O' := by subst he; subst hO; exact .refl _ _ _

/- the equations by which a walk goes on: all but those of loops and weakenings -/
section
variable (P : Program) (n0 : Nat) (Q : AX → Env → List AObj → Prop) (e : Env) (O : List AObj)
theorem wpC_skip : wpC P n0 .skip Q e O = Q .normal e O := nr rfl
theorem wpC_region (rows : Option (List (List Nat))) (ops : List AOper) : wpC P n0 (.region rows ops) Q e O = Go.Ab.wpOps P ops e O (Q .normal) := nr rfl
theorem wpC_seq (a b : ACode) : wpC P n0 (.seq a b) Q e O = wpC P n0 a (fun x e O => match x with | .normal => wpC P n0 b Q e O | x => Q x e O) e O := nr rfl
theorem wpC_cond (c : Opd) (t f : ACode) : wpC P n0 (.cond c t f) Q e O = match c.ev e with
    | .v (.bool b) => (b = true → wpC P n0 t Q e O) ∧ (b = false → wpC P n0 f Q e O)
    | _ => False := nr rfl
theorem wpC_block (id : Nat) (b : ACode) : wpC P n0 (.block id b) Q e O = wpC P n0 b (fun x e O => match x with | .exit i => if i = id then Q .normal e O else Q (.exit i) e O | x => Q x e O) e O := nr rfl
theorem wpC_exit (id : Nat) : wpC P n0 (.exit id) Q e O = Q (.exit id) e O := nr rfl
theorem wpC_ret : wpC P n0 .ret Q e O = Q .ret e O := nr rfl
theorem wpC_keep (l : List Nat) (c : ACode) : wpC P n0 (.keep l c) Q e O = wpC P n0 c (fun x e O => match x with | .normal => Q .normal (keepE l e) O | x => Q x e O) e O := nr rfl
theorem wpOps_nil (K : Env → List AObj → Prop) : Go.Ab.wpOps P [] e O K = K e O := nr rfl
theorem wpOps_plain (K : Env → List AObj → Prop) (d : Option Nat) (op : AOp) (r : List AOper) :
    Go.Ab.wpOps P (⟨none, d, op⟩ :: r) e O K = wpOp P op e O (fun x O' => Go.Ab.wpOps P r (setD e d x) O' K) := nr rfl
theorem wpOps_guard (K : Env → List AObj → Prop) (t : Nat) (want : Bool) (d : Option Nat) (op : AOp) (r : List AOper) :
    Go.Ab.wpOps P (⟨some (t, want), d, op⟩ :: r) e O K = match e t with
      | .v (.bool b) =>
        (b = want → wpOp P op (e.set t (.v (.bool want))) O fun x O' => Go.Ab.wpOps P r (setD (e.set t (.v (.bool want))) d x) O' K) ∧
        (b = !want → Go.Ab.wpOps P r (setD (e.set t (.v (.bool (!want)))) d (.tup [])) O K)
      | .tup [] => Go.Ab.wpOps P r (setD e d (.tup [])) O K
      | _ => False := nr rfl
theorem setD_some (t : Nat) (a : AV) : setD e (some t) a = e.set t a := nr rfl
theorem setD_none (a : AV) : setD e none a = e := nr rfl
theorem ev_t (n : Nat) : (Opd.t n).ev e = e n := nr rfl
theorem ev_c (a : AV) : (Opd.c a).ev e = a := nr rfl
end

theorem keepE_nil (e : Env) : keepE [] e = envL [] := by rw [keepE_eq]; rfl

end Go.Ab
