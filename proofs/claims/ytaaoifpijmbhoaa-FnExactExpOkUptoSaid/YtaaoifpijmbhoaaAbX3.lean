/-
  NAMES AND THEIR VALUES: more names change nothing; equal by test is equal.
-/
import Derived.Test.YtaaoifpijmbhoaaAbX2
set_option linter.unusedVariables false
set_option linter.unusedSimpArgs false
set_option linter.defProp false
namespace Go.Ab

theorem getD_left {r r' : List AV} {i : Nat} (h : i < r.length) : (r ++ r').getD i .top = r.getD i .top := by
  simp [List.getD, List.getElem?_append_left h]

mutual
theorem D.ev_more {r r' : List AV} : ∀ (d : D), d.cl r.length = true → d.ev (r ++ r') = d.ev r
  | .x i, h => by simp only [D.cl, decide_eq_true_eq] at h; simp only [D.ev, getD_left h]
  | .c a, h => rfl
  | .cell i j, h => by simp only [D.cl, decide_eq_true_eq] at h; simp only [D.ev, getD_left h]
  | .ext i j, h => by simp only [D.cl, decide_eq_true_eq] at h; simp only [D.ev, getD_left h]
  | .sl l, h => by simp only [D.cl] at h; simp only [D.ev, D.ev_more l h]
  | .agg l, h => by simp only [D.cl] at h; simp only [D.ev, D.evs_more l h]
  | .fn f l, h => by simp only [D.cl] at h; simp only [D.ev, D.evs_more l h]
  | .ip d f, h => by simp only [D.cl] at h; simp only [D.ev, D.ev_more d h]
theorem D.evs_more {r r' : List AV} : ∀ (l : List D), D.cls r.length l = true → D.evs (r ++ r') l = D.evs r l
  | [], _ => rfl
  | d :: l, h => by
    simp only [D.cls, Bool.and_eq_true] at h
    simp only [D.evs, D.ev_more d h.1, D.evs_more l h.2]
end
mutual
theorem SV.ev_more {r r' : List AV} : ∀ (v : SV), v.cl r.length = true → v.ev (r ++ r') = v.ev r
  | .d x, h => D.ev_more x h
  | .row n l, h => by simp only [SV.cl] at h; simp only [SV.ev, D.ev_more l h]
  | .ptr n f, h => rfl
  | .rp n l i f, h => by simp only [SV.cl, Bool.and_eq_true] at h; simp only [SV.ev, D.ev_more l h.1, D.ev_more i h.2]
  | .ip x f, h => by simp only [SV.cl] at h; simp only [SV.ev, D.ev_more x h]
  | .agg cs, h => by simp only [SV.cl] at h; simp only [SV.ev, SV.evs_more cs h]
  | .top, h => rfl
theorem SV.evs_more {r r' : List AV} : ∀ (l : List SV), SV.cls r.length l = true → SV.evs (r ++ r') l = SV.evs r l
  | [], _ => rfl
  | v :: l, h => by
    simp only [SV.cls, Bool.and_eq_true] at h
    simp only [SV.evs, SV.ev_more v h.1, SV.evs_more l h.2]
end
theorem SO.ev_more {r r' : List AV} (o : SO) (h : o.cl r.length = true) : o.ev (r ++ r') = o.ev r := by
  cases o with
  | dead => rfl
  | box e cs => simp only [SO.ev, SV.evs_more cs h]
  | row nl e s l => cases nl <;> simp only [SO.ev, D.ev_more l h]

theorem lk_cl {n : Nat} : ∀ {l : List (Nat × SV)}, l.all (fun p => p.2.cl n) = true → ∀ t, (lk l t).cl n = true
  | [], _, _ => rfl
  | (k, v) :: l, h, t => by
    simp only [List.all_cons, Bool.and_eq_true] at h
    simp only [lk]
    split
    · exact h.1
    · exact lk_cl h.2 t
theorem SS.cl_env {s : SS} (h : s.cl = true) (t : Nat) : (lk s.env t).cl s.nv = true := lk_cl (Bool.and_eq_true _ _ ▸ h).1 t
theorem SS.cl_obj {s : SS} (h : s.cl = true) {o : SO} (ho : o ∈ s.objs) : o.cl s.nv = true := by
  have := (Bool.and_eq_true _ _ ▸ h : _ ∧ _).2
  exact List.all_eq_true.1 this o ho
theorem stE_more {s : SS} {r r' : List AV} (hl : r.length = s.nv) (h : s.cl = true) : stE s (r ++ r') = stE s r := by
  funext t
  exact SV.ev_more _ (by rw [hl]; exact SS.cl_env h t)
theorem stO_more {s : SS} {r r' : List AV} (hl : r.length = s.nv) (h : s.cl = true) : stO s (r ++ r') = stO s r := by
  unfold stO
  exact List.map_congr_left fun o ho => SO.ev_more o (by rw [hl]; exact SS.cl_obj h ho)

/- no references -/
theorem getD_noref {l : List AV} (h : AV.norefs l = true) (i : Nat) : (l.getD i .top).noref = true := by
  rw [List.getD]
  cases hi : l[i]? with
  | none => rfl
  | some a => exact norefs_mem h a (List.mem_of_getElem? hi)
theorem cells_norefs {a : AV} (h : a.noref = true) : AV.norefs a.cells = true := by
  cases a <;> first | exact h | (simp only [AV.cells, AV.norefs, h]; rfl)
theorem listOf_norefs {a : AV} (h : a.noref = true) : AV.norefs (listOf a) = true := by
  cases a <;> first | rfl | exact h
theorem tupD_noref {a : AV} (h : a.noref = true) (j : Nat) : (tupD a j).noref = true := by
  cases a <;> first | rfl | exact getD_noref (by exact h) j
mutual
theorem D.ev_noref {r : List AV} (hr : AV.norefs r = true) : ∀ (d : D), d.cl r.length = true → (d.ev r).noref = true
  | .x i, _ => getD_noref hr i
  | .c a, h => h
  | .cell i j, _ => getD_noref (cells_norefs (getD_noref hr i)) j
  | .ext i j, _ => tupD_noref (getD_noref hr i) j
  | .sl l, h => by simp only [D.cl] at h; exact listOf_norefs (D.ev_noref hr l h)
  | .agg l, h => by simp only [D.cl] at h; exact D.evs_noref hr l h
  | .fn f l, h => by simp only [D.cl] at h; exact D.evs_noref hr l h
  | .ip d f, h => by simp only [D.cl] at h; exact D.ev_noref hr d h
theorem D.evs_noref {r : List AV} (hr : AV.norefs r = true) : ∀ (l : List D), D.cls r.length l = true → AV.norefs (D.evs r l) = true
  | [], _ => rfl
  | d :: l, h => by
    simp only [D.cls, Bool.and_eq_true] at h
    simp only [D.evs, AV.norefs, D.ev_noref hr d h.1, D.evs_noref hr l h.2]; rfl
end
theorem norefs_append {a b : List AV} : AV.norefs (a ++ b) = (AV.norefs a && AV.norefs b) := by
  induction a with
  | nil => simp [AV.norefs]
  | cons x a ih => simp [AV.norefs, ih, Bool.and_assoc]
theorem norefs_of {l : List AV} (h : ∀ a ∈ l, a.noref = true) : AV.norefs l = true := by
  induction l with
  | nil => rfl
  | cons x l ih => simp only [AV.norefs, h x (by simp), ih fun a ha => h a (by simp [ha])]; rfl

/- equal by test -/
theorem AV.ceq_eq {a b : AV} (h : a.ceq b = true) : a = b := by
  unfold AV.ceq at h
  split at h <;> simp_all
mutual
theorem D.beq_eq : ∀ (a b : D), a.beq b = true → a = b
  | .x i, b, h => by cases b <;> simp_all [D.beq]
  | .c a, b, h => by
    cases b <;> simp_all only [D.beq, Bool.false_eq_true]
    rw [AV.ceq_eq h]
  | .cell i j, b, h => by cases b <;> simp_all [D.beq]
  | .ext i j, b, h => by cases b <;> simp_all [D.beq]
  | .sl l, b, h => by
    cases b <;> simp_all only [D.beq, Bool.false_eq_true]
    rw [D.beq_eq l _ h]
  | .agg l, b, h => by
    cases b <;> simp_all only [D.beq, Bool.false_eq_true]
    rw [D.beqs_eq l _ h]
  | .fn f l, b, h => by
    cases b <;> simp_all only [D.beq, Bool.false_eq_true, Bool.and_eq_true, decide_eq_true_eq]
    rw [D.beqs_eq l _ h.2]
  | .ip d f, b, h => by
    cases b <;> simp_all only [D.beq, Bool.false_eq_true, Bool.and_eq_true, decide_eq_true_eq]
    rw [D.beq_eq d _ h.1]
theorem D.beqs_eq : ∀ (a b : List D), D.beqs a b = true → a = b
  | [], [], _ => rfl
  | a :: as, b :: bs, h => by
    simp only [D.beqs, Bool.and_eq_true] at h
    rw [D.beq_eq a b h.1, D.beqs_eq as bs h.2]
  | [], _ :: _, h => by simp [D.beqs] at h
  | _ :: _, [], h => by simp [D.beqs] at h
end
mutual
theorem SV.beq_eq : ∀ (a b : SV), a.beq b = true → a = b
  | .d x, b, h => by
    cases b <;> simp_all only [SV.beq, Bool.false_eq_true]
    rw [D.beq_eq x _ h]
  | .row n l, b, h => by
    cases b <;> simp_all only [SV.beq, Bool.false_eq_true, Bool.and_eq_true, decide_eq_true_eq]
    rw [D.beq_eq l _ h.2]
  | .ptr n f, b, h => by cases b <;> simp_all [SV.beq]
  | .rp n l i f, b, h => by
    cases b <;> simp_all only [SV.beq, Bool.false_eq_true, Bool.and_eq_true, decide_eq_true_eq]
    rw [D.beq_eq l _ h.1.1.2, D.beq_eq i _ h.1.2]
  | .ip x f, b, h => by
    cases b <;> simp_all only [SV.beq, Bool.false_eq_true, Bool.and_eq_true, decide_eq_true_eq]
    rw [D.beq_eq x _ h.1]
  | .agg l, b, h => by
    cases b <;> simp_all only [SV.beq, Bool.false_eq_true]
    rw [SV.beqs_eq l _ h]
  | .top, b, h => by cases b <;> simp_all [SV.beq]
theorem SV.beqs_eq : ∀ (a b : List SV), SV.beqs a b = true → a = b
  | [], [], _ => rfl
  | a :: as, b :: bs, h => by
    simp only [SV.beqs, Bool.and_eq_true] at h
    rw [SV.beq_eq a b h.1, SV.beqs_eq as bs h.2]
  | [], _ :: _, h => by simp [SV.beqs] at h
  | _ :: _, [], h => by simp [SV.beqs] at h
end
theorem SO.beq_eq {a b : SO} (h : a.beq b = true) : a = b := by
  cases a <;> cases b <;> simp_all only [SO.beq, Bool.false_eq_true, Bool.and_eq_true, decide_eq_true_eq]
  · rw [SV.beqs_eq _ _ h.2]
  · rw [D.beq_eq _ _ h.2]

/- states -/
theorem lk_filter {l : List (Nat × SV)} {t k : Nat} (h : k ≠ t) : lk (l.filter fun p => p.1 != t) k = lk l k := by
  induction l with
  | nil => rfl
  | cons p l ih =>
    obtain ⟨q, v⟩ := p
    simp only [List.filter_cons]
    by_cases hq : q = t
    · subst hq
      simp only [bne_self_eq_false, Bool.false_eq_true, if_false, lk, if_neg h, ih]
    · simp only [bne_iff_ne, ne_eq, hq, not_false_eq_true, if_true, lk, ih]
theorem stE_set (s : SS) (t : Nat) (v : SV) (r : List AV) : stE (s.set t v) r = (stE s r).set t (v.ev r) := by
  funext k
  simp only [stE, SS.set, lk, Env.set]
  split
  · rfl
  · rename_i h; rw [lk_filter h]
theorem stE_setD (s : SS) (d : Option Nat) (v : SV) (r : List AV) : stE (s.setD d v) r = setD (stE s r) d (v.ev r) := by
  cases d with
  | none => rfl
  | some t => exact stE_set s t v r
theorem stO_setD (s : SS) (d : Option Nat) (v : SV) (r : List AV) : stO (s.setD d v) r = stO s r := by cases d <;> rfl
theorem nv_setD (s : SS) (d : Option Nat) (v : SV) : (s.setD d v).nv = s.nv := by cases d <;> rfl
theorem opd_ev (s : SS) (x : Opd) (r : List AV) : (opd s x).ev r = x.ev (stE s r) := by cases x <;> rfl
theorem opd_cl {s : SS} (h : s.cl = true) {x : Opd} (hx : ∀ a, x = .c a → a.noref = true) : (opd s x).cl s.nv = true := by
  cases x with
  | t n => exact SS.cl_env h n
  | c a => exact hx a rfl
theorem lk_map {f : SV → SV} (hf : f .top = .top) : ∀ (l : List (Nat × SV)) (t : Nat), lk (l.map fun p => (p.1, f p.2)) t = f (lk l t)
  | [], t => hf.symm
  | (k, v) :: l, t => by
    simp only [List.map_cons, lk]
    split
    · rfl
    · exact lk_map hf l t

end Go.Ab
