/- Part of a proof: the functions that the law reaches, walked by the abstract logic of the texts Ab. -/
import Derived.Test.YtkinchcjijhmgaaDoorAbM3
set_option linter.unusedVariables false
set_option linter.unusedSimpArgs false
set_option linter.defProp false
/-
  NAMES AND THEIR VALUES: more names change nothing; equal by test is equal.
-/
namespace Go.Ab
theorem getD_left {r r' : List AV} {i : Nat} (h : i < r.length) : (r ++ r').getD i .top = r.getD i .top := by
  simp [List.getD, List.getElem?_append_left h]
mutual
theorem D.ev_more {r r' : List AV} : ∀ (d : D), d.cl r.length = true → d.ev (r ++ r') = d.ev r
  | .x i, h => by simp only [D.cl, decide_eq_true_eq] at h; simp only [D.ev, getD_left h]
  | .c a, h => rfl
  | .cell i j, h => by simp only [D.cl, decide_eq_true_eq] at h; simp only [D.ev, getD_left h]
  | .ext i j, h => by simp only [D.cl, decide_eq_true_eq] at h; simp only [D.ev, getD_left h]
  | .sl l, h => by simp only [D.cl] at h; simp only [D.ev, D.ev_more l h]
  | .agg l, h => by simp only [D.cl] at h; simp only [D.ev, D.evs_more l h]
  | .fn f l, h => by simp only [D.cl] at h; simp only [D.ev, D.evs_more l h]
  | .ip d f, h => by simp only [D.cl] at h; simp only [D.ev, D.ev_more d h]
theorem D.evs_more {r r' : List AV} : ∀ (l : List D), D.cls r.length l = true → D.evs (r ++ r') l = D.evs r l
  | [], _ => rfl
  | d :: l, h => by
    simp only [D.cls, Bool.and_eq_true] at h
    simp only [D.evs, D.ev_more d h.1, D.evs_more l h.2]
end
mutual
theorem SV.ev_more {r r' : List AV} : ∀ (v : SV), v.cl r.length = true → v.ev (r ++ r') = v.ev r
  | .d x, h => D.ev_more x h
  | .row n l, h => by simp only [SV.cl] at h; simp only [SV.ev, D.ev_more l h]
  | .ptr n f, h => rfl
  | .rp n l i f, h => by simp only [SV.cl, Bool.and_eq_true] at h; simp only [SV.ev, D.ev_more l h.1, D.ev_more i h.2]
  | .ip x f, h => by simp only [SV.cl] at h; simp only [SV.ev, D.ev_more x h]
  | .agg cs, h => by simp only [SV.cl] at h; simp only [SV.ev, SV.evs_more cs h]
  | .tup cs, h => by simp only [SV.cl] at h; simp only [SV.ev, SV.evs_more cs h]
  | .top, h => rfl
theorem SV.evs_more {r r' : List AV} : ∀ (l : List SV), SV.cls r.length l = true → SV.evs (r ++ r') l = SV.evs r l
  | [], _ => rfl
  | v :: l, h => by
    simp only [SV.cls, Bool.and_eq_true] at h
    simp only [SV.evs, SV.ev_more v h.1, SV.evs_more l h.2]
end
theorem SO.ev_more {r r' : List AV} (o : SO) (h : o.cl r.length = true) : o.ev (r ++ r') = o.ev r := by
  cases o with
  | dead => rfl
  | box e cs => simp only [SO.ev, SV.evs_more cs h]
  | row nl e s l => cases nl <;> simp only [SO.ev, D.ev_more l h]
theorem lk_cl {n : Nat} : ∀ {l : List (Nat × SV)}, l.all (fun p => p.2.cl n) = true → ∀ t, (lk l t).cl n = true
  | [], _, _ => rfl
  | (k, v) :: l, h, t => by
    simp only [List.all_cons, Bool.and_eq_true] at h
    simp only [lk]
    split
    · exact h.1
    · exact lk_cl h.2 t
theorem SS.cl_env {s : SS} (h : s.cl = true) (t : Nat) : (lk s.env t).cl s.nv = true := lk_cl (Bool.and_eq_true _ _ ▸ h).1 t
theorem SS.cl_obj {s : SS} (h : s.cl = true) {o : SO} (ho : o ∈ s.objs) : o.cl s.nv = true := by
  have := (Bool.and_eq_true _ _ ▸ h : _ ∧ _).2
  exact List.all_eq_true.1 this o ho
theorem stE_more {s : SS} {r r' : List AV} (hl : r.length = s.nv) (h : s.cl = true) : stE s (r ++ r') = stE s r := by
  funext t
  exact SV.ev_more _ (by rw [hl]; exact SS.cl_env h t)
theorem stO_more {s : SS} {r r' : List AV} (hl : r.length = s.nv) (h : s.cl = true) : stO s (r ++ r') = stO s r := by
  unfold stO
  exact List.map_congr_left fun o ho => SO.ev_more o (by rw [hl]; exact SS.cl_obj h ho)
/- no references -/
theorem getD_noref {l : List AV} (h : AV.norefs l = true) (i : Nat) : (l.getD i .top).noref = true := by
  rw [List.getD]
  cases hi : l[i]? with
  | none => rfl
  | some a => exact norefs_mem h a (List.mem_of_getElem? hi)
theorem cells_norefs {a : AV} (h : a.noref = true) : AV.norefs a.cells = true := by
  cases a <;> first | exact h | (simp only [AV.cells, AV.norefs, h]; rfl)
theorem listOf_norefs {a : AV} (h : a.noref = true) : AV.norefs (listOf a) = true := by
  cases a <;> first | rfl | exact h
theorem tupD_noref {a : AV} (h : a.noref = true) (j : Nat) : (tupD a j).noref = true := by
  cases a <;> first | rfl | exact getD_noref (by exact h) j
mutual
theorem D.ev_noref {r : List AV} (hr : AV.norefs r = true) : ∀ (d : D), d.cl r.length = true → (d.ev r).noref = true
  | .x i, _ => getD_noref hr i
  | .c a, h => h
  | .cell i j, _ => getD_noref (cells_norefs (getD_noref hr i)) j
  | .ext i j, _ => tupD_noref (getD_noref hr i) j
  | .sl l, h => by simp only [D.cl] at h; exact listOf_norefs (D.ev_noref hr l h)
  | .agg l, h => by simp only [D.cl] at h; exact D.evs_noref hr l h
  | .fn f l, h => by simp only [D.cl] at h; exact D.evs_noref hr l h
  | .ip d f, h => by simp only [D.cl] at h; exact D.ev_noref hr d h
theorem D.evs_noref {r : List AV} (hr : AV.norefs r = true) : ∀ (l : List D), D.cls r.length l = true → AV.norefs (D.evs r l) = true
  | [], _ => rfl
  | d :: l, h => by
    simp only [D.cls, Bool.and_eq_true] at h
    simp only [D.evs, AV.norefs, D.ev_noref hr d h.1, D.evs_noref hr l h.2]; rfl
end
theorem norefs_append {a b : List AV} : AV.norefs (a ++ b) = (AV.norefs a && AV.norefs b) := by
  induction a with
  | nil => simp [AV.norefs]
  | cons x a ih => simp [AV.norefs, ih, Bool.and_assoc]
theorem norefs_of {l : List AV} (h : ∀ a ∈ l, a.noref = true) : AV.norefs l = true := by
  induction l with
  | nil => rfl
  | cons x l ih => simp only [AV.norefs, h x (by simp), ih fun a ha => h a (by simp [ha])]; rfl
/- equal by test -/
theorem AV.ceq_eq {a b : AV} (h : a.ceq b = true) : a = b := by
  unfold AV.ceq at h
  split at h <;> simp_all
mutual
theorem D.beq_eq : ∀ (a b : D), a.beq b = true → a = b
  | .x i, b, h => by cases b <;> simp_all [D.beq]
  | .c a, b, h => by
    cases b <;> simp_all only [D.beq, Bool.false_eq_true]
    rw [AV.ceq_eq h]
  | .cell i j, b, h => by cases b <;> simp_all [D.beq]
  | .ext i j, b, h => by cases b <;> simp_all [D.beq]
  | .sl l, b, h => by
    cases b <;> simp_all only [D.beq, Bool.false_eq_true]
    rw [D.beq_eq l _ h]
  | .agg l, b, h => by
    cases b <;> simp_all only [D.beq, Bool.false_eq_true]
    rw [D.beqs_eq l _ h]
  | .fn f l, b, h => by
    cases b <;> simp_all only [D.beq, Bool.false_eq_true, Bool.and_eq_true, decide_eq_true_eq]
    rw [D.beqs_eq l _ h.2]
  | .ip d f, b, h => by
    cases b <;> simp_all only [D.beq, Bool.false_eq_true, Bool.and_eq_true, decide_eq_true_eq]
    rw [D.beq_eq d _ h.1]
theorem D.beqs_eq : ∀ (a b : List D), D.beqs a b = true → a = b
  | [], [], _ => rfl
  | a :: as, b :: bs, h => by
    simp only [D.beqs, Bool.and_eq_true] at h
    rw [D.beq_eq a b h.1, D.beqs_eq as bs h.2]
  | [], _ :: _, h => by simp [D.beqs] at h
  | _ :: _, [], h => by simp [D.beqs] at h
end
mutual
theorem SV.beq_eq : ∀ (a b : SV), a.beq b = true → a = b
  | .d x, b, h => by
    cases b <;> simp_all only [SV.beq, Bool.false_eq_true]
    rw [D.beq_eq x _ h]
  | .row n l, b, h => by
    cases b <;> simp_all only [SV.beq, Bool.false_eq_true, Bool.and_eq_true, decide_eq_true_eq]
    rw [D.beq_eq l _ h.2]
  | .ptr n f, b, h => by cases b <;> simp_all [SV.beq]
  | .rp n l i f, b, h => by
    cases b <;> simp_all only [SV.beq, Bool.false_eq_true, Bool.and_eq_true, decide_eq_true_eq]
    rw [D.beq_eq l _ h.1.1.2, D.beq_eq i _ h.1.2]
  | .ip x f, b, h => by
    cases b <;> simp_all only [SV.beq, Bool.false_eq_true, Bool.and_eq_true, decide_eq_true_eq]
    rw [D.beq_eq x _ h.1]
  | .agg l, b, h => by
    cases b <;> simp_all only [SV.beq, Bool.false_eq_true]
    rw [SV.beqs_eq l _ h]
  | .tup l, b, h => by
    cases b <;> simp_all only [SV.beq, Bool.false_eq_true]
    rw [SV.beqs_eq l _ h]
  | .top, b, h => by cases b <;> simp_all [SV.beq]
theorem SV.beqs_eq : ∀ (a b : List SV), SV.beqs a b = true → a = b
  | [], [], _ => rfl
  | a :: as, b :: bs, h => by
    simp only [SV.beqs, Bool.and_eq_true] at h
    rw [SV.beq_eq a b h.1, SV.beqs_eq as bs h.2]
  | [], _ :: _, h => by simp [SV.beqs] at h
  | _ :: _, [], h => by simp [SV.beqs] at h
end
theorem SO.beq_eq {a b : SO} (h : a.beq b = true) : a = b := by
  cases a <;> cases b <;> simp_all only [SO.beq, Bool.false_eq_true, Bool.and_eq_true, decide_eq_true_eq]
  · rw [SV.beqs_eq _ _ h.2]
  · rw [D.beq_eq _ _ h.2]
/- states -/
theorem lk_filter {l : List (Nat × SV)} {t k : Nat} (h : k ≠ t) : lk (l.filter fun p => p.1 != t) k = lk l k := by
  induction l with
  | nil => rfl
  | cons p l ih =>
    obtain ⟨q, v⟩ := p
    simp only [List.filter_cons]
    by_cases hq : q = t
    · subst hq
      simp only [bne_self_eq_false, Bool.false_eq_true, if_false, lk, if_neg h, ih]
    · simp only [bne_iff_ne, ne_eq, hq, not_false_eq_true, if_true, lk, ih]
theorem stE_set (s : SS) (t : Nat) (v : SV) (r : List AV) : stE (s.set t v) r = (stE s r).set t (v.ev r) := by
  funext k
  simp only [stE, SS.set, lk, Env.set]
  split
  · rfl
  · rename_i h; rw [lk_filter h]
theorem stE_setD (s : SS) (d : Option Nat) (v : SV) (r : List AV) : stE (s.setD d v) r = setD (stE s r) d (v.ev r) := by
  cases d with
  | none => rfl
  | some t => exact stE_set s t v r
theorem stO_setD (s : SS) (d : Option Nat) (v : SV) (r : List AV) : stO (s.setD d v) r = stO s r := by cases d <;> rfl
theorem nv_setD (s : SS) (d : Option Nat) (v : SV) : (s.setD d v).nv = s.nv := by cases d <;> rfl
theorem opd_ev (s : SS) (x : Opd) (r : List AV) : (opd s x).ev r = x.ev (stE s r) := by cases x <;> rfl
theorem lk_map {f : SV → SV} (hf : f .top = .top) : ∀ (l : List (Nat × SV)) (t : Nat), lk (l.map fun p => (p.1, f p.2)) t = f (lk l t)
  | [], t => hf.symm
  | (k, v) :: l, t => by
    simp only [List.map_cons, lk]
    split
    · rfl
    · exact lk_map hf l t
end Go.Ab
/-
  THE SYMBOLIC WALK IS SOUND, operation by operation.
-/
namespace Go.Ab
def wpN (P : Program) : List Node → List AV → (List AV → Prop) → Prop
  | [], r, K => K r
  | .op o :: ns, r, K => o.wp P r fun v => wpN P ns (r ++ [v]) K
  | .chk c :: ns, r, K => c.wp r (wpN P ns r K)
section
variable {P : Program}
theorem wpT_wrap {L : AX → SS → List AV → Prop} {R : AV → Prop} {t : T} {S : List (List AV → Prop)} : ∀ (ns : List Node) (r : List AV), wpT P L R (wrap ns t) r S = wpN P ns r fun r' => wpT P L R t r' S
  | [], r => rfl
  | .op o :: ns, r => by simp only [wrap, wpT, wpN, wpT_wrap ns]
  | .chk c :: ns, r => by simp only [wrap, wpT, wpN, wpT_wrap ns]
theorem pickK_imp {c a b : AV} {O O' : List AObj} {K K' : KT} (h : pickK c a b O K) (hk : ∀ x, K x O → K' x O') : pickK c a b O' K' := by
  unfold pickK at *; split at h <;> first | exact hk _ h | exact h.elim
theorem binK_imp {op : BinOp} {a b : AV} {O O' : List AObj} {K K' : KT} (h : binK op a b O K) (hk : ∀ x, (∃ v, x = .v v) → K x O → K' x O') : binK op a b O' K' := by
  unfold binK at *; split at h
  · split at h <;> first | exact hk _ ⟨_, rfl⟩ h | exact h.elim
  · exact h.elim
theorem unK_imp {op : UnOp} {a : AV} {O O' : List AObj} {K K' : KT} (h : unK op a O K) (hk : ∀ x, (∃ v, x = .v v) → K x O → K' x O') : unK op a O' K' := by
  unfold unK at *; split at h
  · split at h <;> first | exact hk _ ⟨_, rfl⟩ h | exact h.elim
  · exact h.elim
theorem convK_imp {k : IntKind} {a : AV} {O O' : List AObj} {K K' : KT} (h : convK k a O K) (hk : ∀ x, (∃ v, x = .v v) → K x O → K' x O') : convK k a O' K' := by
  unfold convK at *; split at h <;> first | exact hk _ ⟨_, rfl⟩ h | exact h.elim
theorem loadC_noref {n : Option Nat} {a : AV} {f : Nat} (h : a.noref = true) : (loadC n a f).noref = true := by
  unfold loadC
  split
  · exact getD_noref (cells_norefs h) f
  · split
    · exact h
    · exact norefs_of fun x hx => norefs_mem (cells_norefs h) x (List.mem_of_mem_drop (List.mem_of_mem_take hx))
theorem fldK_imp {off : Nat} {n : Option Nat} {a : AV} {O O' : List AObj} {K K' : KT} (h : fldK off n a O K) (hk : ∀ x, (a.noref = true → x.noref = true) → K x O → K' x O') : fldK off n a O' K' :=
  ⟨h.1, h.2.1, hk _ loadC_noref h.2.2⟩
theorem idxSK_imp {a i : AV} {O O' : List AObj} {K K' : KT} (h : idxSK a i O K) (hk : ∀ x, (∃ v, x = .v v) → K x O → K' x O') : idxSK a i O' K' := by
  unfold idxSK at *; split at h <;> first | exact ⟨h.1, h.2.1, hk _ ⟨_, rfl⟩ h.2.2⟩ | exact h.elim
theorem lenSK_imp {a : AV} {O O' : List AObj} {K K' : KT} (h : lenSK a O K) (hk : ∀ x, (∃ v, x = .v v) → K x O → K' x O') : lenSK a O' K' := by
  unfold lenSK at *; split at h <;> first | exact hk _ ⟨_, rfl⟩ h | exact h.elim
theorem bnd_imp {d : Int} {x : Option AV} {M M' : Int → Prop} (h : bnd d x M) (hm : ∀ i, M i → M' i) : bnd d x M' := by
  unfold bnd at *; split at h <;> first | exact hm _ h | exact h.elim
theorem sliceSK_imp {a : AV} {lo hi : Option AV} {O O' : List AObj} {K K' : KT} (h : sliceSK a lo hi O K) (hk : ∀ x, (∃ v, x = .v v) → K x O → K' x O') : sliceSK a lo hi O' K' := by
  unfold sliceSK at *; split at h
  · exact bnd_imp h fun l hl => bnd_imp hl fun h' hh => ⟨hh.1, hh.2.1, hh.2.2.1, hk _ ⟨_, rfl⟩ hh.2.2.2⟩
  · exact h.elim
theorem sliceLK_imp {s : Nat} {a : AV} {lo hi : Option AV} {O O' : List AObj} {K K' : KT} (h : sliceLK s a lo hi O K) (hk : ∀ x, (a.noref = true → x.noref = true) → K x O → K' x O') : sliceLK s a lo hi O' K' := by
  unfold sliceLK at *; split at h
  · rename_i xs
    exact bnd_imp h fun l hl => bnd_imp hl fun h' hh => ⟨hh.1, hh.2.1, hh.2.2.1, hh.2.2.2.1, hk _ (fun hn => norefs_of fun x hx => norefs_mem (by exact hn) x (List.mem_of_mem_take (List.mem_of_mem_drop hx))) hh.2.2.2.2⟩
  · exact h.elim
/-- plain: rows are none -/
theorem lenLK_imp {a : AV} {O' : List AObj} {K K' : KT} (h : lenLK a [] K) (hk : ∀ x, (∃ v, x = .v v) → K x [] → K' x O') : lenLK a O' K' := by
  unfold lenLK at *
  split at h
  · exact hk _ ⟨_, rfl⟩ h
  · exact hk _ ⟨_, rfl⟩ h
  · simp [objN] at h
  · exact h.elim
theorem lenLK_mono {a : AV} {K K' : KT} (h : lenLK a [] K) (hk : ∀ x, (∃ v, x = .v v) → K x [] → K' x []) : lenLK a [] K' := lenLK_imp h hk
theorem srcOf_imp {y : AV} {M M' : List AV → Prop} (h : srcOf [] y M) (hm : ∀ ys, (y.noref = true → AV.norefs ys = true) → M ys → M' ys) : srcOf [] y M' := by
  unfold srcOf at *
  split at h
  · exact hm _ (fun _ => rfl) h
  · exact hm _ (fun h => h) h
  · simp [objN] at h
  · exact h.elim
theorem puF_noref {o : PU} {xs : List AV} {v : AV} (h : puF o xs = some v) : v.noref = true := by
  unfold puF at h
  split at h
  · simp only [Option.map_eq_some_iff] at h; obtain ⟨l, _, rfl⟩ := h; rfl
  · cases h; rfl
  · cases h; rfl
  · cases h; rfl
  · cases h; rfl
  · cases h; rfl
  · cases h; rfl
  · cases h; rfl
  · cases h; rfl
  · split at h
    · cases h; rfl
    · cases h
  · split at h
    · cases h; rfl
    · cases h
  · cases h
theorem ysS_norefs (s : ByteArray) : AV.norefs (ysS s) = true := norefs_of fun a ha => by
  obtain ⟨c, _, rfl⟩ := List.mem_map.1 ha; rfl
/-- a new value: what it says is kept, and it has no references -/
theorem PO.wp_mono {r : List AV} (hr : AV.norefs r = true) {o : PO} (hc : nodesCl r.length [.op o] = true) {K K' : AV → Prop} (h : o.wp P r K) (hk : ∀ v, v.noref = true → K v → K' v) : o.wp P r K' := by
  have hv : ∀ x : AV, (∃ v, x = .v v) → x.noref = true := by rintro _ ⟨v, rfl⟩; rfl
  cases o <;> simp only [nodesCl, PO.cl, Bool.and_true, Bool.and_eq_true] at hc <;> simp only [PO.wp] at h ⊢
  case val x => exact hk _ (D.ev_noref hr x hc) h
  case pick c a b =>
    refine pickK_imp (K := fun x _ => (x = a.ev r ∨ x = b.ev r) ∧ K x) (K' := fun x _ => K' x) ?_ (fun x hx => hk x ?_ hx.2) (O := [])
    · simp only [pickK] at h ⊢
      split at h
      · rename_i t _; exact ⟨by cases t <;> simp, h⟩
      · exact h.elim
    · rcases hx.1 with rfl | rfl
      · exact D.ev_noref hr a hc.1.2
      · exact D.ev_noref hr b hc.2
  case bin op a b => exact binK_imp (K := fun x _ => K x) (K' := fun x _ => K' x) h fun x hx hK => hk x (hv x hx) hK
  case beq neg a b => simp only [beqP] at h ⊢; split at h <;> first | exact hk _ rfl h | exact h.elim
  case un op a => exact unK_imp (K := fun x _ => K x) (K' := fun x _ => K' x) h fun x hx hK => hk x (hv x hx) hK
  case conv k a => exact convK_imp (K := fun x _ => K x) (K' := fun x _ => K' x) h fun x hx hK => hk x (hv x hx) hK
  case elem s l i =>
    simp only [elemP] at h ⊢
    split at h
    · rename_i xs _ i hl _
      refine ⟨h.1, h.2.1, h.2.2.1, hk _ (getD_noref ?_ _) h.2.2.2⟩
      have := D.ev_noref hr l hc.1
      rw [hl] at this; exact this
    · exact h.elim
  case fld off n a => exact fldK_imp (K := fun x _ => K x) (K' := fun x _ => K' x) h fun x hx hK => hk x (hx (D.ev_noref hr a hc)) hK
  case loadc f m a => exact ⟨h.1, hk _ (loadC_noref (D.ev_noref hr a hc)) h.2⟩
  case idxS a i => exact idxSK_imp (K := fun x _ => K x) (K' := fun x _ => K' x) h fun x hx hK => hk x (hv x hx) hK
  case fcall nl e s f as => obtain ⟨xs, h1, h2, h3⟩ := h; exact ⟨xs, h1, h2, hk _ h2 h3⟩
  case scall f g as => obtain ⟨os, h1, h2, h3, h4⟩ := h; exact ⟨os, h1, h2, h3, hk _ h3 h4⟩
  case sliceS a lo hi => exact sliceSK_imp (K := fun x _ => K x) (K' := fun x _ => K' x) h fun x hx hK => hk x (hv x hx) hK
  case sliceL s a lo hi => exact sliceLK_imp (K := fun x _ => K x) (K' := fun x _ => K' x) h fun x hx hK => hk x (hx (D.ev_noref hr a hc)) hK
  case lenS a => exact lenSK_imp (K := fun x _ => K x) (K' := fun x _ => K' x) h fun x hx hK => hk x (hv x hx) hK
  case lenL a => exact lenLK_mono (K := fun x _ => K x) (K' := fun x _ => K' x) h fun x hx hK => hk x (hv x hx) hK
  case mkl z n ps =>
    refine hk _ ?_ h
    have key : ∀ (ps : List (Nat × D)) (z : List AV), AV.norefs z = true → ps.all (fun p => p.2.cl r.length) = true → AV.norefs (setAll z (ps.map fun p => (p.1, p.2.ev r))) = true := by
      intro ps
      induction ps with
      | nil => intro z hz _; exact hz
      | cons p ps ih =>
        intro z hz hp
        simp only [List.all_cons, Bool.and_eq_true] at hp
        simp only [List.map_cons, setAll]
        refine ih _ (norefs_of fun a ha => ?_) hp.2
        rcases List.mem_or_eq_of_mem_set ha with h | rfl
        · exact norefs_mem hz a h
        · exact D.ev_noref hr _ hp.1
    exact key ps _ (norefs_of fun a ha => by rw [List.eq_of_mem_replicate ha]; exact hc.1) hc.2
  case rep bytes z n c =>
    simp only [repP] at h ⊢
    split at h
    · exact ⟨h.1, h.2.1, h.2.2.1, h.2.2.2.1, hk _ (norefs_of fun a ha => by rw [List.eq_of_mem_replicate ha]; exact hc) h.2.2.2.2⟩
    · exact h.elim
  case app s b l y =>
    refine srcOf_imp (M' := fun ys => _ ∧ _ ∧ _ ∧ K' _) h fun ys hys hK => ⟨hK.1, hK.2.1, hK.2.2.1, hk _ ?_ hK.2.2.2⟩
    show AV.norefs _ = true
    rw [norefs_append, listOf_norefs (D.ev_noref hr l hc.1), hys (D.ev_noref hr y hc.2)]; rfl
  case get l i f n => exact ⟨h.1, h.2.1, hk _ (loadC_noref (getD_noref (listOf_norefs (D.ev_noref hr l hc)) _)) h.2.2⟩
  case set l i f m y =>
    obtain ⟨h1, h2, h3, h4, h5⟩ := h
    have hl := listOf_norefs (D.ev_noref hr l hc.1)
    have hy := D.ev_noref hr y hc.2
    refine ⟨h1, h2, h3, h4, hk _ (norefs_of fun a ha => ?_) h5⟩
    rcases List.mem_or_eq_of_mem_set ha with h | rfl
    · exact norefs_mem hl a h
    · have hx := getD_noref hl (idxOf (i.ev r))
      unfold upd
      split
      · exact hy
      · refine norefs_of fun a ha => ?_
        simp only [List.mem_append] at ha
        rcases ha with (ha | ha) | ha
        · exact norefs_mem (cells_norefs hx) a (List.mem_of_mem_take ha)
        · exact norefs_mem (cells_norefs hy) a ha
        · exact norefs_mem (cells_norefs hx) a (List.mem_of_mem_drop ha)
  case call f as b => obtain ⟨res, h1, h2, h3, h4⟩ := h; exact ⟨res, h1, h2, h3, hk _ h2 h4⟩
  case callv g as b =>
    simp only [callvP] at h ⊢
    split at h
    · obtain ⟨res, h1, h2, h3, h4⟩ := h; exact ⟨res, h1, h2, h3, hk _ h2 h4⟩
    · exact h.elim
  case ldp n a =>
    simp only [ldpP] at h ⊢
    split at h
    · rename_i y f hy
      refine ⟨h.1, hk _ (loadC_noref ?_) h.2⟩
      have := D.ev_noref hr a hc
      rw [hy] at this; exact this
    · exact h.elim
  case pu o ds =>
    unfold puK at h ⊢
    split at h
    · rename_i v hv; exact hk _ (puF_noref hv) h
    · exact h.elim
  case appS s b l y =>
    simp only [appSP] at h ⊢
    split at h
    · refine ⟨h.1, h.2.1, h.2.2.1, hk _ ?_ h.2.2.2⟩
      show AV.norefs _ = true
      rw [norefs_append, listOf_norefs (D.ev_noref hr l hc.1), ysS_norefs]; rfl
    · exact h.elim
  case fap off a =>
    simp only [fapP] at h ⊢
    split at h
    · rename_i y f hy
      refine hk _ ?_ h
      have := D.ev_noref hr a hc
      rw [hy] at this; exact this
    · exact h.elim
theorem Chk.wp_mono {r : List AV} {c : Chk} {K K' : Prop} (h : c.wp r K) (hk : K → K') : c.wp r K' := by
  cases c
  case cells => exact ⟨h.1, h.2.1, h.2.2.1, hk h.2.2.2⟩
  case one => exact ⟨h.1, h.2.1, hk h.2.2⟩
  case lt => exact ⟨h.1, hk h.2⟩
  case tup a j => simp only [Chk.wp, tupP] at h ⊢; split at h <;> first | exact ⟨h.1, hk h.2⟩ | exact h.elim
  case idx l i => simp only [Chk.wp, idxP] at h ⊢; split at h <;> first | exact ⟨h.1, h.2.1, hk h.2.2⟩ | exact h.elim
  case isFn a => simp only [Chk.wp, isFnP] at h ⊢; split at h <;> first | exact hk h | exact h.elim
  case ne => exact ⟨h.1, hk h.2⟩
  case eql => exact ⟨h.1, hk h.2⟩
  case no => exact h.elim
/-- what is known of the names behind some nodes -/
structure More (r r' : List AV) (n : Nat) : Prop where
  pre : ∃ m, r' = r ++ m
  len : r'.length = n
  nor : AV.norefs r' = true
theorem wpN_more : ∀ (ns : List Node) {r : List AV} {K K' : List AV → Prop}, AV.norefs r = true → nodesCl r.length ns = true → wpN P ns r K → (∀ r', More r r' (nvN r.length ns) → K r' → K' r') → wpN P ns r K'
  | [], r, K, K', hr, _, h, hk => hk r ⟨⟨[], by simp⟩, rfl, hr⟩ h
  | .op o :: ns, r, K, K', hr, hc, h, hk => by
    have hc0 : nodesCl r.length [.op o] = true ∧ nodesCl (r.length + 1) ns = true := by
      simp only [nodesCl, Bool.and_eq_true, Bool.and_true] at hc ⊢
      exact hc
    refine PO.wp_mono hr hc0.1 h fun v hv hK => ?_
    refine wpN_more ns (r := r ++ [v]) (by rw [norefs_append, hr]; simp [AV.norefs, hv]) (by simpa using hc0.2) hK fun r' hm hK' => hk r' ⟨?_, ?_, hm.nor⟩ hK'
    · obtain ⟨m, rfl⟩ := hm.pre
      exact ⟨v :: m, by simp⟩
    · rw [hm.len]; simp [nvN]
  | .chk c :: ns, r, K, K', hr, hc, h, hk => Chk.wp_mono h fun h' => wpN_more ns hr (by simpa [nodesCl] using hc) h' hk
theorem wpN_append : ∀ (a b : List Node) (r : List AV) (K : List AV → Prop), wpN P (a ++ b) r K = wpN P a r fun r' => wpN P b r' K
  | [], b, r, K => rfl
  | .op o :: a, b, r, K => by simp only [List.cons_append, wpN, wpN_append a]
  | .chk c :: a, b, r, K => by simp only [List.cons_append, wpN, wpN_append a]
end
end Go.Ab
/-
  THE SYMBOLIC WALK IS SOUND: operations without memory.
-/
namespace Go.Ab
section
variable {P : Program}
theorem dsOf_map : ∀ {cs : List SV} {ds : List D}, dsOf cs = some ds → cs = ds.map .d
  | [], ds, h => by simp [dsOf] at h; subst h; rfl
  | v :: l, ds, h => by
    cases v <;> simp only [dsOf, reduceCtorEq] at h
    split at h
    · rename_i ds' hd
      cases h
      rw [dsOf_map hd]; rfl
    · cases h
theorem evs_map (r : List AV) : ∀ (ds : List D), SV.evs r (ds.map .d) = D.evs r ds
  | [] => rfl
  | d :: ds => by simp only [List.map_cons, SV.evs, D.evs, SV.ev, evs_map r ds]
theorem D.evs_eq (r : List AV) (l : List D) : D.evs r l = l.map (D.ev r) := by
  induction l with
  | nil => rfl
  | cons a l ih => simp [D.evs, ih]
theorem SV.evs_eq (r : List AV) (l : List SV) : SV.evs r l = l.map (SV.ev r) := by
  induction l with
  | nil => rfl
  | cons a l ih => simp [SV.evs, ih]
theorem cls_all {n : Nat} : ∀ {l : List D}, D.cls n l = true ↔ ∀ d ∈ l, d.cl n = true
  | [] => by simp [D.cls]
  | a :: l => by simp [D.cls, cls_all (l := l)]
theorem scls_all {n : Nat} : ∀ {l : List SV}, SV.cls n l = true ↔ ∀ d ∈ l, d.cl n = true
  | [] => by simp [SV.cls]
  | a :: l => by simp [SV.cls, scls_all (l := l)]
theorem cells_of (r : List AV) (i m : Nat) (h : (r.getD i .top).cells.length = m) : ((List.range m).map fun j => (r.getD i .top).cells.getD j .top) = (r.getD i .top).cells := by
  generalize (r.getD i .top).cells = l at h ⊢
  subst h
  apply List.ext_getElem
  · simp
  · intro k h1 h2
    rw [List.getElem_map, List.getElem_range, List.getD, List.getElem?_eq_getElem h2]; rfl
theorem etaOf_sound {kn : List (Nat × Nat)} {ds : List D} {i : Nat} (h : etaOf kn ds = some i) : ds = (List.range ds.length).map fun j => .cell i j := by
  unfold etaOf at h
  split at h
  · split at h
    · cases h; rename_i hb; exact D.beqs_eq _ _ hb.2
    · cases h
  · cases h
theorem asD_sound {kn : List (Nat × Nat)} {v : SV} {ns : List Node} {d : D} (h : asD kn v = some (ns, d)) {r : List AV} {G : List AV → Prop} (hw : wpN P ns r G) : G r ∧ d.ev r = v.ev r := by
  unfold asD at h
  split at h
  · cases h; exact ⟨hw, rfl⟩
  · rename_i cs
    split at h
    · rename_i ds hd
      have hcs := dsOf_map hd
      subst hcs
      split at h
      · rename_i i hi
        cases h
        have he := etaOf_sound hi
        simp only [wpN, Chk.wp, D.ev] at hw
        obtain ⟨h1, h2, h3, h4⟩ := hw
        refine ⟨h4, ?_⟩
        simp only [D.ev, SV.ev, evs_map]
        rw [he, D.evs_eq, List.map_map]
        have := cells_of r i _ h2
        rw [AV.agg_of h1]
        congr 1
        rw [← this]
        rfl
      · cases h
        exact ⟨hw, by simp only [D.ev, SV.ev, evs_map]⟩
    · cases h
  · cases h; exact ⟨hw, rfl⟩
  · cases h
theorem asD_nv {kn : List (Nat × Nat)} {v : SV} {ns : List Node} {d : D} (h : asD kn v = some (ns, d)) (nv : Nat) : nvN nv ns = nv := by
  unfold asD at h
  split at h
  · cases h; rfl
  · split at h
    · split at h <;> cases h <;> rfl
    · cases h
  · cases h; rfl
  · cases h
theorem nvN_append (nv : Nat) : ∀ (a b : List Node), nvN nv (a ++ b) = nvN (nvN nv a) b := by
  intro a
  induction a generalizing nv with
  | nil => intro b; rfl
  | cons x a ih => intro b; cases x <;> simp [nvN, ih]
theorem cur_sound {s : SS} {n : Nat} {l : D} {nl : Bool} {e sz : Nat} (h : cur s n l = some (nl, e, sz)) : s.objs[n]? = some (.row nl e sz l) := by
  unfold cur at h
  split at h
  · rename_i l' ho
    split at h
    · rename_i hb
      cases h
      rw [ho, D.beq_eq _ _ hb]
    · cases h
  · cases h
theorem box_sound {s : SS} {n e : Nat} {cs : List SV} (h : boxOf s n = some (e, cs)) : s.objs[n]? = some (.box e cs) := by
  unfold boxOf at h
  split at h
  · rename_i ho; cases h; exact ho
  · cases h
theorem stO_get {s : SS} {n : Nat} {o : SO} (h : s.objs[n]? = some o) (r : List AV) : (stO s r)[n]? = some (o.ev r) := by
  simp [stO, h]
theorem stO_len (s : SS) (r : List AV) : (stO s r).length = s.objs.length := by simp [stO]
theorem mkA_cells {cs : List AV} (h : cs.length ≠ 1) : mkA cs = .agg cs := by
  unfold mkA
  split
  · simp at h
  · rfl
/-- the cells of a value -/
theorem ones_sound {cs : List SV} (ht : noTops cs = true) {r : List AV} {G : List AV → Prop} (hw : wpN P (chkOnes cs) r G) : G r ∧ ∀ c ∈ SV.evs r cs, c.isCell = true := by
  induction cs with
  | nil => exact ⟨hw, by simp [SV.evs]⟩
  | cons v l ih =>
    cases v with
    | d x =>
      simp only [chkOnes, wpN, Chk.wp] at hw
      obtain ⟨h1, h2, h3⟩ := hw
      obtain ⟨h4, h5⟩ := ih (by simpa [noTops] using ht) h3
      refine ⟨h4, fun c hc => ?_⟩
      simp only [SV.evs, SV.ev, List.mem_cons] at hc
      rcases hc with rfl | hc
      · exact h2
      · exact h5 c hc
    | top => simp [noTops] at ht
    | agg _ => simp [noTops] at ht
    | tup _ => simp [noTops] at ht
    | _ =>
      simp only [chkOnes] at hw
      obtain ⟨h4, h5⟩ := ih (by simpa [noTops] using ht) hw
      refine ⟨h4, fun c hc => ?_⟩
      simp only [SV.evs, SV.ev, List.mem_cons] at hc
      rcases hc with rfl | hc
      · rfl
      · exact h5 c hc
theorem ones_nv (cs : List SV) (nv : Nat) : nvN nv (chkOnes cs) = nv := by
  induction cs with
  | nil => rfl
  | cons v l ih => cases v <;> simp [chkOnes, nvN, ih]
/-- the cells of a value, as an expansion gives them -/
structure Exp1 (m : Nat) (a : AV) (cs : List AV) : Prop where
  len : a.cells.length = m
  sto : a.storable = true
  cells : a.cells = cs
  kind : (a.isCell || a.isAgg) = true
  one : m = 1 → a.isCell = true
  agg : m ≠ 1 → a.isAgg = true
theorem storable_of_cell {a : AV} (h : a.isCell = true) : a.storable = true := by
  unfold AV.storable
  rw [AV.cells_cell h]
  simp [h]
theorem Exp1.mkA {m : Nat} {a : AV} {cs : List AV} (h : Exp1 m a cs) : a = mkA cs := by
  by_cases hm : m = 1
  · have := AV.cells_cell (h.one hm)
    rw [← h.cells, this]; rfl
  · rw [mkA_cells (by rw [← h.cells, h.len]; exact hm), ← h.cells]
    exact AV.agg_of (h.agg hm)
theorem expand_sound {nv m : Nat} {v : SV} {ns : List Node} {cs : List SV} (h : expand nv m v = some (ns, cs)) {r : List AV} (hl : r.length = nv) (hv : v.cl nv = true) {G : List AV → Prop} (hw : wpN P ns r G) :
    ∃ r', (∃ more, r' = r ++ more) ∧ r'.length = nvN nv ns ∧ G r' ∧ Exp1 m (v.ev r) (SV.evs r' cs) := by
  unfold expand at h
  split at h
  · rename_i hm
    subst hm
    have one : ∀ {a : AV}, a.isCell = true → Exp1 1 a [a] := fun {a} ha => ⟨by rw [AV.cells_cell ha]; rfl, storable_of_cell ha, AV.cells_cell ha, by rw [ha]; rfl, fun _ => ha, fun h => (h rfl).elim⟩
    split at h
    · rename_i x
      cases h
      simp only [wpN, Chk.wp] at hw
      exact ⟨r, ⟨[], by simp⟩, hl, hw.2.2, one hw.2.1⟩
    · cases h
    · cases h
    · cases h
    · rename_i h1 h2 h4 h3
      cases h
      refine ⟨r, ⟨[], by simp⟩, hl, hw, ?_⟩
      cases v
      case d x => exact (h1 x rfl).elim
      case agg x => exact (h2 x rfl).elim
      case tup x => exact (h4 x rfl).elim
      case top => exact (h3 rfl).elim
      all_goals exact one rfl
  · rename_i hm
    have agg : ∀ {a : AV} {cs : List AV}, a.isAgg = true → a.cells.length = m → a.storable = true → a.cells = cs → Exp1 m a cs := fun {a cs} h1 h2 h3 h4 => ⟨h2, h3, h4, by rw [h1]; simp, fun h => (hm h).elim, fun _ => h1⟩
    split at h
    · rename_i cs'
      split at h
      · rename_i hc
        cases h
        obtain ⟨h1, h2⟩ := ones_sound hc.2 hw
        refine ⟨r, ⟨[], by simp⟩, by rw [ones_nv, hl], h1, agg rfl ?_ ?_ rfl⟩
        · simp [SV.ev, AV.cells, SV.evs_eq, hc.1]
        · simp only [SV.ev, AV.storable, AV.cells, List.all_eq_true]
          exact h2
      · cases h
    · rename_i i
      cases h
      simp only [wpN, Chk.wp, D.ev] at hw
      obtain ⟨h1, h2, h3, h4⟩ := hw
      refine ⟨r, ⟨[], by simp⟩, hl, h4, agg h1 h2 h3 ?_⟩
      simp only [SV.ev, D.ev]
      rw [← cells_of r i m h2, SV.evs_eq, List.map_map]
      rfl
    · rename_i l
      split at h
      · rename_i hll
        cases h
        simp only [wpN, Chk.wp] at hw
        obtain ⟨h1, h2, h3, h4⟩ := hw
        exact ⟨r, ⟨[], by simp⟩, hl, h4, agg h1 h2 h3 (by simp only [SV.ev, D.ev, AV.cells]; rw [evs_map])⟩
      · cases h
    · rename_i l
      split at h
      · rename_i hll
        cases h
        simp only [wpN, Chk.wp] at hw
        obtain ⟨h1, h2, h3, h4⟩ := hw
        refine ⟨r, ⟨[], by simp⟩, hl, h4, agg h1 h2 h3 ?_⟩
        simp only [SV.ev, D.ev, AV.cells, SV.evs_eq, List.map_map]
        exact (List.map_id l).symm
      · cases h
    · rename_i x _ _ _
      cases h
      simp only [wpN, PO.wp, Chk.wp] at hw
      have hx : (r ++ [x.ev r]).getD nv .top = x.ev r := by simp [List.getD, ← hl]
      simp only [D.ev, hx] at hw
      obtain ⟨h1, h2, h3, h4⟩ := hw
      refine ⟨r ++ [x.ev r], ⟨_, rfl⟩, by simp [nvN, hl], h4, agg h1 h2 h3 ?_⟩
      simp only [SV.ev]
      have := cells_of (r ++ [x.ev r]) nv m (by rw [hx]; exact h2)
      rw [hx] at this
      rw [← this, SV.evs_eq, List.map_map]
      apply List.map_congr_left
      intro j _
      simp only [Function.comp, SV.ev, D.ev, hx]
    · cases h
theorem getD_new {r : List AV} {nv : Nat} (h : r.length = nv) (a : AV) : (r ++ [a]).getD nv .top = a := by simp [List.getD, ← h]
theorem D.evo_opt {s : SS} {x : Option Opd} {d : Option D} (h : xOpt s x = some d) (r : List AV) : D.evo r d = x.map (Opd.ev (stE s r)) := by
  unfold xOpt at h
  split at h
  · cases h; rfl
  · rename_i o
    split at h
    · rename_i y hy
      cases h
      have := opd_ev s o r
      rw [hy] at this
      simp only [D.evo, Option.map_some, ← this]; rfl
    · cases h
end
end Go.Ab
/-
  THE SYMBOLIC WALK IS SOUND: all operations.
-/
namespace Go.Ab
section
variable {P : Program}
theorem PO.wp_imp {r : List AV} {o : PO} {K K' : AV → Prop} (h : o.wp P r K) (hk : ∀ v, K v → K' v) : o.wp P r K' := by
  cases o <;> simp only [PO.wp] at h ⊢
  case val => exact hk _ h
  case pick => exact pickK_imp (K := fun x _ => K x) (K' := fun x _ => K' x) h fun x hx => hk x hx
  case bin => exact binK_imp (K := fun x _ => K x) (K' := fun x _ => K' x) h fun x _ hx => hk x hx
  case beq => simp only [beqP] at h ⊢; split at h <;> first | exact hk _ h | exact h.elim
  case un => exact unK_imp (K := fun x _ => K x) (K' := fun x _ => K' x) h fun x _ hx => hk x hx
  case conv => exact convK_imp (K := fun x _ => K x) (K' := fun x _ => K' x) h fun x _ hx => hk x hx
  case elem => simp only [elemP] at h ⊢; split at h <;> first | exact ⟨h.1, h.2.1, h.2.2.1, hk _ h.2.2.2⟩ | exact h.elim
  case fld => exact fldK_imp (K := fun x _ => K x) (K' := fun x _ => K' x) h fun x _ hx => hk x hx
  case loadc => exact ⟨h.1, hk _ h.2⟩
  case idxS => exact idxSK_imp (K := fun x _ => K x) (K' := fun x _ => K' x) h fun x _ hx => hk x hx
  case sliceS => exact sliceSK_imp (K := fun x _ => K x) (K' := fun x _ => K' x) h fun x _ hx => hk x hx
  case sliceL => exact sliceLK_imp (K := fun x _ => K x) (K' := fun x _ => K' x) h fun x _ hx => hk x hx
  case lenS => exact lenSK_imp (K := fun x _ => K x) (K' := fun x _ => K' x) h fun x _ hx => hk x hx
  case lenL => exact lenLK_mono (K := fun x _ => K x) (K' := fun x _ => K' x) h fun x _ hx => hk x hx
  case mkl => exact hk _ h
  case rep => simp only [repP] at h ⊢; split at h <;> first | exact ⟨h.1, h.2.1, h.2.2.1, h.2.2.2.1, hk _ h.2.2.2.2⟩ | exact h.elim
  case app => exact srcOf_imp (M' := fun ys => _ ∧ _ ∧ _ ∧ K' _) h fun ys _ hK => ⟨hK.1, hK.2.1, hK.2.2.1, hk _ hK.2.2.2⟩
  case get => exact ⟨h.1, h.2.1, hk _ h.2.2⟩
  case set => exact ⟨h.1, h.2.1, h.2.2.1, h.2.2.2.1, hk _ h.2.2.2.2⟩
  case call => obtain ⟨res, h1, h2, h3, h4⟩ := h; exact ⟨res, h1, h2, h3, hk _ h4⟩
  case fcall => obtain ⟨xs, h1, h2, h3⟩ := h; exact ⟨xs, h1, h2, hk _ h3⟩
  case scall => obtain ⟨os, h1, h2, h3, h4⟩ := h; exact ⟨os, h1, h2, h3, hk _ h4⟩
  case callv =>
    simp only [callvP] at h ⊢
    split at h
    · obtain ⟨res, h1, h2, h3, h4⟩ := h; exact ⟨res, h1, h2, h3, hk _ h4⟩
    · exact h.elim
  case ldp => simp only [ldpP] at h ⊢; split at h <;> first | exact ⟨h.1, hk _ h.2⟩ | exact h.elim
  case fap => simp only [fapP] at h ⊢; split at h <;> first | exact hk _ h | exact h.elim
  case pu => unfold puK at h ⊢; split at h <;> first | exact hk _ h | exact h.elim
  case appS => simp only [appSP] at h ⊢; split at h <;> first | exact ⟨h.1, h.2.1, h.2.2.1, hk _ h.2.2.2⟩ | exact h.elim
theorem wpN_mono : ∀ (ns : List Node) {r : List AV} {G G' : List AV → Prop}, (∀ m, G (r ++ m) → G' (r ++ m)) → wpN P ns r G → wpN P ns r G'
  | [], r, G, G', hg, h => by have := hg []; simp only [List.append_nil] at this; exact this h
  | .op o :: ns, r, G, G', hg, h => PO.wp_imp h fun v hv => wpN_mono ns (fun m hm => by rw [List.append_assoc] at hm ⊢; exact hg _ hm) hv
  | .chk c :: ns, r, G, G', hg, h => Chk.wp_mono h (wpN_mono ns hg)
/-- a step of the symbolic walk says what the operation asks -/
def OpOk (P : Program) (op : AOp) (s : SS) (q : List Node × SV × SS) : Prop :=
  ∀ (r : List AV), r.length = s.nv → s.cl = true → AV.norefs r = true → nodesCl s.nv q.1 = true → ∀ K : KT, wpN P q.1 r (fun r' => stE q.2.2 r' = stE s r → K (q.2.1.ev r') (stO q.2.2 r')) → wpOp P op (stE s r) (stO s r) K
theorem nx_fin {s : SS} {r : List AV} (hl : r.length = s.nv) (hc : s.cl = true) {ns : List Node} (hn : nvN s.nv ns = s.nv) {o : PO} {K : KT} {x : AV} (h : stE (nx s ns o).2.2 (r ++ [x]) = stE s r → K ((nx s ns o).2.1.ev (r ++ [x])) (stO (nx s ns o).2.2 (r ++ [x]))) : K x (stO s r) := by
  have h1 : stE (nx s ns o).2.2 (r ++ [x]) = stE s r := stE_more (s := s) hl hc
  have h2 := h h1
  have h3 : stO (nx s ns o).2.2 (r ++ [x]) = stO s r := stO_more (s := s) hl hc
  rw [h3] at h2
  have h4 : (nx s ns o).2.1.ev (r ++ [x]) = x := by
    simp only [nx, SV.ev, D.ev, hn]
    exact getD_new hl x
  rwa [h4] at h2
theorem nx_hk {s : SS} {r : List AV} (hl : r.length = s.nv) (hc : s.cl = true) {o : PO} {K : KT} (h : wpN P (nx s [] o).1 r (fun r' => stE (nx s [] o).2.2 r' = stE s r → K ((nx s [] o).2.1.ev r') (stO (nx s [] o).2.2 r'))) : o.wp P r fun v => K v (stO s r) :=
  PO.wp_imp (o := o) h fun _ hv => nx_fin (ns := []) (o := o) hl hc rfl hv
theorem mov_ok (s : SS) (a : Opd) : OpOk P (.mov a) s ([], opd s a, s) := by
  intro r hl hc hr hnc K h
  have := h rfl
  rwa [opd_ev] at this
theorem alloc_ok {s : SS} {t n : Nat} {z : AV} {q} (h : xAlloc s t n z = some q) : OpOk P (.alloc t n z) s q := by
  intro r hl hc hr hnc K hk
  unfold xAlloc at h
  split at h
  · rename_i hn
    cases h
    have := hk rfl
    simp only [stO, List.map_append, List.map_cons, List.map_nil, SO.ev, SV.evs, SV.ev, D.ev, mkA] at this
    simp only [wpOp]
    rw [stO_len, hn.1]
    exact this
  · split at h
    · rename_i cs _
      split at h
      · rename_i hn
        cases h
        have := hk rfl
        have he : SV.evs r (cs.map fun a => .d (.c a)) = cs := by
          rw [SV.evs_eq, List.map_map]
          exact List.map_id cs
        simp only [stO, List.map_append, List.map_cons, List.map_nil, SO.ev, he, List.length_map, SV.ev] at this
        rw [mkA_cells (by rw [hn.2]; exact hn.1), hn.2] at this
        simp only [wpOp]
        rw [stO_len]
        exact this
      · cases h
    · cases h
theorem box_ok {s : SS} {t n : Nat} {a : Opd} {q} (ha : (opd s a).cl s.nv = true) (h : xBox s t n (opd s a) = some q) : OpOk P (.box t n a) s q := by
  intro r hl hc hr hnc K hk
  unfold xBox at h
  split at h
  · rename_i ns cs he
    split at h
    · rename_i hcs
      cases h
      obtain ⟨r', ⟨more, rfl⟩, hlen, hG, hE⟩ := expand_sound he hl ha hk
      have hG := hG (stE_more (s := s) hl hc)
      simp only [wpOp, ← opd_ev]
      have hob : stO { s with objs := s.objs ++ [.box t cs], nv := nvN s.nv ns } (r ++ more) = stO s r ++ [.live t n [(opd s a).ev r]] := by
        simp only [stO, List.map_append, List.map_cons, List.map_nil, SO.ev]
        rw [hE.mkA, hcs]
        congr 1
        exact stO_more (s := s) hl hc
      rw [hob] at hG
      rw [stO_len]
      exact ⟨hE.len, hE.sto, hG⟩
    · cases h
  · cases h
theorem kept_sound {s : SS} {k t m : Nat} (h : kept s k t m = true) (r : List AV) : (stO s r)[k]? = some (.nil t m) := by
  unfold kept at h
  split at h
  · rename_i t' m' ho
    simp only [Bool.and_eq_true, decide_eq_true_eq] at h
    obtain ⟨rfl, rfl⟩ := h
    rw [stO_get ho r]
    simp [SO.ev, D.ev, listOf]
  · cases h
theorem allocAt_ok {s : SS} {k t n : Nat} {z : AV} {q} (hz : z.noref = true) (h : xAllocAt s k t n z = some q) : OpOk P (.allocAt k t n z) s q := by
  intro r hl hc hr hnc K hk
  unfold xAllocAt at h
  split at h
  · rename_i hkp
    have hO := kept_sound hkp r
    have fin : ∀ cs : List AV, cs.length = n → mkA cs = z → q = ([], .ptr k 0, { s with objs := s.objs.set k (.box t (cs.map fun a => .d (.c a))) }) → wpOp P (.allocAt k t n z) (stE s r) (stO s r) K := by
      rintro cs hcs hz' rfl
      have := hk rfl
      have hev : SV.evs r (cs.map fun a => SV.d (.c a)) = cs := by
        rw [SV.evs_eq, List.map_map]
        conv => rhs; rw [← List.map_id cs]
        rfl
      simp only [stO, List.map_set, SO.ev, hev, hz', List.length_map, hcs] at this
      exact ⟨hz, hO, this⟩
    split at h
    · rename_i hn
      cases h
      exact fin [z] hn.1.symm rfl rfl
    · split at h
      · rename_i cs _
        split at h
        · rename_i hn
          cases h
          exact fin cs hn.2 (mkA_cells (by rw [hn.2]; exact hn.1)) rfl
        · cases h
      · cases h
  · cases h
theorem boxAt_ok {s : SS} {k t n : Nat} {a : Opd} {q} (hok : a.okc = true) (ha : (opd s a).cl s.nv = true) (h : xBoxAt s k t n (opd s a) = some q) : OpOk P (.boxAt k t n a) s q := by
  intro r hl hc hr hnc K hk
  unfold xBoxAt at h
  split at h
  · rename_i hkp
    have hO := kept_sound hkp r
    split at h
    · rename_i ns cs he
      split at h
      · rename_i hcs
        cases h
        obtain ⟨r', ⟨more, rfl⟩, hlen, hG, hE⟩ := expand_sound he hl ha hk
        have hG := hG (stE_more (s := s) hl hc)
        simp only [wpOp, ← opd_ev]
        have hob : stO { s with objs := s.objs.set k (.box t cs), nv := nvN s.nv ns } (r ++ more) = (stO s r).set k (.live t n [(opd s a).ev r]) := by
          simp only [stO, List.map_set, SO.ev]
          rw [hE.mkA, hcs]
          congr 1
          exact stO_more (s := s) hl hc
        rw [hob] at hG
        exact ⟨hok, hO, hE.len, hE.sto, hG⟩
      · cases h
    · cases h
  · cases h
theorem bin_ok {s : SS} {o : BinOp} {a b : Opd} {x y : D} (ha : opd s a = .d x) (hb : opd s b = .d y) : OpOk P (.bin o a b) s (nx s [] (.bin o x y)) := by
  intro r hl hc hr hnc K hk
  rw [o_bin, ← opd_ev, ← opd_ev, ha, hb]
  exact binK_imp (O := []) (K := fun x _ => K x (stO s r)) (nx_hk hl hc hk) fun v _ hv => hv
theorem beq_ok {s : SS} {neg : Bool} {a b : Opd} {x y : D} (ha : opd s a = .d x) (hb : opd s b = .d y) : OpOk P (.beq neg a b) s (nx s [] (.beq neg x y)) := by
  intro r hl hc hr hnc K hk
  have h1 := nx_hk (K := K) hl hc hk
  simp only [PO.wp, beqP] at h1
  simp only [wpOp, ← opd_ev, ha, hb, SV.ev]
  split at h1
  · rename_i p q hp hq
    rw [hp, hq]
    exact h1
  · exact h1.elim
theorem un_ok {s : SS} {o : UnOp} {a : Opd} {x : D} (ha : opd s a = .d x) : OpOk P (.un o a) s (nx s [] (.un o x)) := by
  intro r hl hc hr hnc K hk
  rw [o_un, ← opd_ev, ha]
  exact unK_imp (O := []) (K := fun x _ => K x (stO s r)) (nx_hk hl hc hk) fun v _ hv => hv
theorem conv_ok {s : SS} {k : IntKind} {a : Opd} {x : D} (ha : opd s a = .d x) : OpOk P (.convInt k a) s (nx s [] (.conv k x)) := by
  intro r hl hc hr hnc K hk
  rw [o_conv, ← opd_ev, ha]
  exact convK_imp (O := []) (K := fun x _ => K x (stO s r)) (nx_hk hl hc hk) fun v _ hv => hv
theorem idxS_ok {s : SS} {a b : Opd} {x y : D} (ha : opd s a = .d x) (hb : opd s b = .d y) : OpOk P (.idxS a b) s (nx s [] (.idxS x y)) := by
  intro r hl hc hr hnc K hk
  rw [o_idxS, ← opd_ev, ← opd_ev, ha, hb]
  exact idxSK_imp (O := []) (K := fun x _ => K x (stO s r)) (nx_hk hl hc hk) fun v _ hv => hv
theorem lenS_ok {s : SS} {a : Opd} {x : D} (ha : opd s a = .d x) : OpOk P (.lenS a) s (nx s [] (.lenS x)) := by
  intro r hl hc hr hnc K hk
  rw [o_lenS, ← opd_ev, ha]
  exact lenSK_imp (O := []) (K := fun x _ => K x (stO s r)) (nx_hk hl hc hk) fun v _ hv => hv
theorem lenL_ok {s : SS} {a : Opd} {x : D} (ha : opd s a = .d x) : OpOk P (.lenL a) s (nx s [] (.lenL x)) := by
  intro r hl hc hr hnc K hk
  rw [o_lenL, ← opd_ev, ha]
  exact lenLK_imp (K := fun x _ => K x (stO s r)) (nx_hk hl hc hk) fun v _ hv => hv
theorem listOf_sl (xs : List AV) : listOf (.sl xs) = xs := rfl
/-- a row's length, its contents -/
theorem row_cases {s : SS} {n e sz : Nat} {nl : Bool} {l : D} (h : s.objs[n]? = some (.row nl e sz l)) (r : List AV) :
    (stO s r)[n]? = some (.live e sz (listOf (l.ev r))) ∨ ((stO s r)[n]? = some (.nil e sz) ∧ listOf (l.ev r) = [] ∧ nl = true) := by
  have := stO_get h r
  cases nl with
  | false => exact .inl this
  | true =>
    simp only [SO.ev] at this
    split at this
    · rename_i hx; exact .inr ⟨this, hx, rfl⟩
    · exact .inl this
theorem lenLr_ok {s : SS} {a : Opd} {k : Nat} {l : D} (ha : opd s a = .row k l) (hcur : (cur s k l).isSome = true) : OpOk P (.lenL a) s (nx s [] (.lenL (.sl l))) := by
  intro r hl hc hr hnc K hk
  rw [o_lenL, ← opd_ev, ha]
  obtain ⟨⟨nl, e, sz⟩, hq⟩ := Option.isSome_iff_exists.1 hcur
  have ho := cur_sound hq
  have hf := nx_hk hl hc hk
  simp only [PO.wp, D.ev, lenLK_sl, k1] at hf
  simp only [SV.ev, lenLK]
  rcases row_cases ho r with h | ⟨h, hx, _⟩
  · rw [h, objN_live]; exact ⟨rfl, hf⟩
  · rw [hx] at hf ⊢
    rw [h, objN_nil]; exact ⟨rfl, hf⟩
theorem sliceS_ok {s : SS} {a : Opd} {lo hi : Option Opd} {x : D} {dl dh : Option D} (ha : opd s a = .d x) (h1 : xOpt s lo = some dl) (h2 : xOpt s hi = some dh) : OpOk P (.sliceS a lo hi) s (nx s [] (.sliceS x dl dh)) := by
  intro r hl hc hr hnc K hk
  rw [o_sliceS, ← opd_ev, ha, ← D.evo_opt h1, ← D.evo_opt h2]
  exact sliceSK_imp (O := []) (K := fun x _ => K x (stO s r)) (nx_hk hl hc hk) fun v _ hv => hv
theorem sliceL_ok {s : SS} {m : Nat} {a : Opd} {lo hi : Option Opd} {x : D} {dl dh : Option D} (ha : opd s a = .d x) (h1 : xOpt s lo = some dl) (h2 : xOpt s hi = some dh) : OpOk P (.sliceL m a lo hi) s (nx s [] (.sliceL m x dl dh)) := by
  intro r hl hc hr hnc K hk
  rw [o_sliceL, ← opd_ev, ha, ← D.evo_opt h1, ← D.evo_opt h2]
  exact sliceLK_imp (O := []) (K := fun x _ => K x (stO s r)) (nx_hk hl hc hk) fun v _ hv => hv
theorem pick_ok {s : SS} {c a b : Opd} {x : D} {na nb : List Node} {y z : D} (hc' : opd s c = .d x) (ha : asD s.kn (opd s a) = some (na, y)) (hb : asD s.kn (opd s b) = some (nb, z)) : OpOk P (.pick c a b) s (nx s (na ++ nb) (.pick x y z)) := by
  intro r hl hc hr hnc K hk
  have h1 : nvN s.nv (na ++ nb) = s.nv := by rw [nvN_append, asD_nv ha, asD_nv hb]
  simp only [nx, wpN_append] at hk
  obtain ⟨hk, e1⟩ := asD_sound ha hk
  obtain ⟨hk, e2⟩ := asD_sound hb hk
  rw [o_pick, ← opd_ev, ← opd_ev, ← opd_ev, hc', ← e1, ← e2]
  have := PO.wp_imp (o := .pick x y z) hk fun v hv => nx_fin (o := .pick x y z) (K := K) hl hc h1 hv
  exact pickK_imp (O := []) (K := fun x _ => K x (stO s r)) this fun v hv => hv
theorem pickc_ok {s : SS} {c a b : Opd} {t : Bool} (hc' : opd s c = .d (.c (.v (.bool t)))) : OpOk P (.pick c a b) s ([], if t then opd s a else opd s b, s) := by
  intro r hl hc hr hnc K hk
  have := hk rfl
  rw [o_pick, ← opd_ev, hc']
  simp only [SV.ev, D.ev, pickK]
  cases t <;> simpa [opd_ev] using this
theorem norm_fin {s : SS} {r : List AV} (hl : r.length = s.nv) (hc : s.cl = true) {ns : List Node} {cs : List SV} {K : KT}
    (h : wpN P (norm s ns cs).1 r (fun r2 => stE (norm s ns cs).2.2 r2 = stE s r → K ((norm s ns cs).2.1.ev r2) (stO (norm s ns cs).2.2 r2))) : wpN P ns r (fun r2 => K (.agg (SV.evs r2 cs)) (stO s r)) := by
  unfold norm at h
  split at h
  · rename_i ms x hx
    simp only [done, wpN_append] at h
    refine wpN_mono ns (fun m h2 => ?_) h
    obtain ⟨h3, h4⟩ := asD_sound hx h2
    have h5 := h3 (stE_more (s := s) hl hc)
    simp only [SV.ev] at h5 h4
    rw [h4] at h5
    have : stO { s with nv := nvN s.nv (ns ++ ms) } (r ++ m) = stO s r := stO_more (s := s) hl hc
    rwa [this] at h5
  · simp only [done] at h
    refine wpN_mono ns (fun m h2 => ?_) h
    have h5 := h2 (stE_more (s := s) hl hc)
    simp only [SV.ev] at h5
    have : stO { s with nv := nvN s.nv ns } (r ++ m) = stO s r := stO_more (s := s) hl hc
    rwa [this] at h5
end
end Go.Ab
/-
  THE SYMBOLIC WALK IS SOUND: structs, rows, loads, stores, calls.
-/
namespace Go.Ab
section
variable {P : Program}
theorem evs_more' {r m : List AV} {cs : List SV} (h : ∀ c ∈ cs, c.cl r.length = true) : SV.evs (r ++ m) cs = SV.evs r cs := SV.evs_more cs (scls_all.2 h)
theorem expand_cl {nv m : Nat} {v : SV} {ns : List Node} {cs : List SV} (h : expand nv m v = some (ns, cs)) (hv : v.cl nv = true) : ∀ c ∈ cs, c.cl (nvN nv ns) = true := by
  unfold expand at h
  split at h
  · split at h
    · cases h; simpa [SV.cl, nvN] using hv
    · cases h
    · cases h
    · cases h
    · cases h; simpa [nvN] using hv
  · split at h
    · split at h
      · cases h; rw [ones_nv]; exact scls_all.1 hv
      · cases h
    · cases h
      simp only [List.mem_map, nvN]
      rintro c ⟨j, _, rfl⟩
      exact hv
    · split at h
      · cases h
        simp only [List.mem_map, nvN]
        rintro c ⟨d, hd, rfl⟩
        exact cls_all.1 (by simpa [SV.cl, D.cl] using hv) d hd
      · cases h
    · split at h
      · cases h
        simp only [List.mem_map, nvN]
        rintro c ⟨d, hd, rfl⟩
        exact norefs_mem (by simpa [SV.cl, D.cl, AV.noref] using hv) d hd
      · cases h
    · cases h
      simp only [List.mem_map, nvN]
      rintro c ⟨j, _, rfl⟩
      simp [SV.cl, D.cl]
    · cases h
mutual
theorem cl_le {n m : Nat} (h : n ≤ m) : ∀ (d : D), d.cl n = true → d.cl m = true
  | .x i => by simp only [D.cl, decide_eq_true_eq]; omega
  | .c a => id
  | .cell i j => by simp only [D.cl, decide_eq_true_eq]; omega
  | .ext i j => by simp only [D.cl, decide_eq_true_eq]; omega
  | .sl l => by simpa only [D.cl] using cl_le h l
  | .agg l => by simpa only [D.cl] using cls_le h l
  | .fn f l => by simpa only [D.cl] using cls_le h l
  | .ip d f => by simpa only [D.cl] using cl_le h d
theorem cls_le {n m : Nat} (h : n ≤ m) : ∀ (l : List D), D.cls n l = true → D.cls m l = true
  | [] => id
  | d :: l => by
    simp only [D.cls, Bool.and_eq_true]
    exact fun q => ⟨cl_le h d q.1, cls_le h l q.2⟩
end
mutual
theorem scl_le {n m : Nat} (h : n ≤ m) : ∀ (v : SV), v.cl n = true → v.cl m = true
  | .d x => cl_le h x
  | .row k l => cl_le h l
  | .ptr k f => id
  | .rp k l i f => by simp only [SV.cl, Bool.and_eq_true]; exact fun q => ⟨cl_le h l q.1, cl_le h i q.2⟩
  | .ip x f => cl_le h x
  | .agg cs => by simpa only [SV.cl] using scls_le h cs
  | .tup cs => by simpa only [SV.cl] using scls_le h cs
  | .top => id
theorem scls_le {n m : Nat} (h : n ≤ m) : ∀ (l : List SV), SV.cls n l = true → SV.cls m l = true
  | [] => id
  | d :: l => by
    simp only [SV.cls, Bool.and_eq_true]
    exact fun q => ⟨scl_le h d q.1, scls_le h l q.2⟩
end
theorem nvN_le : ∀ (ns : List Node) (nv : Nat), nv ≤ nvN nv ns
  | [], nv => Nat.le_refl _
  | .op o :: ns, nv => Nat.le_trans (Nat.le_succ _) (nvN_le ns (nv + 1))
  | .chk c :: ns, nv => nvN_le ns nv
theorem opd_cl' {s : SS} (h : s.cl = true) {x : Opd} (hx : opdOk x = true) : (opd s x).cl s.nv = true := by
  cases x with
  | t n => exact SS.cl_env h n
  | c a => exact hx
theorem parts_sound {s : SS} (hc : s.cl = true) : ∀ (ps : List (Nat × Nat × Opd)) (ns : List Node) (cs : List SV) {ns' : List Node} {cs' : List SV}, xParts s ns cs ps = some (ns', cs') → ps.all (fun p => opdOk p.2.2) = true → (∀ c ∈ cs, c.cl (nvN s.nv ns) = true) →
    ∃ ms, ns' = ns ++ ms ∧ ∀ (r : List AV), r.length = s.nv → ∀ (r1 : List AV), (∃ m, r1 = r ++ m) → r1.length = nvN s.nv ns → ∀ {M : AV → Prop} {G : List AV → Prop}, wpN P ms r1 G → (∀ m, G (r1 ++ m) → M (.agg (SV.evs (r1 ++ m) cs'))) → buildK (stE s r) (SV.evs r1 cs) ps M
  | [], ns, cs, ns', cs', h, _, _ => by
    simp only [xParts, Option.some.injEq, Prod.mk.injEq] at h
    obtain ⟨rfl, rfl⟩ := h
    refine ⟨[], by simp, fun r _ r1 _ _ M G hw hG => ?_⟩
    have := hG [] (by rw [List.append_nil]; exact hw)
    simpa [buildK] using this
  | (off, size, x) :: ps, ns, cs, ns', cs', h, ho, hcs => by
    simp only [xParts] at h
    split at h
    · rename_i ms vs he
      split at h
      · rename_i hv
        simp only [List.all_cons, Bool.and_eq_true] at ho
        have hx : (opd s x).cl (nvN s.nv ns) = true := scl_le (nvN_le ns s.nv) _ (opd_cl' hc ho.1)
        have hvc := expand_cl he hx
        obtain ⟨ms', rfl, ih⟩ := parts_sound hc ps _ _ h ho.2 (by
          intro c hm
          rw [nvN_append]
          simp only [List.mem_append] at hm
          have hle := nvN_le ms (nvN s.nv ns)
          rcases hm with (hm | hm) | hm
          · exact scl_le hle c (hcs c (List.mem_of_mem_take hm))
          · exact hvc c hm
          · exact scl_le hle c (hcs c (List.mem_of_mem_drop hm)))
        refine ⟨ms ++ ms', by simp, fun r hl r1 hp hl1 M G hw hG => ?_⟩
        rw [wpN_append] at hw
        obtain ⟨r2, ⟨m, rfl⟩, hl2, hw2, hE⟩ := expand_sound he hl1 hx hw
        have hev : (opd s x).ev r1 = x.ev (stE s r) := by
          obtain ⟨m0, rfl⟩ := hp
          rw [SV.ev_more _ (by rw [hl]; exact opd_cl' hc ho.1), opd_ev]
        rw [hev] at hE
        simp only [buildK]
        refine ⟨hE.len, hE.kind, by rw [SV.evs_eq, List.length_map]; exact hv.2, ?_⟩
        have hcl2 : SV.evs (r1 ++ m) cs = SV.evs r1 cs := evs_more' (by rw [hl1]; exact hcs)
        have h1 : (SV.evs r1 cs).take off ++ (x.ev (stE s r)).cells ++ (SV.evs r1 cs).drop (off + size) = SV.evs (r1 ++ m) (cs.take off ++ vs ++ cs.drop (off + size)) := by
          rw [hE.cells, ← hcl2]
          simp only [SV.evs_eq, List.map_append, List.map_take, List.map_drop]
        rw [h1]
        exact ih r hl (r1 ++ m) (by obtain ⟨m0, rfl⟩ := hp; exact ⟨m0 ++ m, by simp⟩) (by rw [hl2, nvN_append]) hw2 fun m' hm' => by
          rw [List.append_assoc] at hm' ⊢; exact hG _ hm'
      · cases h
    · cases h
theorem build_ok {s : SS} {z : List AV} {ps : List (Nat × Nat × Opd)} {q} (ho : ps.all (fun p => opdOk p.2.2) = true) (hz : AV.norefs z = true) (h : xBuild s z ps = some q) : OpOk P (.build z ps) s q := by
  intro r hl hc hr hnc K hk
  unfold xBuild at h
  split at h
  · rename_i ns cs hp
    cases h
    obtain ⟨ms, rfl, hs⟩ := parts_sound (P := P) hc ps [] _ hp ho (by
      simp only [List.mem_map]; rintro c ⟨a, ha, rfl⟩; exact norefs_mem hz a ha)
    have := norm_fin (K := K) hl hc hk
    have he : SV.evs r (z.map fun a => .d (.c a)) = z := by
      rw [SV.evs_eq, List.map_map]; exact List.map_id z
    have h2 := hs r hl r ⟨[], by simp⟩ (by simp [hl, nvN]) (M := fun a => K a (stO s r)) this (fun m hm => hm)
    rw [he] at h2
    exact h2
  · cases h
theorem chkOf_sound {m : Nat} {d : D} {r : List AV} {G : List AV → Prop} (h : wpN P [chkOf m d] r G) : G r ∧ Exp1 m (d.ev r) (d.ev r).cells := by
  unfold chkOf at h
  split at h
  · rename_i hm
    subst hm
    obtain ⟨h1, h2, h3⟩ := h
    exact ⟨h3, h1, storable_of_cell h2, rfl, by rw [h2]; rfl, fun _ => h2, fun h => (h rfl).elim⟩
  · rename_i hm
    obtain ⟨h1, h2, h3, h4⟩ := h
    exact ⟨h4, h2, h3, rfl, by rw [h1]; simp, fun h => (hm h).elim, fun _ => h1⟩
theorem chkOf_nv (m : Nat) (d : D) (nv : Nat) : nvN nv [chkOf m d] = nv := by unfold chkOf; split <;> rfl
theorem elems_sound {s : SS} {m len : Nat} : ∀ {ps : List (Nat × Opd)} {ns : List Node} {qs : List (Nat × D)}, xElems s m len ps = some (ns, qs) → nvN s.nv ns = s.nv ∧ ∀ {r : List AV} {G : List AV → Prop}, wpN P ns r G → G r ∧
    ∀ (z : List AV) (M : List AV → Prop), z.length = len → M (setAll z (qs.map fun p => (p.1, p.2.ev r))) → rowK (stE s r) m z ps M
  | [], ns, qs, h => by
    simp only [xElems, Option.some.injEq, Prod.mk.injEq] at h
    obtain ⟨rfl, rfl⟩ := h
    exact ⟨rfl, fun hw => ⟨hw, fun z M _ hM => hM⟩⟩
  | (i, x) :: ps, ns, qs, h => by
    simp only [xElems] at h
    split at h
    · rename_i ns1 d ms qs1 h1 h2
      split at h
      · rename_i hi
        cases h
        obtain ⟨h3, ih⟩ := elems_sound h2
        refine ⟨?_, fun {r G} hw => ?_⟩
        · rw [show ns1 ++ chkOf m d :: ms = ns1 ++ ([chkOf m d] ++ ms) by simp, nvN_append, nvN_append, asD_nv h1, chkOf_nv, h3]
        · rw [show ns1 ++ chkOf m d :: ms = ns1 ++ ([chkOf m d] ++ ms) by simp, wpN_append] at hw
          obtain ⟨hw, he⟩ := asD_sound h1 hw
          rw [wpN_append] at hw
          obtain ⟨hw, hE⟩ := chkOf_sound hw
          obtain ⟨hG, hrow⟩ := ih hw
          refine ⟨hG, fun z M hz hM => ?_⟩
          rw [he, opd_ev] at hE
          simp only [rowK]
          refine ⟨hE.len, hE.sto, by omega, hrow _ M (by simpa using hz) ?_⟩
          simp only [List.map_cons, setAll, he, opd_ev] at hM
          exact hM
      · cases h
    · cases h
theorem newRow_fin {s : SS} {t m : Nat} {ns : List Node} {o : PO} {q} (h : newRow s t m (nx s ns o) = some q) (hn : nvN s.nv ns = s.nv) {r : List AV} (hl : r.length = s.nv) (hc : s.cl = true) {K : KT}
    (hk : wpN P q.1 r (fun r' => stE q.2.2 r' = stE s r → K (q.2.1.ev r') (stO q.2.2 r'))) :
    wpN P ns r fun r1 => r1 = r → o.wp P r fun v => K (.row s.objs.length (listOf v).length) (stO s r ++ [.live t m (listOf v)]) := by
  simp only [newRow, nx, Option.some.injEq] at h
  subst h
  simp only [wpN_append] at hk
  refine wpN_mono ns (fun mm hw he => ?_) hk
  rw [he] at hw
  refine PO.wp_imp (o := o) hw fun v hv => ?_
  have h1 : stE { s with objs := s.objs ++ [.row false t m (.x (nvN s.nv ns))], nv := nvN s.nv ns + 1 } (r ++ [v]) = stE s r := stE_more (s := s) hl hc
  have h2 := hv h1
  have h3 : stO { s with objs := s.objs ++ [.row false t m (.x (nvN s.nv ns))], nv := nvN s.nv ns + 1 } (r ++ [v]) = stO s r ++ [.live t m (listOf v)] := by
    simp only [stO, List.map_append, List.map_cons, List.map_nil, SO.ev, D.ev, hn, getD_new hl]
    congr 1
    exact stO_more (s := s) hl hc
  rw [h3] at h2
  simp only [SV.ev, D.ev, hn, getD_new hl] at h2
  exact h2
theorem rowOb_ev (nl : Bool) (e s : Nat) (l : D) (r : List AV) : (SO.row nl e s l).ev r = rowOb nl e s (listOf (l.ev r)) := by
  cases nl
  · simp only [SO.ev, rowOb, Bool.false_eq_true, false_and, if_false]
  · simp only [SO.ev, rowOb, true_and]
theorem newRowN_fin {s : SS} {nl : Bool} {t m : Nat} {ns : List Node} {o : PO} {q} (h : newRowN s nl t m (nx s ns o) = some q) (hn : nvN s.nv ns = s.nv) {r : List AV} (hl : r.length = s.nv) (hc : s.cl = true) {K : KT}
    (hk : wpN P q.1 r (fun r' => stE q.2.2 r' = stE s r → K (q.2.1.ev r') (stO q.2.2 r'))) :
    wpN P ns r fun r1 => r1 = r → o.wp P r fun v => K (.row s.objs.length (listOf v).length) (stO s r ++ [rowOb nl t m (listOf v)]) := by
  simp only [newRowN, nx, Option.some.injEq] at h
  subst h
  simp only [wpN_append] at hk
  refine wpN_mono ns (fun mm hw he => ?_) hk
  rw [he] at hw
  refine PO.wp_imp (o := o) hw fun v hv => ?_
  have h1 : stE { s with objs := s.objs ++ [.row nl t m (.x (nvN s.nv ns))], nv := nvN s.nv ns + 1 } (r ++ [v]) = stE s r := stE_more (s := s) hl hc
  have h2 := hv h1
  have h3 : stO { s with objs := s.objs ++ [.row nl t m (.x (nvN s.nv ns))], nv := nvN s.nv ns + 1 } (r ++ [v]) = stO s r ++ [rowOb nl t m (listOf v)] := by
    simp only [stO, List.map_append, List.map_cons, List.map_nil, rowOb_ev, D.ev, hn, getD_new hl]
    congr 1
    exact stO_more (s := s) hl hc
  rw [h3] at h2
  simp only [SV.ev, D.ev, hn, getD_new hl] at h2
  exact h2
theorem buildSlice_ok {s : SS} {t m len : Nat} {z : AV} {ps : List (Nat × Opd)} {q} (h : xBuildSlice s t m len z ps = some q) : OpOk P (.buildSlice t m len z ps) s q := by
  intro r hl hc hr hnc K hk
  unfold xBuildSlice at h
  split at h
  · rename_i ns qs hp
    obtain ⟨hn, hs⟩ := elems_sound (P := P) hp
    have h1 := newRow_fin h hn hl hc hk
    obtain ⟨hG, hrow⟩ := hs h1
    have hG := hG rfl
    simp only [PO.wp] at hG
    simp only [wpOp, stO_len]
    refine hrow _ _ (by simp) ?_
    rw [listOf_sl] at hG
    have hlen : (setAll (List.replicate len z) (qs.map fun p => (p.1, p.2.ev r))).length = len := by
      have : ∀ (ps : List (Nat × AV)) (z : List AV), (setAll z ps).length = z.length := by
        intro ps
        induction ps with
        | nil => intro z; rfl
        | cons p ps ih => intro z; simp [setAll, ih]
      rw [this]; simp
    rw [hlen] at hG
    exact hG
  · cases h
theorem buildAt_ok {s : SS} {k t m len : Nat} {z : AV} {ps : List (Nat × Opd)} {q} (hz : z.noref = true) (hp' : ps.all (fun p => p.2.okc) = true) (h : xBuildAt s k t m len z ps = some q) : OpOk P (.buildAt k t m len z ps) s q := by
  intro r hl hc hr hnc K hk
  unfold xBuildAt at h
  split at h
  · rename_i hkp
    have hO := kept_sound hkp r
    split at h
    · rename_i ns qs hp
      cases h
      obtain ⟨hn, hs⟩ := elems_sound (P := P) hp
      simp only [wpN_append, wpN, Chk.wp, PO.wp] at hk
      refine ⟨hz, hp', ?_⟩
      have hk' : wpN P ns r fun r1 => r1 = r → ∃ xs, xs = setAll (List.replicate len z) (qs.map fun p => (p.1, p.2.ev r)) ∧ xs ≠ [] ∧ K (.row k xs.length) ((stO s r).set k (.live t m xs)) := by
        refine wpN_mono ns (fun mm hw he => ?_) hk
        rw [he] at hw
        obtain ⟨h1, h2⟩ := hw
        simp only [D.ev, getD_new hl, listOf_sl] at h1
        have e1 : stE { s with objs := s.objs.set k (.row false t m (.x s.nv)), nv := s.nv + 1 } (r ++ [.sl (setAll (List.replicate len z) (qs.map fun p => (p.1, p.2.ev r)))]) = stE s r := stE_more (s := s) hl hc
        have h2 := h2 e1
        have e2 : stO { s with objs := s.objs.set k (.row false t m (.x s.nv)), nv := s.nv + 1 } (r ++ [.sl (setAll (List.replicate len z) (qs.map fun p => (p.1, p.2.ev r)))]) = (stO s r).set k (.live t m (setAll (List.replicate len z) (qs.map fun p => (p.1, p.2.ev r)))) := by
          simp only [stO, List.map_set, SO.ev, D.ev, getD_new hl, listOf_sl]
          congr 1
          exact stO_more (s := s) hl hc
        rw [e2] at h2
        simp only [SV.ev, D.ev, getD_new hl, listOf_sl] at h2
        exact ⟨_, rfl, h1, h2⟩
      obtain ⟨hG, hrow⟩ := hs hk'
      obtain ⟨xs, hxs, hne, hK⟩ := hG rfl
      refine hrow _ _ (by simp) ?_
      rw [← hxs]
      have hlen : xs.length = len := by
        have : ∀ (ps : List (Nat × AV)) (z : List AV), (setAll z ps).length = z.length := by
          intro ps
          induction ps with
          | nil => intro z; rfl
          | cons p ps ih => intro z; simp [setAll, ih]
        rw [hxs, this]; simp
      rw [hlen] at hK
      exact ⟨hO, hne, hK⟩
    · cases h
  · cases h
theorem mk_ok {s : SS} {t m bytes : Nat} {z : AV} {n c : Opd} {x y : D} {q} (hn : opd s n = .d x) (hc' : opd s c = .d y) (h : newRow s t m (nx s [] (.rep bytes z x y)) = some q) : OpOk P (.mk t m bytes z n c) s q := by
  intro r hl hc hr hnc K hk
  have h1 := newRow_fin h rfl hl hc hk
  have h1 := h1 rfl
  simp only [PO.wp, repP] at h1
  rw [o_mk, ← opd_ev, ← opd_ev, hn, hc']
  simp only [SV.ev]
  split at h1
  · rename_i a b h2 h3
    rw [h2, h3, mkK_eq]
    simp only [listOf_sl, List.length_replicate] at h1
    rw [stO_len]
    exact h1
  · exact h1.elim
theorem getD_mkA {cs : List SV} {r : List AV} {f : Nat} {v : SV} (h : cs[f]? = some v) (hc : cs.length ≠ 1 ∨ (v.ev r).cells = [v.ev r]) : f + 1 ≤ (mkA (SV.evs r cs)).cells.length ∧ (mkA (SV.evs r cs)).cells.getD f .top = v.ev r := by
  have hlt := (List.getElem?_eq_some_iff.1 h).1
  have he : (SV.evs r cs)[f]? = some (v.ev r) := by rw [SV.evs_eq, List.getElem?_map, h]; rfl
  by_cases h1 : cs.length = 1
  · rcases hc with hc | hc
    · exact (hc h1).elim
    · have hf : f = 0 := by omega
      subst hf
      have : SV.evs r cs = [v.ev r] := by
        have hl : (SV.evs r cs).length = 1 := by rw [SV.evs_eq]; simpa using h1
        obtain ⟨a, ha⟩ := List.length_eq_one_iff.1 hl
        rw [ha] at he ⊢
        simp at he; rw [he]
      rw [this]
      simp [mkA, hc]
  · rw [mkA_cells (by rw [SV.evs_eq]; simpa using h1)]
    simp only [AV.cells]
    refine ⟨by rw [SV.evs_eq]; simp; omega, by simp [List.getD, he]⟩
theorem load_box {s : SS} {a : Opd} {k f e : Nat} {cs : List SV} (ha : opd s a = .ptr k f) (hb : boxOf s k = some (e, cs)) {n : Option Nat} {r : List AV} {K : KT}
    (h : f + n.getD 1 ≤ (mkA (SV.evs r cs)).cells.length ∧ K (loadC n (mkA (SV.evs r cs)) f) (stO s r)) : wpOp P (.load n a) (stE s r) (stO s r) K := by
  rw [o_load, ← opd_ev, ha]
  simp only [SV.ev, loadK_ptr]
  rw [stO_get (box_sound hb) r]
  simp only [SO.ev, objK_live, List.getD_cons_zero, k1]
  exact ⟨rfl, Nat.one_pos, h.1, h.2⟩
theorem load_ok {s : SS} {n : Option Nat} {a : Opd} {q} (h : xLoad s n (opd s a) = some q) : OpOk P (.load n a) s q := by
  intro r hl hc hr hnc K hk
  unfold xLoad at h
  split at h
  · rename_i k f ha
    split at h
    · rename_i e cs hb
      split at h
      · split at h
        · rename_i v hv
          split at h
          · rename_i h1
            split at h
            · rename_i ht
              cases h
              obtain ⟨hG, hone⟩ := ones_sound ht hk
              have hcell := AV.cells_cell (hone (v.ev r) (by simp [SV.evs]))
              obtain ⟨q1, q2⟩ := getD_mkA (r := r) hv (.inr hcell)
              refine load_box ha hb ⟨by simpa using q1, ?_⟩
              rw [loadC_none, q2]
              exact hG rfl
            · cases h
          · rename_i h1
            cases h
            obtain ⟨q1, q2⟩ := getD_mkA (r := r) hv (.inl h1)
            refine load_box ha hb ⟨by simpa using q1, ?_⟩
            rw [loadC_none, q2]
            exact hk rfl
        · cases h
      · rename_i m
        split at h
        · rename_i h1
          cases h
          have h2 := norm_fin (K := K) hl hc hk
          have hx : mkA (SV.evs r cs) = .agg (SV.evs r cs) := mkA_cells (by rw [SV.evs_eq]; simpa using h1.1)
          refine load_box ha hb ⟨by rw [hx]; simp only [AV.cells, SV.evs_eq, List.length_map, Option.getD_some]; exact h1.2, ?_⟩
          have h3 : loadC (some m) (mkA (SV.evs r cs)) f = .agg (SV.evs r ((cs.drop f).take m)) := by
            rw [hx]
            unfold loadC
            simp only
            split
            · rename_i h4
              obtain ⟨rfl, _, h5⟩ := h4
              simp only [AV.cells, SV.evs_eq, List.length_map] at h5
              rw [List.drop_zero, List.take_of_length_le (by omega)]
            · simp only [AV.cells, SV.evs_eq, List.map_take, List.map_drop]
          rw [h3]
          exact h2
        · cases h
    · cases h
  · rename_i y f ha
    have hb : ∀ {K : KT}, (f + n.getD 1 ≤ (y.ev r).cells.length ∧ K (loadC n (y.ev r) f) (stO s r)) → wpOp P (.load n a) (stE s r) (stO s r) K := by
      intro K h
      rw [o_load, ← opd_ev, ha]
      simp only [SV.ev, loadK_iptr, k1]
      exact h
    split at h
    · split at h
      · rename_i i
        cases h
        obtain ⟨h1, h2⟩ := hk
        refine hb ⟨Nat.succ_le_of_lt h1, ?_⟩
        rw [loadC_none]
        exact h2 rfl
      · rename_i l
        split at h
        · rename_i d hd
          cases h
          have hlt := (List.getElem?_eq_some_iff.1 hd).1
          refine hb ⟨by simp only [D.ev, AV.cells, D.evs_eq, List.length_map, Option.getD_none]; omega, ?_⟩
          rw [loadC_none]
          simp only [D.ev, AV.cells, D.evs_eq, List.getD, List.getElem?_map, hd]
          exact hk rfl
        · cases h
      · cases h
        simp only [wpN, PO.wp, Chk.wp, D.ev, getD_new hl] at hk
        refine hb ⟨Nat.succ_le_of_lt hk.1, ?_⟩
        rw [loadC_none]
        have h1 : stE { s with nv := s.nv + 1 } (r ++ [y.ev r]) = stE s r := stE_more (s := s) hl hc
        have h2 := hk.2 h1
        have h3 : stO { s with nv := s.nv + 1 } (r ++ [y.ev r]) = stO s r := stO_more (s := s) hl hc
        rw [h3] at h2
        simp only [SV.ev, D.ev, getD_new hl] at h2
        exact h2
    · rename_i m
      split at h
      · rename_i h0
        obtain ⟨h0, _⟩ := h0
        subst h0
        cases h
        obtain ⟨h1, h2, h3, h4⟩ := hk
        refine hb ⟨by simp [h2], ?_⟩
        rw [loadC_whole h1 h2]
        exact h4 rfl
      · cases h
        have h1 := nx_hk (K := K) hl hc hk
        exact hb h1
  · rename_i k l i f ha
    split at h
    · rename_i q' hcur
      obtain ⟨nl, e, sz⟩ := q'
      cases h
      have h1 := nx_hk (K := K) hl hc hk
      obtain ⟨h2, h3, h4⟩ := h1
      rw [o_load, ← opd_ev, ha]
      simp only [SV.ev, loadK_ptr]
      rcases row_cases (cur_sound hcur) r with h5 | ⟨h5, h6, _⟩
      · rw [h5, objK_live]; exact ⟨rfl, h2, h3, h4⟩
      · rw [h6] at h2; simp at h2
    · cases h
  · rename_i y ha
    cases h
    have h1 := nx_hk (K := K) hl hc hk
    simp only [PO.wp, ldpP] at h1
    rw [o_load, ← opd_ev, ha]
    simp only [SV.ev]
    split at h1
    · rename_i z f hy
      rw [hy, loadK_iptr, k1]
      exact h1
    · exact h1.elim
  · cases h
theorem stO_set {s : SS} {k : Nat} {o : SO} {r r' : List AV} {nv : Nat} {env : List (Nat × SV)} (hp : ∃ m, r' = r ++ m) (hl : r.length = s.nv) (hc : s.cl = true) :
    stO { s with env := env, objs := s.objs.set k o, nv := nv } r' = (stO s r).set k (o.ev r') := by
  obtain ⟨m, rfl⟩ := hp
  have := stO_more (s := s) (r' := m) hl hc
  simp only [stO, List.map_set] at this ⊢
  rw [this]
theorem store_ok {s : SS} {m : Nat} {a b : Opd} {q} (hb0 : opdOk b = true) (h : xStore s m (opd s a) (opd s b) = some q) : OpOk P (.store m a b) s q := by
  intro r hl hc hr hnc K hk
  unfold xStore at h
  split at h
  · rename_i k f ha
    split at h
    · rename_i e cs ns vs hb he
      split at h
      · rename_i hcnd
        obtain ⟨g1, g2, g3, g4⟩ := hcnd
        cases h
        rw [wpN_append] at hk
        have hk1 : wpN P ns r (fun r' => stE { s with objs := s.objs.set k (.box e (cs.take f ++ vs ++ cs.drop (f + m))), nv := nvN s.nv ns } r' = stE s r → K .top (stO { s with objs := s.objs.set k (.box e (cs.take f ++ vs ++ cs.drop (f + m))), nv := nvN s.nv ns } r')) ∧
            (cs.length = 1 → ∀ c ∈ SV.evs r cs, c.isCell = true) := by
          by_cases h1 : cs.length = 1
          · rw [if_pos h1] at hk
            obtain ⟨p1, p2⟩ := ones_sound (g4 h1) hk
            exact ⟨p1, fun _ => p2⟩
          · rw [if_neg h1] at hk
            exact ⟨hk, fun h => (h1 h).elim⟩
        obtain ⟨hk, hcell⟩ := hk1
        obtain ⟨r', ⟨more, rfl⟩, hlen, hG, hE⟩ := expand_sound he hl (opd_cl' hc hb0) hk
        have hG := hG (stE_more (s := s) hl hc)
        rw [stO_set ⟨more, rfl⟩ hl hc] at hG
        rw [o_store, ← opd_ev, ← opd_ev, ha]
        simp only [SV.ev, storeK_ptr]
        rw [stO_get (box_sound hb) r]
        simp only [SO.ev, objK_live, List.getD_cons_zero, k1, List.set_cons_zero]
        have hvs : vs.length = m := g1
        have hnl : (cs.take f ++ vs ++ cs.drop (f + m)).length = cs.length := by simp; omega
        have hcl : SV.evs (r ++ more) cs = SV.evs r cs := evs_more' fun c hm => by
          rw [hl]; exact scls_all.1 (SS.cl_obj hc (List.mem_of_getElem? (box_sound hb))) c hm
        have hnew : SV.evs (r ++ more) (cs.take f ++ vs ++ cs.drop (f + m)) = (SV.evs r cs).take f ++ ((opd s b).ev r).cells ++ (SV.evs r cs).drop (f + m) := by
          rw [hE.cells, ← hcl]
          simp only [SV.evs_eq, List.map_append, List.map_take, List.map_drop]
        have hw : f + m ≤ (mkA (SV.evs r cs)).cells.length ∧ mkA (SV.evs (r ++ more) (cs.take f ++ vs ++ cs.drop (f + m))) = upd (mkA (SV.evs r cs)) f ((opd s b).ev r) := by
          by_cases h1 : cs.length = 1
          · have hm1 : m = 1 := by rcases g3 with h | h; exact h; exact (h h1).elim
            have hf : f = 0 := by omega
            subst hm1; subst hf
            obtain ⟨c, hcc⟩ := List.length_eq_one_iff.1 (show (SV.evs r cs).length = 1 by rw [SV.evs_eq]; simpa using h1)
            have hc1 := AV.cells_cell (hcell h1 c (by rw [hcc]; simp))
            rw [hnew, hcc]
            simp only [mkA, hc1, List.length_singleton, List.take_zero, List.nil_append, Nat.zero_add, List.drop_one, List.tail_cons, List.append_nil]
            refine ⟨Nat.le_refl _, ?_⟩
            rw [AV.cells_cell (hE.one rfl)]
            unfold upd
            rw [if_pos ⟨rfl, by rw [hc1, AV.cells_cell (hE.one rfl)]; rfl⟩]
          · have hx : mkA (SV.evs r cs) = .agg (SV.evs r cs) := mkA_cells (by rw [SV.evs_eq]; simpa using h1)
            rw [hx, hnew]
            refine ⟨by simp only [AV.cells, SV.evs_eq, List.length_map]; exact g2, ?_⟩
            rw [mkA_cells (by simp [SV.evs_eq, hE.len]; omega)]
            unfold upd
            have hlc : (AV.agg (SV.evs r cs)).cells.length = cs.length := by simp [AV.cells, SV.evs_eq]
            by_cases h2 : f = 0 ∧ ((opd s b).ev r).cells.length = (AV.agg (SV.evs r cs)).cells.length
            · rw [if_pos h2]
              obtain ⟨rfl, h3⟩ := h2
              rw [hlc, hE.len] at h3
              rw [AV.agg_of (hE.agg (by omega))]
              simp only [AV.cells, List.take_zero, List.nil_append, Nat.zero_add]
              rw [List.drop_eq_nil_of_le (by rw [SV.evs_eq]; simp; omega), List.append_nil]
            · rw [if_neg h2, hE.len]
              rfl
        refine ⟨rfl, Nat.one_pos, hE.len, hE.sto, hw.1, ?_⟩
        simp only [SO.ev, hnl, hw.2] at hG
        exact hG
      · cases h
    · cases h
  · rename_i k l i f ha
    split at h
    · rename_i nl e sz ns d hcur hd
      simp only [Option.some.injEq] at h
      subst h
      have hnv : nvN s.nv (ns ++ [chkOf m d]) = s.nv := by rw [nvN_append, asD_nv hd, chkOf_nv]
      simp only [wpN_append, hnv] at hk
      obtain ⟨hk, hde⟩ := asD_sound hd hk
      obtain ⟨hk, hE⟩ := chkOf_sound hk
      simp only [wpN, PO.wp, setP] at hk
      obtain ⟨q1, q2, q3, q4, q5⟩ := hk
      generalize hxs : listOf (l.ev r) = xs at *
      generalize hv : AV.sl (xs.set (idxOf (i.ev r)) (upd (xs.getD (idxOf (i.ev r)) .top) f (d.ev r))) = v at q5
      have hlv : (listOf v).length = xs.length := by rw [← hv]; simp [listOf]
      have hrow := cur_sound hcur
      have hlcl : l.cl r.length = true := by
        have := SS.cl_obj hc (List.mem_of_getElem? hrow)
        rw [hl]; exact this
      have hst : stE { s with env := s.env.map (fun p => (p.1, p.2.rew k l (.x s.nv))), objs := s.objs.set k (.row nl e sz (.x s.nv)), nv := s.nv + 1 } (r ++ [v]) = stE s r := by
        funext t
        simp only [stE]
        rw [lk_map (f := SV.rew k l (.x s.nv)) rfl]
        have hcl := SS.cl_env hc t
        have hold : (lk s.env t).ev (r ++ [v]) = (lk s.env t).ev r := SV.ev_more _ (by rw [hl]; exact hcl)
        rw [← hold]
        generalize lk s.env t = w
        cases w with
        | row k' l' =>
          simp only [SV.rew]
          split
          · rename_i h1
            have := D.beq_eq _ _ h1.2
            subst this
            simp only [SV.ev, D.ev, getD_new hl, hlv, D.ev_more l' hlcl, hxs]
          · rfl
        | rp k' l' i' f' =>
          simp only [SV.rew]
          split
          · rename_i h1
            have := D.beq_eq _ _ h1.2
            subst this
            simp only [SV.ev, D.ev, getD_new hl, hlv, D.ev_more l' hlcl, hxs]
          · rfl
        | _ => rfl
      have hG := q5 hst
      rw [stO_set ⟨[v], rfl⟩ hl hc] at hG
      rw [o_store, ← opd_ev, ← opd_ev, ha, ← hde]
      simp only [SV.ev, storeK_ptr]
      have hne : xs ≠ [] := by intro h0; rw [h0] at q1; simp at q1
      rcases row_cases hrow r with h5 | ⟨h5, h6, _⟩
      · rw [h5, objK_live, hxs]
        refine ⟨rfl, q1, q2, q3, q4, ?_⟩
        have hne2 : listOf v ≠ [] := by intro h0; rw [h0] at hlv; simp at hlv; exact hne (List.eq_nil_of_length_eq_zero hlv.symm)
        have : SO.ev (r ++ [v]) (.row nl e sz (.x s.nv)) = .live e sz (xs.set (idxOf (i.ev r)) (upd (xs.getD (idxOf (i.ev r)) .top) f (d.ev r))) := by
          cases nl <;> simp only [SO.ev, D.ev, getD_new hl, if_neg hne2] <;> rw [← hv] <;> rfl
        rw [this] at hG
        exact hG
      · rw [hxs] at h6; exact (hne h6).elim
    · cases h
  · cases h
end
end Go.Ab
/-
  THE SYMBOLIC WALK IS SOUND: calls that reach what is owned.
-/
namespace Go.Ab
section
variable {P : Program}
theorem nodesCl_append : ∀ (a b : List Node) (nv : Nat), nodesCl nv (a ++ b) = (nodesCl nv a && nodesCl (nvN nv a) b)
  | [], b, nv => by simp [nodesCl, nvN]
  | .op o :: a, b, nv => by simp only [List.cons_append, nodesCl, nvN, nodesCl_append a b, Bool.and_assoc]
  | .chk c :: a, b, nv => by simp only [List.cons_append, nodesCl, nvN, nodesCl_append a b]
theorem getD_evs (r : List AV) (τ : List D) (i : Nat) : (D.evs r τ).getD i .top = (τ.getD i (.c .top)).ev r := by
  rw [D.evs_eq]
  simp only [List.getD, List.getElem?_map]
  cases τ[i]? <;> rfl
theorem ren_noref_getD {l : List AV} (h : AV.norefs l = true) (σ : Nat → Nat) (i : Nat) : (l.getD i .top).ren σ = l.getD i .top := by
  refine noref_ren _ ?_
  simp only [List.getD]
  cases hl : l[i]? with
  | none => rfl
  | some a => exact norefs_mem h a (List.mem_of_getElem? hl)
theorem insP_ev {n k : Nat} {r : List AV} {τ : List D} {σ : Nat → Nat} (hn : AV.norefs (D.evs r τ) = true) : ∀ (v : SV), v.pat n k = true → (v.insP τ σ).ev r = (v.ev (D.evs r τ)).ren σ := by
  intro v h
  cases v with
  | d x =>
    cases x with
    | x i => simp only [SV.insP, SV.ev, D.ev]; rw [ren_noref_getD hn, getD_evs]
    | c a => simp only [SV.insP, SV.ev, D.ev]; rw [noref_ren a h]
    | _ => simp [SV.pat] at h
  | row m l =>
    cases l with
    | x i => simp only [SV.insP, SV.ev, D.ev, AV.ren]; rw [getD_evs]
    | _ => simp [SV.pat] at h
  | ptr m f => rfl
  | _ => simp [SV.pat] at h
theorem insP_evs {n k : Nat} {r : List AV} {τ : List D} {σ : Nat → Nat} (hn : AV.norefs (D.evs r τ) = true) : ∀ (l : List SV), l.all (SV.pat n k) = true → SV.evs r (l.map (SV.insP τ σ)) = AV.rens σ (SV.evs (D.evs r τ) l)
  | [], _ => rfl
  | v :: l, h => by
    simp only [List.all_cons, Bool.and_eq_true] at h
    simp only [List.map_cons, SV.evs, AV.rens, insP_ev hn v h.1, insP_evs hn l h.2]
theorem mkA_ren (σ : Nat → Nat) (l : List AV) : (mkA l).ren σ = mkA (AV.rens σ l) := by
  cases l with
  | nil => rfl
  | cons a l => cases l <;> rfl
theorem insO_ev {n k : Nat} {r : List AV} {τ : List D} {σ : Nat → Nat} (hn : AV.norefs (D.evs r τ) = true) : ∀ (o : SO), o.pat n k = true → (o.insP τ σ).ev r = (o.ev (D.evs r τ)).ren σ := by
  intro o h
  cases o with
  | dead => rfl
  | box e cs =>
    simp only [SO.pat] at h
    simp only [SO.insP, SO.ev, AObj.ren, List.map_cons, List.map_nil, mkA_ren, insP_evs hn cs h, List.length_map]
  | row nl e s l =>
    cases l with
    | x i =>
      have hl : (listOf ((D.evs r τ).getD i .top)).map (AV.ren σ) = listOf ((D.evs r τ).getD i .top) := by
        rw [← rens_eq]
        refine norefs_rens _ (listOf_norefs ?_)
        simp only [List.getD]
        cases hx : (D.evs r τ)[i]? with
        | none => rfl
        | some a => exact norefs_mem hn a (List.mem_of_getElem? hx)
      simp only [SO.insP]
      rw [rowOb_ev, rowOb_ev]
      show rowOb nl e s (listOf ((τ.getD i (.c .top)).ev r)) = (rowOb nl e s (listOf ((D.evs r τ).getD i .top))).ren σ
      rw [← getD_evs]
      generalize listOf ((D.evs r τ).getD i .top) = xs at hl
      unfold rowOb
      split
      · rfl
      · simp only [AObj.ren, hl]
    | _ => simp [SO.pat] at h
theorem insT_ev {n k : Nat} {r : List AV} {τ : List D} {σ : Nat → Nat} (hn : AV.norefs (D.evs r τ) = true) : ∀ (v : SV), v.patT n k = true → (v.insT τ σ).ev r = (v.ev (D.evs r τ)).ren σ := by
  intro v h
  cases v with
  | tup cs => simp only [SV.patT] at h; simp only [SV.insT, SV.ev, AV.ren, insP_evs hn cs h]
  | agg cs => simp only [SV.patT] at h; simp only [SV.insT, SV.ev, AV.ren, insP_evs hn cs h]
  | _ => exact insP_ev (n := n) (k := k) hn _ (by simpa only [SV.patT] using h)
theorem pat_sc {n k : Nat} {l : List AV} (hn : AV.norefs l = true) : ∀ (v : SV), v.pat n k = true → (v.ev l).inScope k = true := by
  intro v h
  cases v with
  | d x =>
    cases x with
    | x i =>
      simp only [SV.ev, D.ev]
      refine noref_scoped _ ?_
      simp only [List.getD]
      cases hx : l[i]? with
      | none => rfl
      | some a => exact norefs_mem hn a (List.mem_of_getElem? hx)
    | c a => exact noref_scoped _ h
    | _ => simp [SV.pat] at h
  | row m y =>
    cases y with
    | x i => simp only [SV.pat, Bool.and_eq_true] at h; exact h.2
    | _ => simp [SV.pat] at h
  | ptr m f => exact h
  | _ => simp [SV.pat] at h
theorem pats_sc {n k : Nat} {l : List AV} (hn : AV.norefs l = true) : ∀ (vs : List SV), vs.all (SV.pat n k) = true → AV.scopeds k (SV.evs l vs) = true
  | [], _ => rfl
  | v :: vs, h => by
    simp only [List.all_cons, Bool.and_eq_true] at h
    simp only [SV.evs, AV.scopeds, pat_sc hn v h.1, pats_sc hn vs h.2]; rfl
theorem mkA_sc {k : Nat} {l : List AV} (h : AV.scopeds k l = true) : (mkA l).inScope k = true := by
  unfold mkA
  split
  · simpa [AV.scopeds] using h
  · exact h
theorem patO_sc {n k : Nat} {l : List AV} (hn : AV.norefs l = true) : ∀ (o : SO), o.pat n k = true → (o.ev l).inScope k = true := by
  intro o h
  cases o with
  | dead => rfl
  | box e cs =>
    simp only [SO.pat] at h
    simp only [SO.ev, AObj.inScope, AV.scopeds, Bool.and_true]
    exact mkA_sc (pats_sc hn cs h)
  | row nl e s y =>
    cases y with
    | x i =>
      have : AV.scopeds k (listOf (l.getD i .top)) = true := by
        refine norefs_scopeds _ (listOf_norefs ?_)
        simp only [List.getD]
        cases hx : l[i]? with
        | none => rfl
        | some a => exact norefs_mem hn a (List.mem_of_getElem? hx)
      rw [rowOb_ev]
      show AObj.inScope k (rowOb nl e s (listOf (l.getD i .top))) = true
      unfold rowOb
      split
      · rfl
      · exact this
    | _ => simp [SO.pat] at h
theorem posOf_some {j : Nat} : ∀ {l : List Nat} {i n : Nat}, posOf j l i = some n → i ≤ n ∧ l[n - i]? = some j
  | [], _, _, h => by cases h
  | x :: l, i, n, h => by
    unfold posOf at h
    split at h
    · cases h; rename_i hx; subst hx; exact ⟨Nat.le_refl _, by simp⟩
    · obtain ⟨h1, h2⟩ := posOf_some h
      refine ⟨by omega, ?_⟩
      rw [show n - i = (n - (i + 1)) + 1 by omega, List.getElem?_cons_succ]; exact h2
theorem posOf_none {j : Nat} : ∀ {l : List Nat} {i : Nat}, posOf j l i = none → j ∉ l
  | [], _, _ => by simp
  | x :: l, i, h => by
    unfold posOf at h
    split at h
    · cases h
    · rename_i hx
      simp only [List.mem_cons, not_or]
      exact ⟨fun h => hx h.symm, posOf_none h⟩
theorem nodupN_inj : ∀ {l : List Nat}, nodupN l = true → ∀ {i j x : Nat}, l[i]? = some x → l[j]? = some x → i = j
  | [], _, i, j, x, h, _ => by simp at h
  | y :: l, h, i, j, x, h1, h2 => by
    simp only [nodupN, Bool.and_eq_true, Bool.not_eq_true', List.contains_eq_mem, decide_eq_false_iff_not] at h
    cases i <;> cases j
    · rfl
    · simp at h1 h2; subst h1; exact (h.1 (List.mem_of_getElem? h2)).elim
    · simp at h1 h2; subst h2; exact (h.1 (List.mem_of_getElem? h1)).elim
    · simp at h1 h2; rw [nodupN_inj h.2 h1 h2]
theorem newObjs_len {objs : List SO} {σl : List Nat} {ps : List SO} : (newObjs objs σl ps).length = objs.length + (ps.length - σl.length) := by simp [newObjs]
theorem newObjs_old {objs : List SO} {σl : List Nat} {ps : List SO} (hnd : nodupN σl = true) {i n : Nat} (hi : σl[i]? = some n) (hn : n < objs.length) (hp : i < ps.length) : (newObjs objs σl ps)[n]? = ps[i]? := by
  unfold newObjs
  rw [List.getElem?_append_left (by simpa using hn), List.getElem?_map, List.getElem?_range hn]
  simp only [Option.map_some]
  cases h : posOf n σl 0 with
  | none => exact (posOf_none h (List.mem_of_getElem? hi)).elim
  | some m =>
    obtain ⟨_, h2⟩ := posOf_some h
    have := nodupN_inj hnd hi h2
    simp only [Nat.sub_zero] at this
    subst this
    simp only [List.getD, List.getElem?_eq_getElem hp, Option.getD_some]
theorem newObjs_oth {objs : List SO} {σl : List Nat} {ps : List SO} {n : Nat} (hn : n < objs.length) (h : n ∉ σl) : (newObjs objs σl ps)[n]? = objs[n]? := by
  unfold newObjs
  rw [List.getElem?_append_left (by simpa using hn), List.getElem?_map, List.getElem?_range hn]
  simp only [Option.map_some]
  cases hp : posOf n σl 0 with
  | none => simp only [List.getD, List.getElem?_eq_getElem hn, Option.getD_some]
  | some m => exact (h (List.mem_of_getElem? (posOf_some hp).2)).elim
theorem newObjs_new {objs : List SO} {σl : List Nat} {ps : List SO} {i : Nat} (hi : σl.length ≤ i) : (newObjs objs σl ps)[objs.length + (i - σl.length)]? = ps[i]? := by
  unfold newObjs
  rw [List.getElem?_append_right (by simp), List.length_map, List.length_range, List.getElem?_drop]
  congr 1; omega
theorem fitVs_sound {kn : List (Nat × Nat)} {τ : List D} {σ : Nat → Nat} {n k : Nat} : ∀ {ps vs : List SV} {ns : List Node}, fitVs kn τ σ ps vs = some ns → ps.all (SV.pat n k) = true → ∀ {r : List AV} {G : List AV → Prop}, AV.norefs (D.evs r τ) = true → wpN P ns r G →
    G r ∧ SV.evs r vs = AV.rens σ (SV.evs (D.evs r τ) ps)
  | [], [], ns, h, _, r, G, _, hw => by cases h; exact ⟨hw, rfl⟩
  | p :: ps, v :: vs, ns, h, hp, r, G, hn, hw => by
    simp only [fitVs] at h
    split at h
    · rename_i a b ha hb
      cases h
      simp only [List.all_cons, Bool.and_eq_true] at hp
      rw [wpN_append] at hw
      have hv : wpN P b r (fun r' => G r') ∧ v.ev r = (p.ev (D.evs r τ)).ren σ := by
        unfold fitV at ha
        split at ha
        · rename_i i
          split at ha
          · rename_i ms d hd
            split at ha
            · rename_i hbq
              cases ha
              obtain ⟨h1, h2⟩ := asD_sound hd hw
              refine ⟨h1, ?_⟩
              rw [← h2, ← D.beq_eq _ _ hbq]
              simp only [SV.ev, D.ev]
              rw [ren_noref_getD hn, getD_evs]
            · cases ha
          · cases ha
        · split at ha
          · rename_i hbq
            cases ha
            refine ⟨hw, ?_⟩
            rw [← SV.beq_eq _ _ hbq, insP_ev hn p hp.1]
          · cases ha
      obtain ⟨h3, h4⟩ := fitVs_sound hb hp.2 hn hv.1
      exact ⟨h3, by simp only [SV.evs, AV.rens, hv.2, h4]⟩
    · cases h
  | [], _ :: _, _, h, _, _, _, _, _ => by simp [fitVs] at h
  | _ :: _, [], _, h, _, _, _, _, _ => by simp [fitVs] at h
theorem fitOs_sound {s : SS} {τ : List D} {σ : Nat → Nat} : ∀ {ps : List SO} {n : Nat}, fitOs s τ σ n ps = true → ∀ i p, ps[i]? = some p → s.objs[σ (n + i)]? = some (p.insP τ σ)
  | [], _, _, i, p, hi => by simp at hi
  | q :: ps, n, h, i, p, hi => by
    simp only [fitOs, Bool.and_eq_true] at h
    cases i with
    | zero =>
      simp at hi; subst hi
      have h1 := h.1
      split at h1
      · rename_i o ho
        rw [Nat.add_zero, ho, SO.beq_eq h1]
      · cases h1
    | succ i =>
      simp at hi
      have := fitOs_sound h.2 i p hi
      rw [← this]; congr 2; omega
theorem rewL_sound {r r' : List AV} {ks : List (Nat × D × D)} (hk : ∀ q ∈ ks, q.2.1.ev r' = q.2.1.ev r ∧ (listOf (q.2.1.ev r)).length = (listOf (q.2.2.ev r')).length) :
    ∀ (v : SV), v.ev r' = v.ev r → (rewL ks v).ev r' = v.ev r := by
  induction ks with
  | nil => intro v h; exact h
  | cons q ks ih =>
    intro v h
    simp only [rewL, List.foldl_cons]
    obtain ⟨h1, h2⟩ := hk q (by simp)
    have key : (v.rew q.1 q.2.1 q.2.2).ev r' = v.ev r := by
      rw [← h]
      cases v with
      | row m l =>
        simp only [SV.rew]
        split
        · rename_i hc
          have := D.beq_eq _ _ hc.2
          subst this
          simp only [SV.ev, h1, h2]
        · rfl
      | rp m l i f =>
        simp only [SV.rew]
        split
        · rename_i hc
          have := D.beq_eq _ _ hc.2
          subst this
          simp only [SV.ev, h1, h2]
        · rfl
      | _ => rfl
    -- the next ones
    have h3 : ∀ (ks : List (Nat × D × D)), (∀ q ∈ ks, q.2.1.ev r' = q.2.1.ev r ∧ (listOf (q.2.1.ev r)).length = (listOf (q.2.2.ev r')).length) → ∀ w : SV, w.ev r' = v.ev r → (ks.foldl (fun v q => v.rew q.1 q.2.1 q.2.2) w).ev r' = v.ev r := by
      intro ks
      induction ks with
      | nil => intro _ w hw; exact hw
      | cons q ks ih2 =>
        intro hk w hw
        simp only [List.foldl_cons]
        refine ih2 (fun q hq => hk q (by simp [hq])) _ ?_
        obtain ⟨h1, h2⟩ := hk q (by simp)
        rw [← hw]
        cases w with
        | row m l =>
          simp only [SV.rew]
          split
          · rename_i hc
            have := D.beq_eq _ _ hc.2
            subst this
            simp only [SV.ev, h1, h2]
          · rfl
        | rp m l i f =>
          simp only [SV.rew]
          split
          · rename_i hc
            have := D.beq_eq _ _ hc.2
            subst this
            simp only [SV.ev, h1, h2]
          · rfl
        | _ => rfl
    exact h3 ks (fun q hq => hk q (by simp [hq])) _ key
theorem eqls_sound : ∀ {ks : List (Nat × D × D)} {r : List AV} {G : List AV → Prop}, wpN P (ks.map fun q => .chk (.eql q.2.1 q.2.2)) r G → G r ∧ ∀ q ∈ ks, (listOf (q.2.1.ev r)).length = (listOf (q.2.2.ev r)).length
  | [], r, G, h => ⟨h, by simp⟩
  | q :: ks, r, G, h => by
    simp only [List.map_cons, wpN, Chk.wp] at h
    obtain ⟨h1, h2⟩ := h
    obtain ⟨h3, h4⟩ := eqls_sound h2
    refine ⟨h3, fun q' hq' => ?_⟩
    rcases List.mem_cons.1 hq' with rfl | hq'
    · exact h1
    · exact h4 q' hq'
theorem keepL_cl {g : Sig} {τ : List D} {σ : Nat → Nat} {nv n : Nat} (h : D.cls n τ = true) : ∀ q ∈ keepL g τ σ nv, q.2.1.cl n = true := by
  intro q hq
  simp only [keepL, List.mem_filterMap] at hq
  obtain ⟨m, _, hm⟩ := hq
  split at hm
  · rename_i i _ _
    cases hm
    have key : ∀ i, (τ.getD i (.c .top)).cl n = true := by
      intro i
      simp only [List.getD]
      cases hx : τ[i]? with
      | none => rfl
      | some d => exact cls_all.1 h d (List.mem_of_getElem? hx)
    exact key _
  · cases hm
theorem extD_evs {r : List AV} {nv m : Nat} (hl : r.length = nv) {outs : List AV} (ho : outs.length = m) (more : List AV) : D.evs (r ++ .tup outs :: more) (extD nv m) = outs := by
  rw [D.evs_eq, extD, List.map_map]
  apply List.ext_getElem
  · simp [ho]
  · intro i h1 h2
    simp only [List.getElem_map, List.getElem_range, Function.comp_apply, D.ev]
    have : (r ++ AV.tup outs :: more).getD nv .top = .tup outs := by
      rw [List.getD, List.getElem?_append_right (by omega), hl, Nat.sub_self]; rfl
    rw [this]
    simp only [tupD, List.getD, List.getElem?_eq_getElem h2, Option.getD_some]
theorem scall_ok {s : SS} {f : FuncId} {gs : List Sig} {args : List Opd} {g : Sig} {q} (h : scallG s f (args.map (opd s)) g = some q) : OpOk P (.scall gs f args) s q := by
  intro r hl hc hr hnc K hk
  unfold scallG at h
  split at h
  · rename_i τ σl hm
    simp only at h
    split at h
    · rename_i ns hfit
      split at h
      · rename_i hcnd
        obtain ⟨g1, g2, g3, g4, g5, g6, g7⟩ := hcnd
        simp only [Option.some.injEq] at h
        subst h
        simp only [Sig.ok, Bool.and_eq_true, decide_eq_true_eq] at g1
        obtain ⟨⟨⟨⟨p1, p2⟩, p3⟩, p4⟩, p5⟩ := g1
        have hσ : ∀ n, sigOf s.objs σl n = if n < σl.length then σl.getD n 0 else s.objs.length + (n - σl.length) := fun _ => rfl
        have hτc : D.cls s.nv τ = true := by
          have hnc := hnc
          simp only at hnc
          rw [nodesCl_append, Bool.and_eq_true] at hnc
          have := hnc.2
          simp only [nodesCl, PO.cl, Bool.and_eq_true, g7] at this
          exact this.1
        have hτn : AV.norefs (D.evs r τ) = true := D.evs_noref hr τ (by rw [hl]; exact hτc)
        simp only at hk
        rw [wpN_append] at hk
        obtain ⟨hk, hargs⟩ := fitVs_sound hfit p1 hτn hk
        simp only [wpN, PO.wp] at hk
        obtain ⟨outs, hcon, hlen, hon, hk⟩ := hk
        obtain ⟨hk, heq⟩ := eqls_sound hk
        have hl1 : (r ++ [AV.tup outs]).length = s.nv + 1 := by simp [hl]
        have hmore : ∀ d : D, d.cl s.nv = true → d.ev (r ++ [.tup outs]) = d.ev r := fun d hd => D.ev_more d (by rw [hl]; exact hd)
        have hE : D.evs (r ++ [.tup outs]) (extD s.nv g.m) = outs := extD_evs hl hlen []
        have hon' : AV.norefs (D.evs (r ++ [.tup outs]) (extD s.nv g.m)) = true := by rw [hE]; exact hon
        have hK := hk (by
          funext t
          simp only [stE]
          rw [lk_map (f := rewL (keepL g τ (sigOf s.objs σl) s.nv)) (by
            generalize keepL g τ (sigOf s.objs σl) s.nv = ks
            induction ks with
            | nil => rfl
            | cons a ks ih => simp only [rewL, List.foldl_cons, SV.rew] at ih ⊢; exact ih)]
          refine rewL_sound (fun q hq => ?_) _ (SV.ev_more _ (by rw [hl]; exact SS.cl_env hc t))
          have hcl := keepL_cl hτc q hq
          exact ⟨hmore _ hcl, by rw [← hmore _ hcl]; exact heq q hq⟩)
        have hin : ∀ i, i < g.objs.length → ∃ n, σl[i]? = some n ∧ sigOf s.objs σl i = n ∧ n < s.objs.length := by
          intro i hi
          have hi' : i < σl.length := by omega
          refine ⟨σl[i], List.getElem?_eq_getElem hi', ?_, ?_⟩
          · rw [hσ, if_pos hi']; simp [List.getD, hi']
          · have := List.all_eq_true.1 g4 σl[i] (List.getElem_mem hi'); simpa using this
        have hO1 : (g.objs.map (SO.ev (D.evs r τ))).length = g.objs.length := by simp
        have hO2 : (g.objs'.map (SO.ev outs)).length = g.objs'.length := by simp
        have hres : (g.res.insT (extD s.nv g.m) (sigOf s.objs σl)).ev (r ++ [.tup outs]) = (g.res.ev outs).ren (sigOf s.objs σl) := by
          rw [insT_ev hon' _ p4, hE]
        have hnewO : stO { s with env := s.env.map (fun p => (p.1, rewL (keepL g τ (sigOf s.objs σl) s.nv) p.2)), objs := newObjs s.objs σl (g.objs'.map (SO.insP (extD s.nv g.m) (sigOf s.objs σl))), nv := s.nv + 1 } (r ++ [.tup outs]) =
            (newObjs s.objs σl (g.objs'.map (SO.insP (extD s.nv g.m) (sigOf s.objs σl)))).map (SO.ev (r ++ [.tup outs])) := rfl
        rw [hres, hnewO] at hK
        refine ⟨_, _, ?_, hK⟩
        have := Con.frame (O := stO s r) (O'' := (newObjs s.objs σl (g.objs'.map (SO.insP (extD s.nv g.m) (sigOf s.objs σl)))).map (SO.ev (r ++ [.tup outs]))) hcon (sigOf s.objs σl)
          (fun i hi => by rw [hO1] at hi; obtain ⟨n, _, h2, h3⟩ := hin i hi; rw [h2, stO_len]; exact h3)
          (fun i hi => by
            rw [hO1] at hi
            have hp : g.objs[i]? = some g.objs[i] := List.getElem?_eq_getElem hi
            have h1 := fitOs_sound g6 i _ hp
            rw [Nat.zero_add] at h1
            simp only [stO, List.getElem?_map, h1, hp, Option.map_some]
            rw [insO_ev hτn _ (List.all_eq_true.1 p2 _ (List.mem_of_getElem? hp))])
          (fun i j hi hj he => by
            rw [hO1] at hi hj
            obtain ⟨n, a1, a2, _⟩ := hin i hi
            obtain ⟨m, b1, b2, _⟩ := hin j hj
            rw [a2, b2] at he
            subst he
            exact nodupN_inj g3 a1 b1)
          (fun i hi => by rw [hO1] at hi; rw [hσ, if_neg (by omega), stO_len, hO1, g2])
          (fun a ha => by rw [hO1]; exact scopeds_mem (pats_sc hτn _ p1) a ha)
          (fun ob ho => by
            rw [hO1]
            obtain ⟨o, hom, rfl⟩ := List.mem_map.1 ho
            exact patO_sc hτn o (List.all_eq_true.1 p2 _ hom))
          (by rw [List.length_map, newObjs_len, stO_len, hO1, hO2, List.length_map, g2])
          (fun i hi => by
            rw [hO2] at hi
            have hp : g.objs'[i]? = some g.objs'[i] := List.getElem?_eq_getElem hi
            have hev : ((g.objs'[i]).insP (extD s.nv g.m) (sigOf s.objs σl)).ev (r ++ [.tup outs]) = ((g.objs'[i]).ev outs).ren (sigOf s.objs σl) := by
              rw [insO_ev hon' _ (List.all_eq_true.1 p3 _ (List.mem_of_getElem? hp)), hE]
            have hg : (newObjs s.objs σl (g.objs'.map (SO.insP (extD s.nv g.m) (sigOf s.objs σl))))[sigOf s.objs σl i]? = some ((g.objs'[i]).insP (extD s.nv g.m) (sigOf s.objs σl)) := by
              by_cases hlt : i < g.objs.length
              · obtain ⟨n, a1, a2, a3⟩ := hin i hlt
                rw [a2, newObjs_old g3 a1 a3 (by simpa using hi), List.getElem?_map, hp]; rfl
              · rw [hσ, if_neg (by omega), newObjs_new (by omega), List.getElem?_map, hp]; rfl
            rw [List.getElem?_map, hg, List.getElem?_map, hp]
            simp only [Option.map_some, hev])
          (fun n hn hno => by
            rw [stO_len] at hn
            have : n ∉ σl := fun hmem => by
              obtain ⟨i, hi⟩ := List.getElem?_of_mem hmem
              have hil := (List.getElem?_eq_some_iff.1 hi).1
              obtain ⟨n', a1, a2, _⟩ := hin i (by omega)
              rw [hi] at a1; cases a1
              exact hno i (by rw [hO1]; omega) a2
            rw [List.getElem?_map, newObjs_oth hn this]
            simp only [stO, List.getElem?_map]
            cases ho : s.objs[n]? with
            | none => rfl
            | some o =>
              simp only [Option.map_some]
              rw [SO.ev_more (r' := [.tup outs]) o (by rw [hl]; exact SS.cl_obj hc (List.mem_of_getElem? ho))])
        have ha : args.map (Opd.ev (stE s r)) = (SV.evs (D.evs r τ) g.args).map (AV.ren (sigOf s.objs σl)) := by
          rw [← rens_eq, ← hargs, SV.evs_eq, List.map_map]
          apply List.map_congr_left
          intro x _
          simp only [Function.comp_apply, opd_ev]
        rw [ha]
        exact this
      · cases h
    · cases h
  · cases h
theorem pat_nr {n : Nat} {l : List AV} (hn : AV.norefs l = true) : ∀ (v : SV), v.pat n 0 = true → (v.ev l).noref = true := by
  intro v h
  cases v with
  | d x =>
    cases x with
    | x i =>
      simp only [SV.ev, D.ev, List.getD]
      cases hx : l[i]? with
      | none => rfl
      | some a => exact norefs_mem hn a (List.mem_of_getElem? hx)
    | c a => exact h
    | _ => simp [SV.pat] at h
  | row m y => cases y <;> simp [SV.pat] at h
  | ptr m f => simp [SV.pat] at h
  | _ => simp [SV.pat] at h
theorem pats_nr {n : Nat} {l : List AV} (hn : AV.norefs l = true) : ∀ (vs : List SV), vs.all (SV.pat n 0) = true → AV.norefs (SV.evs l vs) = true
  | [], _ => rfl
  | v :: vs, h => by
    simp only [List.all_cons, Bool.and_eq_true] at h
    simp only [SV.evs, AV.norefs, pat_nr hn v h.1, pats_nr hn vs h.2]; rfl
theorem patT_nr {n : Nat} {l : List AV} (hn : AV.norefs l = true) : ∀ (v : SV), v.patT n 0 = true → (v.ev l).noref = true := by
  intro v h
  cases v with
  | tup cs => exact pats_nr hn cs h
  | agg cs => exact pats_nr hn cs h
  | _ => exact pat_nr (n := n) hn _ h
theorem mkA_nr {l : List AV} (h : AV.norefs l = true) : (mkA l).noref = true := by
  unfold mkA
  split
  · simpa [AV.norefs] using h
  · exact h
theorem patO_nr {n : Nat} {l : List AV} (hn : AV.norefs l = true) : ∀ (o : SO), o.pat n 0 = true → (o.ev l).norefs = true := by
  intro o h
  cases o with
  | dead => rfl
  | box e cs =>
    simp only [SO.pat] at h
    simp only [SO.ev, AObj.norefs, AV.norefs, Bool.and_true]
    exact mkA_nr (pats_nr hn cs h)
  | row nl e s y =>
    cases y with
    | x i =>
      have : AV.norefs (listOf (l.getD i .top)) = true := by
        refine listOf_norefs ?_
        simp only [List.getD]
        cases hx : l[i]? with
        | none => rfl
        | some a => exact norefs_mem hn a (List.mem_of_getElem? hx)
      rw [rowOb_ev]
      show AObj.norefs (rowOb nl e s (listOf (l.getD i .top))) = true
      unfold rowOb
      split
      · rfl
      · exact this
    | _ => simp [SO.pat] at h
theorem noref_one {a : AV} (h : a.noref = true) : a.one = true := by
  cases a <;> first | exact h | (simp [AV.noref] at h; done)
theorem noref_refs {a : AV} (h : a.noref = true) : refs a = [] := by
  cases a <;> first | rfl | (simp [AV.noref] at h; done)
theorem pat_one {n : Nat} {l : List AV} (hn : AV.norefs l = true) : ∀ (v : SV), v.pat n 1 = true → (v.ev l).one = true := by
  intro v h
  cases v with
  | d x =>
    refine noref_one (pat_nr (n := n) hn (.d x) ?_)
    cases x <;> first | exact h | (simp [SV.pat] at h; done)
  | row m y =>
    cases y with
    | x i => simp only [SV.pat, Bool.and_eq_true, decide_eq_true_eq] at h; simp only [SV.ev, AV.one, beq_iff_eq]; omega
    | _ => simp [SV.pat] at h
  | ptr m f => simp only [SV.pat, decide_eq_true_eq] at h; simp only [SV.ev, AV.one, beq_iff_eq]; omega
  | _ => simp [SV.pat] at h
theorem refs_pats {n k : Nat} {l : List AV} (hn : AV.norefs l = true) : ∀ (vs : List SV), vs.all (SV.pat n 1) = true → (vs.map ((AV.ren fun _ => k) ∘ SV.ev l)).flatMap refs = List.replicate (vs.filter SV.isR).length k
  | [], _ => rfl
  | v :: vs, h => by
    simp only [List.all_cons, Bool.and_eq_true] at h
    simp only [List.map_cons, List.flatMap_cons, Function.comp_apply, refs_pats hn vs h.2]
    cases v with
    | d x =>
      have : (SV.ev l (.d x)).noref = true := pat_nr (n := n) hn (.d x) (by cases x <;> first | exact h.1 | (simp [SV.pat] at h; done))
      rw [noref_ren _ this, noref_refs this]; rfl
    | row m y => rfl
    | ptr m f => rfl
    | _ => simp [SV.pat] at h
theorem scall1_ok {s : SS} {f : FuncId} {gs : List Sig} {args : List Opd} {g : Sig} {q} (hone : g.one = true) (h : scallG s f (args.map (opd s)) g = some q) : OpOk P (.scall1 gs f args) s q := by
  intro r hl hc hr hnc K hk
  unfold scallG at h
  split at h
  · rename_i τ σl hm
    simp only at h
    split at h
    · rename_i ns hfit
      split at h
      · rename_i hcnd
        obtain ⟨g1, g2, g3, g4, g5, g6, g7⟩ := hcnd
        simp only [Option.some.injEq] at h
        subst h
        simp only [Sig.ok, Bool.and_eq_true, decide_eq_true_eq] at g1
        obtain ⟨⟨⟨⟨p1, p2⟩, p3⟩, p4⟩, p5⟩ := g1
        have hσ : ∀ n, sigOf s.objs σl n = if n < σl.length then σl.getD n 0 else s.objs.length + (n - σl.length) := fun _ => rfl
        have hτc : D.cls s.nv τ = true := by
          have hnc := hnc
          simp only at hnc
          rw [nodesCl_append, Bool.and_eq_true] at hnc
          have := hnc.2
          simp only [nodesCl, PO.cl, Bool.and_eq_true, g7] at this
          exact this.1
        have hτn : AV.norefs (D.evs r τ) = true := D.evs_noref hr τ (by rw [hl]; exact hτc)
        simp only at hk
        rw [wpN_append] at hk
        obtain ⟨hk, hargs⟩ := fitVs_sound hfit p1 hτn hk
        simp only [wpN, PO.wp] at hk
        obtain ⟨outs, hcon, hlen, hon, hk⟩ := hk
        obtain ⟨hk, heq⟩ := eqls_sound hk
        have hl1 : (r ++ [AV.tup outs]).length = s.nv + 1 := by simp [hl]
        have hmore : ∀ d : D, d.cl s.nv = true → d.ev (r ++ [.tup outs]) = d.ev r := fun d hd => D.ev_more d (by rw [hl]; exact hd)
        have hE : D.evs (r ++ [.tup outs]) (extD s.nv g.m) = outs := extD_evs hl hlen []
        have hon' : AV.norefs (D.evs (r ++ [.tup outs]) (extD s.nv g.m)) = true := by rw [hE]; exact hon
        have hK := hk (by
          funext t
          simp only [stE]
          rw [lk_map (f := rewL (keepL g τ (sigOf s.objs σl) s.nv)) (by
            generalize keepL g τ (sigOf s.objs σl) s.nv = ks
            induction ks with
            | nil => rfl
            | cons a ks ih => simp only [rewL, List.foldl_cons, SV.rew] at ih ⊢; exact ih)]
          refine rewL_sound (fun q hq => ?_) _ (SV.ev_more _ (by rw [hl]; exact SS.cl_env hc t))
          have hcl := keepL_cl hτc q hq
          exact ⟨hmore _ hcl, by rw [← hmore _ hcl]; exact heq q hq⟩)
        have hin : ∀ i, i < g.objs.length → ∃ n, σl[i]? = some n ∧ sigOf s.objs σl i = n ∧ n < s.objs.length := by
          intro i hi
          have hi' : i < σl.length := by omega
          refine ⟨σl[i], List.getElem?_eq_getElem hi', ?_, ?_⟩
          · rw [hσ, if_pos hi']; simp [List.getD, hi']
          · have := List.all_eq_true.1 g4 σl[i] (List.getElem_mem hi'); simpa using this
        have hO1 : (g.objs.map (SO.ev (D.evs r τ))).length = g.objs.length := by simp
        have hO2 : (g.objs'.map (SO.ev outs)).length = g.objs'.length := by simp
        have hres : (g.res.insT (extD s.nv g.m) (sigOf s.objs σl)).ev (r ++ [.tup outs]) = (g.res.ev outs).ren (sigOf s.objs σl) := by
          rw [insT_ev hon' _ p4, hE]
        have hnewO : stO { s with env := s.env.map (fun p => (p.1, rewL (keepL g τ (sigOf s.objs σl) s.nv) p.2)), objs := newObjs s.objs σl (g.objs'.map (SO.insP (extD s.nv g.m) (sigOf s.objs σl))), nv := s.nv + 1 } (r ++ [.tup outs]) =
            (newObjs s.objs σl (g.objs'.map (SO.insP (extD s.nv g.m) (sigOf s.objs σl)))).map (SO.ev (r ++ [.tup outs])) := rfl
        rw [hres, hnewO] at hK
        simp only [Sig.one, Bool.and_eq_true, decide_eq_true_eq] at hone
        obtain ⟨⟨⟨⟨⟨e1, e2⟩, e3⟩, e4⟩, e5⟩, e6⟩ := hone
        obtain ⟨o, ho⟩ : ∃ o, g.objs = [o] := List.length_eq_one_iff.1 e1
        obtain ⟨o', ho'⟩ : ∃ o, g.objs' = [o] := List.length_eq_one_iff.1 e2
        obtain ⟨n, a1, a2, a3⟩ := hin 0 (by omega)
        have hresn : (g.res.ev outs).noref = true := patT_nr hon _ e5
        have hargs1 : ∀ v ∈ g.args, (v.ev (D.evs r τ)).one = true := fun v hv => pat_one hτn v (by have := List.all_eq_true.1 p1 v hv; rwa [e1] at this)
        have ha : args.map (Opd.ev (stE s r)) = (SV.evs (D.evs r τ) g.args).map (AV.ren fun _ => n) := by
          have h1 : args.map (Opd.ev (stE s r)) = (SV.evs (D.evs r τ) g.args).map (AV.ren (sigOf s.objs σl)) := by
            rw [← rens_eq, ← hargs, SV.evs_eq, List.map_map]
            apply List.map_congr_left
            intro x _
            simp only [Function.comp_apply, opd_ev]
          rw [h1, SV.evs_eq, List.map_map, List.map_map]
          exact List.map_congr_left fun v hv => one_ren a2 (hargs1 v hv)
        refine ⟨n, SV.evs (D.evs r τ) g.args, o.ev (D.evs r τ), g.res.ev outs, o'.ev outs, ha, ?_, ?_, ?_, ?_, hresn, ?_, ?_, ?_⟩
        · rw [SV.evs_eq, List.all_map]; exact List.all_eq_true.2 fun v hv => hargs1 v hv
        · have h1 : (args.flatMap fun x => refs (x.ev (stE s r))) = (args.map (Opd.ev (stE s r))).flatMap refs := by rw [List.flatMap_map]
          rw [h1, ha, SV.evs_eq, List.map_map, refs_pats (k := n) hτn g.args (by rw [e1] at p1; exact p1), e6]; rfl
        · have h1 := fitOs_sound g6 0 o (by rw [ho]; rfl)
          rw [Nat.zero_add, a2] at h1
          simp only [stO, List.getElem?_map, h1, Option.map_some]
          rw [insO_ev hτn o (by have := List.all_eq_true.1 p2 o (by rw [ho]; simp); exact this), obj_norefs_ren (patO_nr hτn o (List.all_eq_true.1 e3 o (by rw [ho]; simp)))]
        · exact patO_nr hτn o (List.all_eq_true.1 e3 o (by rw [ho]; simp))
        · exact patO_nr hon o' (List.all_eq_true.1 e4 o' (by rw [ho']; simp))
        · have := hcon
          unfold SCon at this
          rw [ho, ho'] at this
          exact this
        · have hlen2 : σl.length = 1 := by rw [g2, e1]
          have hO : (newObjs s.objs σl (g.objs'.map (SO.insP (extD s.nv g.m) (sigOf s.objs σl)))).map (SO.ev (r ++ [.tup outs])) = (stO s r).set n (o'.ev outs) := by
            apply List.ext_getElem?
            intro j
            by_cases hj : j = n
            · subst hj
              rw [List.getElem?_map, newObjs_old g3 a1 a3 (by rw [ho']; simp), List.getElem?_map, ho', List.getElem?_set_self (by rw [stO_len]; exact a3)]
              simp only [List.getElem?_cons_zero, Option.map_some]
              rw [insO_ev hon' o' (by have := List.all_eq_true.1 p3 o' (by rw [ho']; simp); exact this), hE, obj_norefs_ren (patO_nr hon o' (List.all_eq_true.1 e4 o' (by rw [ho']; simp)))]
            · rw [List.getElem?_set_ne (fun h => hj h.symm)]
              by_cases hlt : j < s.objs.length
              · rw [List.getElem?_map, newObjs_oth hlt (fun hmem => by
                  obtain ⟨i, hi⟩ := List.getElem?_of_mem hmem
                  have hil := (List.getElem?_eq_some_iff.1 hi).1
                  have : i = 0 := by omega
                  subst this
                  rw [a1] at hi; cases hi; exact hj rfl)]
                simp only [stO, List.getElem?_map]
                cases hx : s.objs[j]? with
                | none => rfl
                | some ob =>
                  simp only [Option.map_some]
                  rw [SO.ev_more (r' := [.tup outs]) ob (by rw [hl]; exact SS.cl_obj hc (List.mem_of_getElem? hx))]
              · rw [List.getElem?_eq_none (by rw [List.length_map, newObjs_len, List.length_map, ho', hlen2]; simp only [List.length_cons, List.length_nil]; omega), List.getElem?_eq_none (by rw [stO_len]; omega)]
          rw [hO, noref_ren _ hresn] at hK
          exact hK
      · cases h
    · cases h
  · cases h
theorem scallL_ok {s : SS} {f : FuncId} {gs : List Sig} {args : List Opd} : ∀ {ls : List Sig} {q}, scallL s f (args.map (opd s)) ls = some q → OpOk P (.scall gs f args) s q
  | [], _, h => by cases h
  | g :: ls, q, h => by
    unfold scallL at h
    split at h
    · rename_i q' hq; cases h; exact scall_ok hq
    · exact scallL_ok h
theorem scall1L_ok {s : SS} {f : FuncId} {gs : List Sig} {args : List Opd} : ∀ {ls : List Sig} {q}, scallL s f (args.map (opd s)) (ls.filter Sig.one) = some q → OpOk P (.scall1 gs f args) s q
  | [], _, h => by cases h
  | g :: ls, q, h => by
    by_cases hg : g.one = true
    · rw [List.filter_cons_of_pos hg] at h
      unfold scallL at h
      split at h
      · rename_i q' hq; cases h; exact scall1_ok hg hq
      · exact scall1L_ok h
    · rw [List.filter_cons_of_neg hg] at h
      exact scall1L_ok h
theorem extT_ok {s : SS} {a : Opd} {cs : List SV} {i : Nat} {v : SV} (ha : opd s a = .tup cs) (hi : cs[i]? = some v) : OpOk P (.ext a i) s ([], v, s) := by
  intro r hl hc hr hnc K hk
  have hG := hk rfl
  show (match a.ev (stE s r) with | .tup vs => i < vs.length ∧ K (vs.getD i .top) (stO s r) | _ => False)
  rw [← opd_ev, ha]
  simp only [SV.ev, SV.evs_eq]
  have hlt := (List.getElem?_eq_some_iff.1 hi).1
  refine ⟨by simpa using hlt, ?_⟩
  simp only [List.getD, List.getElem?_map, hi, Option.map_some, Option.getD_some]
  exact hG
end
end Go.Ab
/-
  THE SYMBOLIC WALK IS SOUND: addresses, appends, calls; all operations.
-/
namespace Go.Ab
section
variable {P : Program}
theorem faddr_ok {s : SS} {off : Nat} {a : Opd} {q} (h : xFaddr s off (opd s a) = some q) : OpOk P (.faddr off a) s q := by
  intro r hl hc hr hnc K hk
  unfold xFaddr at h
  split at h
  · rename_i k f ha
    split at h
    · rename_i q' hb
      cases h
      obtain ⟨e, cs⟩ := q'
      rw [o_faddr, ← opd_ev, ha]
      simp only [SV.ev, faddrK_ptr]
      rw [stO_get (box_sound hb) r]
      simp only [SO.ev, objK_live, k1]
      exact ⟨rfl, hk rfl⟩
    · cases h
  · rename_i k l i f ha
    split at h
    · rename_i q' hcur
      obtain ⟨e, sz⟩ := q'
      cases h
      rw [o_faddr, ← opd_ev, ha]
      simp only [SV.ev, faddrK_ptr]
      have := stO_get (cur_sound hcur) r
      simp only [SO.ev] at this
      rw [this, objK_live, k1]
      exact ⟨rfl, hk rfl⟩
    · rename_i q' hcur
      obtain ⟨e, sz⟩ := q'
      cases h
      rw [o_faddr, ← opd_ev, ha]
      simp only [SV.ev, faddrK_ptr]
      simp only [wpN, Chk.wp, idxP] at hk
      split at hk
      · obtain ⟨h0, h1, hk⟩ := hk
        rcases row_cases (cur_sound hcur) r with h5 | ⟨h5, h6, _⟩
        · rw [h5, objK_live, k1]; exact ⟨rfl, hk trivial⟩
        · rw [h6] at h1; simp at h1; omega
      · exact hk.elim
    · cases h
  · rename_i y f ha
    cases h
    rw [o_faddr, ← opd_ev, ha]
    simp only [SV.ev, faddrK_iptr, k1]
    exact hk rfl
  · rename_i y ha
    cases h
    have h1 := nx_hk (K := K) hl hc hk
    simp only [PO.wp, fapP] at h1
    rw [o_faddr, ← opd_ev, ha]
    simp only [SV.ev]
    split at h1
    · rename_i z f hy
      rw [hy, faddrK_iptr, k1]
      exact h1
    · exact h1.elim
  · cases h
theorem fld_ok {s : SS} {off : Nat} {n : Option Nat} {a : Opd} {q} (h : xFld s off n (opd s a) = some q) : OpOk P (.fld off n a) s q := by
  intro r hl hc hr hnc K hk
  have hb : ∀ {A : AV}, (opd s a).ev r = A → (A.isAgg = true ∧ off + n.getD 1 ≤ A.cells.length ∧ K (loadC n A off) (stO s r)) → wpOp P (.fld off n a) (stE s r) (stO s r) K := by
    intro A hA h
    rw [o_fld, ← opd_ev, hA]
    exact h
  unfold xFld at h
  split at h
  · rename_i cs ha
    split at h
    · split at h
      · rename_i v hv
        cases h
        have hlt := (List.getElem?_eq_some_iff.1 hv).1
        refine hb (A := .agg (SV.evs r cs)) (by rw [ha]; rfl) ⟨rfl, by simp only [AV.cells, SV.evs_eq, List.length_map, Option.getD_none]; omega, ?_⟩
        rw [loadC_none]
        simp only [AV.cells, SV.evs_eq, List.getD, List.getElem?_map, hv]
        exact hk rfl
      · cases h
    · rename_i m
      split at h
      · rename_i h1
        cases h
        have h2 := norm_fin (K := K) hl hc hk
        refine hb (A := .agg (SV.evs r cs)) (by rw [ha]; rfl) ⟨rfl, by simp only [AV.cells, SV.evs_eq, List.length_map, Option.getD_some]; exact h1, ?_⟩
        have h3 : loadC (some m) (.agg (SV.evs r cs)) off = .agg (SV.evs r ((cs.drop off).take m)) := by
          unfold loadC
          simp only
          split
          · rename_i h4
            obtain ⟨rfl, _, h5⟩ := h4
            simp only [AV.cells, SV.evs_eq, List.length_map] at h5
            rw [List.drop_zero, List.take_of_length_le (by omega)]
          · simp only [AV.cells, SV.evs_eq, List.map_take, List.map_drop]
        rw [h3]
        exact h2
      · cases h
  · rename_i l ha
    split at h
    · split at h
      · rename_i d hd
        cases h
        have hlt := (List.getElem?_eq_some_iff.1 hd).1
        refine hb (A := .agg (D.evs r l)) (by rw [ha]; rfl) ⟨rfl, by simp only [AV.cells, D.evs_eq, List.length_map, Option.getD_none]; omega, ?_⟩
        rw [loadC_none]
        simp only [AV.cells, D.evs_eq, List.getD, List.getElem?_map, hd]
        exact hk rfl
      · cases h
    · cases h
      exact hb (A := (D.agg l).ev r) (by rw [ha]; rfl) (nx_hk (K := K) hl hc hk)
  · rename_i x _ ha
    cases h
    exact hb (A := x.ev r) (by rw [ha]; rfl) (nx_hk (K := K) hl hc hk)
  · cases h
theorem iaddr_ok {s : SS} {m : Nat} {a b : Opd} {q} (h : xIaddr s m (opd s a) (opd s b) = some q) : OpOk P (.iaddr m a b) s q := by
  intro r hl hc hr hnc K hk
  unfold xIaddr at h
  split at h
  · rename_i l i ha hb
    cases h
    rw [o_iaddr, ← opd_ev, ← opd_ev, ha, hb]
    simp only [SV.ev]
    simp only [wpN, PO.wp, elemP] at hk
    split at hk
    · rename_i xs _ j h1 h2
      rw [h1, h2, iaddrK_sl, k1]
      obtain ⟨q1, q2, q3, q4⟩ := hk
      refine ⟨q1, q2, q3, ?_⟩
      have h3 : stE { s with nv := s.nv + 1 } (r ++ [xs.getD j.toNat .top]) = stE s r := stE_more (s := s) hl hc
      have h4 := q4 h3
      have h5 : stO { s with nv := s.nv + 1 } (r ++ [xs.getD j.toNat .top]) = stO s r := stO_more (s := s) hl hc
      rw [h5] at h4
      simp only [SV.ev, D.ev, getD_new hl] at h4
      exact h4
    · exact hk.elim
  · rename_i k l i ha hb
    split at h
    · rename_i nl e sz hcur
      split at h
      · rename_i hsz
        subst hsz
        cases h
        rw [o_iaddr, ← opd_ev, ← opd_ev, ha, hb]
        simp only [SV.ev]
        simp only [wpN, Chk.wp, idxP] at hk
        split at hk
        · rename_i j h2
          obtain ⟨q1, q2, q3⟩ := hk
          rw [h2, iaddrK_row]
          have h3 := q3 trivial
          simp only [SV.ev, h2, idxOf] at h3
          rcases row_cases (cur_sound hcur) r with h5 | ⟨h5, h6, _⟩
          · rw [h5, objK_live, k1]; exact ⟨rfl, rfl, q1, q2, h3⟩
          · rw [h6] at q2; simp at q2; omega
        · exact hk.elim
      · cases h
    · cases h
  · cases h
theorem srcOf_plain {O : List AObj} {y : AV} {M : List AV → Prop} (h : srcOf [] y M) : srcOf O y M := by
  unfold srcOf at *
  split at h
  · exact h
  · exact h
  · simp [objN] at h
  · exact h.elim
theorem app_ok {s : SS} {t m bytes k : Nat} {a b : Opd} {l y : D} {nl : Bool} {e sz : Nat} (ha : opd s a = .row k l) (hcur : cur s k l = some (nl, e, sz)) (hesz : e = t ∧ sz = m)
    (hy : opd s b = .d y ∨ ∃ k' l', opd s b = .row k' l' ∧ (cur s k' l').isSome = true ∧ y = .sl l') :
    OpOk P (.app t m bytes a b) s ([.op (.app m bytes l y)], .row k (.x s.nv), { s with objs := s.objs.set k (.row nl e sz (.x s.nv)), nv := s.nv + 1 }) := by
  intro r hl hc hr hnc K hk
  obtain ⟨rfl, rfl⟩ := hesz
  rw [o_app, ← opd_ev, ← opd_ev, ha]
  have hsrc : ∀ {M : List AV → Prop}, srcOf [] (y.ev r) M → srcOf (stO s r) ((opd s b).ev r) M := by
    intro M h
    rcases hy with hy | ⟨k', l', hy, hcu, rfl⟩
    · rw [hy]; exact srcOf_plain h
    · rw [hy]
      obtain ⟨⟨nl', e', sz'⟩, hq⟩ := Option.isSome_iff_exists.1 hcu
      simp only [D.ev, srcOf_sl] at h
      simp only [SV.ev, srcOf_row]
      rcases row_cases (cur_sound hq) r with h5 | ⟨h5, h6, _⟩
      · rw [h5, objN_live]; exact ⟨rfl, h⟩
      · rw [h5, objN_nil, h6]; rw [h6] at h; exact ⟨rfl, h⟩
  refine hsrc ?_
  simp only [wpN, PO.wp, appP] at hk
  refine srcOf_imp hk fun ys _ hK => ⟨hK.1, ?_⟩
  obtain ⟨_, h48, hmx, hK⟩ := hK
  generalize hxs : listOf (l.ev r) = xs at *
  have hst : stE { s with objs := s.objs.set k (.row nl e sz (.x s.nv)), nv := s.nv + 1 } (r ++ [.sl (xs ++ ys)]) = stE s r := stE_more (s := s) hl hc
  have hG := hK hst
  rw [stO_set ⟨_, rfl⟩ hl hc] at hG
  simp only [SV.ev, D.ev, getD_new hl, listOf_sl, List.length_append] at hG
  simp only [SV.ev, hxs, ontoK_row, k1]
  have hrow := cur_sound hcur
  have hlt : k < (stO s r).length := by rw [stO_len]; exact (List.getElem?_eq_some_iff.1 hrow).1
  have hself : ∀ {ob}, (stO s r)[k]? = some ob → (stO s r).set k ob = stO s r := by
    intro ob h
    apply List.ext_getElem?
    intro j
    rw [List.getElem?_set]
    split
    · rename_i hj; subst hj; rw [h]
    · rfl
  rcases row_cases hrow r with h5 | ⟨h5, h6, h7⟩
  · rw [h5, hxs, objN_live]
    refine ⟨rfl, rfl, rfl, h48, hmx, ?_⟩
    cases nl with
    | false => simpa only [SO.ev, D.ev, getD_new hl, listOf_sl] using hG
    | true =>
      have hne : xs ≠ [] := by
        intro h0
        have := stO_get hrow r
        simp only [SO.ev, hxs, h0, if_true] at this
        rw [this] at h5; cases h5
      have hne2 : xs ++ ys ≠ [] := by simp [hne]
      simp only [SO.ev, D.ev, getD_new hl, listOf_sl, if_neg hne2] at hG
      exact hG
  · rw [hxs] at h6
    subst h6
    subst h7
    rw [h5, objN_nil]
    simp only [List.length_nil, Nat.zero_add] at h48 hmx
    refine ⟨rfl, rfl, rfl, h48, hmx, fun h0 => ?_, fun h0 => ?_⟩
    · subst h0
      simp only [SO.ev, D.ev, getD_new hl, listOf_sl, List.append_nil, if_true, List.length_nil, Nat.add_zero] at hG
      rw [hself h5] at hG
      exact hG
    · simp only [SO.ev, D.ev, getD_new hl, listOf_sl, List.nil_append, if_neg h0, List.length_nil, Nat.zero_add] at hG
      exact hG
theorem appn_ok {s : SS} {t m bytes : Nat} {a b : Opd} {y : D} (ha : opd s a = .d (.c .nils))
    (hy : opd s b = .d y ∨ ∃ k' l', opd s b = .row k' l' ∧ (cur s k' l').isSome = true ∧ y = .sl l') :
    OpOk P (.app t m bytes a b) s ([.op (.app m bytes (.c (.sl [])) y), .chk (.ne (.x s.nv))], .row s.objs.length (.x s.nv), { s with objs := s.objs ++ [.row false t m (.x s.nv)], nv := s.nv + 1 }) := by
  intro r hl hc hr hnc K hk
  rw [o_app, ← opd_ev, ← opd_ev, ha]
  have hsrc : ∀ {M : List AV → Prop}, srcOf [] (y.ev r) M → srcOf (stO s r) ((opd s b).ev r) M := by
    intro M h
    rcases hy with hy | ⟨k', l', hy, hcu, rfl⟩
    · rw [hy]; exact srcOf_plain h
    · rw [hy]
      obtain ⟨⟨nl', e', sz'⟩, hq⟩ := Option.isSome_iff_exists.1 hcu
      simp only [D.ev, srcOf_sl] at h
      simp only [SV.ev, srcOf_row]
      rcases row_cases (cur_sound hq) r with h5 | ⟨h5, h6, _⟩
      · rw [h5, objN_live]; exact ⟨rfl, h⟩
      · rw [h5, objN_nil, h6]; rw [h6] at h; exact ⟨rfl, h⟩
  refine hsrc ?_
  simp only [wpN, PO.wp, appP, D.ev, listOf_sl, List.length_nil, Nat.zero_add, List.nil_append] at hk
  refine srcOf_imp hk fun ys _ hK => ⟨hK.1, ?_⟩
  obtain ⟨_, h48, hmx, hne, hK⟩ := hK
  simp only [D.ev, getD_new hl, listOf_sl] at hne
  have hst : stE { s with objs := s.objs ++ [.row false t m (.x s.nv)], nv := s.nv + 1 } (r ++ [.sl ys]) = stE s r := stE_more (s := s) hl hc
  have hG := hK hst
  have hO : stO { s with objs := s.objs ++ [.row false t m (.x s.nv)], nv := s.nv + 1 } (r ++ [.sl ys]) = stO s r ++ [.live t m ys] := by
    simp only [stO, List.map_append, List.map_cons, List.map_nil, SO.ev, D.ev, getD_new hl, listOf_sl]
    congr 1
    exact stO_more (s := s) hl hc
  rw [hO] at hG
  simp only [SV.ev, D.ev, getD_new hl, listOf_sl] at hG
  simp only [SV.ev, D.ev, ontoK_nils, k1, stO_len]
  exact ⟨h48, hmx, fun h0 => (hne h0).elim, fun _ => hG⟩
theorem ext_ok {s : SS} {a : Opd} {i j : Nat} (ha : opd s a = .d (.x j)) : OpOk P (.ext a i) s ([.chk (.tup (.x j) i)], .d (.ext j i), s) := by
  intro r hl hc hr hnc K hk
  rw [o_ext, ← opd_ev, ha]
  simp only [wpN, Chk.wp, tupP] at hk
  simp only [SV.ev]
  split at hk
  · rename_i vs hv
    rw [hv, extK_eq, k1]
    have h2 := hk.2 trivial
    simp only [SV.ev, D.ev] at h2 hv
    rw [hv] at h2
    exact ⟨hk.1, h2⟩
  · exact hk.elim
theorem args_sound {s : SS} : ∀ {xs : List Opd} {ns : List Node} {ds : List D} {b : Bool}, xArgs s xs = some (ns, ds, b) → nvN s.nv ns = s.nv ∧ ∀ {r : List AV} {G : List AV → Prop}, wpN P ns r G → G r ∧
    (AV.norefs (D.evs r ds) = true → D.evs r ds = xs.map (fun x => frz (stO s r) (x.ev (stE s r))) ∧ (b = false → AV.norefs (xs.map (Opd.ev (stE s r))) = true ∧ D.evs r ds = xs.map (Opd.ev (stE s r))))
  | [], ns, ds, b, h => by
    simp only [xArgs, Option.some.injEq, Prod.mk.injEq] at h
    obtain ⟨rfl, rfl, rfl⟩ := h
    exact ⟨rfl, fun hw => ⟨hw, fun _ => ⟨rfl, fun _ => ⟨rfl, rfl⟩⟩⟩⟩
  | x :: xs, ns, ds, b, h => by
    simp only [xArgs] at h
    split at h
    · rename_i ns1 ds1 b1 h1
      obtain ⟨hn, ih⟩ := args_sound h1
      split at h
      · rename_i k l hx
        split at h
        · rename_i q hcur
          obtain ⟨nl, e, sz⟩ := q
          cases h
          refine ⟨hn, fun {r G} hw => ?_⟩
          obtain ⟨h2, h3⟩ := ih hw
          refine ⟨h2, fun hno => ?_⟩
          simp only [D.evs, AV.norefs, Bool.and_eq_true] at hno
          obtain ⟨h3, _⟩ := h3 hno.2
          refine ⟨?_, by simp⟩
          simp only [D.evs, List.map_cons, h3, List.cons.injEq, and_true]
          rw [← opd_ev, hx]
          simp only [SV.ev, D.ev, frz]
          rcases row_cases (cur_sound hcur) r with h5 | ⟨h5, h6, _⟩
          · rw [h5]; simp
          · rw [h5, h6]; simp
        · cases h
      · split at h
        · rename_i ms d hd
          cases h
          refine ⟨by rw [nvN_append, asD_nv hd, hn], fun {r G} hw => ?_⟩
          rw [wpN_append] at hw
          obtain ⟨hw, he⟩ := asD_sound hd hw
          obtain ⟨h2, h3⟩ := ih hw
          rw [opd_ev] at he
          refine ⟨h2, fun hno => ?_⟩
          simp only [D.evs, AV.norefs, Bool.and_eq_true] at hno
          obtain ⟨h3, h4⟩ := h3 hno.2
          rw [he] at hno
          refine ⟨?_, fun hb => ?_⟩
          · simp only [D.evs, List.map_cons, h3, he, frz_noref hno.1]
          · obtain ⟨g1, g2⟩ := h4 hb
            simp only [D.evs, List.map_cons, AV.norefs, g1, g2, he, hno.1, Bool.and_true, and_self]
        · cases h
    · cases h
theorem nx_calls {s : SS} {r : List AV} (hl : r.length = s.nv) (hc : s.cl = true) {ns : List Node} (hn : nvN s.nv ns = s.nv) {o : PO} {K : KT} (h : wpN P (nx s ns o).1 r (fun r' => stE (nx s ns o).2.2 r' = stE s r → K ((nx s ns o).2.1.ev r') (stO (nx s ns o).2.2 r'))) :
    wpN P ns r fun r1 => r1 = r → o.wp P r fun v => K v (stO s r) := by
  simp only [nx, wpN_append] at h
  refine wpN_mono ns (fun m hw he => ?_) h
  rw [he] at hw
  exact PO.wp_imp (o := o) hw fun v hv => nx_fin (ns := ns) (o := o) hl hc hn hv
theorem call_cl {s : SS} {ns : List Node} (hn : nvN s.nv ns = s.nv) {f : FuncId} {ds : List D} {b : Bool} (h : nodesCl s.nv (nx s ns (.call f ds b)).1 = true) : D.cls s.nv ds = true := by
  simp only [nx, nodesCl_append, Bool.and_eq_true] at h
  have := h.2
  simp only [nodesCl, PO.cl, Bool.and_true, hn] at this
  exact this
theorem pcall_fin {s : SS} {r : List AV} {f : FuncId} {args : List Opd} {ds : List D} {b : Bool} {K : KT} (hno : AV.norefs (D.evs r ds) = true)
    (h1 : D.evs r ds = args.map (fun x => frz (stO s r) (x.ev (stE s r)))) (h2 : b = false → AV.norefs (args.map (Opd.ev (stE s r))) = true)
    (h : (PO.call f ds b).wp P r fun v => K v (stO s r)) : pcallK P f (args.map fun x => frz (stO s r) (x.ev (stE s r))) (args.map (Opd.ev (stE s r))) (stO s r) K := by
  obtain ⟨res, q1, q2, q3, q4⟩ := h
  rw [h1] at q1 hno
  refine pcallK_intro res q1 hno ?_
  have : aft (stO s r) (args.map (Opd.ev (stE s r))) res = stO s r := by
    cases b with
    | true => exact aft_flat (q3 rfl)
    | false => exact aft_norefs (h2 rfl)
  rw [this]
  exact q4
theorem pcall_ok {s : SS} {f : FuncId} {args : List Opd} {ns : List Node} {ds : List D} {b : Bool} (h : xArgs s args = some (ns, ds, b)) : OpOk P (.pcall f args) s (nx s ns (.call f ds b)) := by
  intro r hl hc hr hnc K hk
  obtain ⟨hn, hs⟩ := args_sound (P := P) h
  obtain ⟨hG, ha⟩ := hs (nx_calls hl hc hn hk)
  have hno := D.evs_noref hr ds (by rw [hl]; exact call_cl hn hnc)
  obtain ⟨h1, h2⟩ := ha hno
  rw [o_pcall]
  exact pcall_fin hno h1 (fun hb => (h2 hb).1) (hG rfl)
theorem qcall_ok {s : SS} {f : FuncId} {args : List Opd} {ns : List Node} {ds : List D} (h : xArgs s args = some (ns, ds, false)) : OpOk P (.qcall f args) s (nx s ns (.call f ds false)) := by
  intro r hl hc hr hnc K hk
  obtain ⟨hn, hs⟩ := args_sound (P := P) h
  obtain ⟨hG, ha⟩ := hs (nx_calls hl hc hn hk)
  have hno := D.evs_noref hr ds (by rw [hl]; exact call_cl hn hnc)
  obtain ⟨h1, h2⟩ := (ha hno).2 rfl
  obtain ⟨res, q1, q2, q3, q4⟩ := hG rfl
  rw [o_qcall]
  rw [h2] at q1
  exact qcallK_intro res q1 h1 q4
theorem scallP_ok {s : SS} {gs : List Sig} {f : FuncId} {args : List Opd} {ns : List Node} {ds : List D} (h : xArgs s args = some (ns, ds, false)) : OpOk P (.scall gs f args) s (nx s ns (.call f ds false)) := by
  intro r hl hc hr hnc K hk
  obtain ⟨hn, hs⟩ := args_sound (P := P) h
  obtain ⟨hG, ha⟩ := hs (nx_calls hl hc hn hk)
  have hno := D.evs_noref hr ds (by rw [hl]; exact call_cl hn hnc)
  obtain ⟨h1, h2⟩ := (ha hno).2 rfl
  obtain ⟨res, q1, q2, q3, q4⟩ := hG rfl
  rw [h2] at q1
  refine ⟨res, stO s r, ?_, q4⟩
  have := Con.fresh q1 h1 (stO s r)
  rwa [noref_ren res q2, List.map_nil, List.append_nil] at this
theorem rcall_ok {s : SS} {f : FuncId} {args : List Opd} {ns : List Node} {ds : List D} {b : Bool} (h : xArgs s args = some (ns, ds, b)) : OpOk P (.rcall f args) s (nx s ns (.call f ds true)) := by
  intro r hl hc hr hnc K hk
  obtain ⟨hn, hs⟩ := args_sound (P := P) h
  obtain ⟨hG, ha⟩ := hs (nx_calls hl hc hn hk)
  have hno := D.evs_noref hr ds (by rw [hl]; exact call_cl hn hnc)
  obtain ⟨h1, h2⟩ := ha hno
  obtain ⟨res, q1, q2, q3, q4⟩ := hG rfl
  rw [h1] at q1 hno
  exact ⟨res, q3 rfl, hno, q1, q4⟩
theorem rowOb_ren {nl : Bool} {e s : Nat} {xs : List AV} (h : AV.norefs xs = true) (t : Nat → Nat) : (rowOb nl e s xs).ren t = rowOb nl e s xs := by
  unfold rowOb
  split
  · rfl
  · simp only [AObj.ren]; rw [← rens_eq, norefs_rens xs h]
theorem fcall_cl {s : SS} {ns : List Node} (hn : nvN s.nv ns = s.nv) {nl : Bool} {e m : Nat} {f : FuncId} {ds : List D} (h : nodesCl s.nv (nx s ns (.fcall nl e m f ds)).1 = true) : D.cls s.nv ds = true := by
  simp only [nx, nodesCl_append, Bool.and_eq_true] at h
  have := h.2
  simp only [nodesCl, PO.cl, Bool.and_true, hn] at this
  exact this
theorem fcall_ok {s : SS} {nl : Bool} {e m : Nat} {f : FuncId} {args : List Opd} {ns : List Node} {ds : List D} {q} (h : xArgs s args = some (ns, ds, false)) (hq : newRowN s nl e m (nx s ns (.fcall nl e m f ds)) = some q) : OpOk P (.fcall nl e m f args) s q := by
  intro r hl hc hr hnc K hk
  obtain ⟨hn, hs⟩ := args_sound (P := P) h
  have hq1 : q.1 = (nx s ns (.fcall nl e m f ds)).1 := by simp only [newRowN, nx, Option.some.injEq] at hq; subst hq; rfl
  obtain ⟨hG, ha⟩ := hs (newRowN_fin hq hn hl hc hk)
  have hno := D.evs_noref hr ds (by rw [hl]; exact fcall_cl hn (by rw [← hq1]; exact hnc))
  obtain ⟨h1, h2⟩ := (ha hno).2 rfl
  obtain ⟨xs, q1, q2, q3⟩ := hG rfl
  rw [h2] at q1
  refine ⟨.row 0 xs.length, rowOb nl e m xs, h1, q1, ?_⟩
  rw [rowOb_ren q2, stO_len]
  simp only [AV.ren, Nat.add_zero]
  exact q3
/-- a function value that is known -/
def known (g : D) : Option (FuncId × List D) :=
  match g with
  | .c (.fn f []) => some (f, [])
  | .fn f caps => some (f, caps)
  | _ => none
theorem pcallv_ok {s : SS} {g : Opd} {x : D} {f : FuncId} {caps : List D} {args : List Opd} {ns : List Node} {ds : List D} {b : Bool} (hg : opd s g = .d x) (hx : ∀ r, x.ev r = .fn f (D.evs r caps)) (h : xArgs s args = some (ns, ds, b)) :
    OpOk P (.pcallv g args) s (nx s ns (.call f (ds ++ caps) b)) := by
  intro r hl hc hr hnc K hk
  obtain ⟨hn, hs⟩ := args_sound (P := P) h
  obtain ⟨hG, ha⟩ := hs (nx_calls hl hc hn hk)
  have hno := D.evs_noref hr (ds ++ caps) (by rw [hl]; exact call_cl hn hnc)
  have happ : D.evs r (ds ++ caps) = D.evs r ds ++ D.evs r caps := by simp only [D.evs_eq, List.map_append]
  rw [happ] at hno
  have hno1 := hno
  rw [norefs_append, Bool.and_eq_true] at hno1
  obtain ⟨h1, h2⟩ := ha hno1.1
  obtain ⟨res, q1, q2, q3, q4⟩ := hG rfl
  rw [o_pcallv, ← opd_ev, hg]
  simp only [SV.ev, hx, pcallvK_fn]
  rw [happ, h1] at q1
  rw [h1] at hno
  refine pcallK_intro res q1 hno ?_
  have : aft (stO s r) (args.map (Opd.ev (stE s r))) res = stO s r := by
    cases b with
    | true => exact aft_flat (q3 rfl)
    | false => exact aft_norefs (h2 rfl).1
  rw [this]
  exact q4
theorem callv_cl {s : SS} {ns : List Node} (hn : nvN s.nv ns = s.nv) {g : D} {ds : List D} {b : Bool} (h : nodesCl s.nv (nx s ns (.callv g ds b)).1 = true) : g.cl s.nv = true ∧ D.cls s.nv ds = true := by
  simp only [nx, nodesCl_append, Bool.and_eq_true] at h
  have := h.2
  simp only [nodesCl, PO.cl, Bool.and_true, hn, Bool.and_eq_true] at this
  exact this
theorem pcallv_any {s : SS} {g : Opd} {x : D} {args : List Opd} {ns : List Node} {ds : List D} {b : Bool} (hg : opd s g = .d x) (h : xArgs s args = some (ns, ds, b)) :
    OpOk P (.pcallv g args) s (nx s ns (.callv x ds b)) := by
  intro r hl hc hr hnc K hk
  obtain ⟨hn, hs⟩ := args_sound (P := P) h
  obtain ⟨hG, ha⟩ := hs (nx_calls hl hc hn hk)
  obtain ⟨hx, hds⟩ := callv_cl hn hnc
  have hno1 := D.evs_noref hr ds (by rw [hl]; exact hds)
  have hnx := D.ev_noref hr x (by rw [hl]; exact hx)
  obtain ⟨h1, h2⟩ := ha hno1
  have hG := hG rfl
  rw [o_pcallv, ← opd_ev, hg]
  simp only [PO.wp, callvP] at hG
  simp only [SV.ev]
  split at hG
  · rename_i f caps hf
    rw [hf] at hnx ⊢
    rw [pcallvK_fn]
    obtain ⟨res, q1, q2, q3, q4⟩ := hG
    rw [h1] at q1 hno1
    refine pcallK_intro res q1 (by rw [norefs_append, hno1]; exact hnx) ?_
    have : aft (stO s r) (args.map (Opd.ev (stE s r))) res = stO s r := by
      cases b with
      | true => exact aft_flat (q3 rfl)
      | false => exact aft_norefs (h2 rfl).1
    rw [this]
    exact q4
  · exact hG.elim
theorem qcallv_ok {s : SS} {g : Opd} {x : D} {f : FuncId} {caps : List D} {args : List Opd} {ns : List Node} {ds : List D} (hg : opd s g = .d x) (hx : ∀ r, x.ev r = .fn f (D.evs r caps)) (h : xArgs s args = some (ns, ds, false)) :
    OpOk P (.qcallv g args) s (nx s ns (.call f (ds ++ caps) false)) := by
  intro r hl hc hr hnc K hk
  obtain ⟨hn, hs⟩ := args_sound (P := P) h
  obtain ⟨hG, ha⟩ := hs (nx_calls hl hc hn hk)
  have hno := D.evs_noref hr (ds ++ caps) (by rw [hl]; exact call_cl hn hnc)
  have happ : D.evs r (ds ++ caps) = D.evs r ds ++ D.evs r caps := by simp only [D.evs_eq, List.map_append]
  rw [happ] at hno
  have hno1 := hno
  rw [norefs_append, Bool.and_eq_true] at hno1
  obtain ⟨h1, h2⟩ := (ha hno1.1).2 rfl
  obtain ⟨res, q1, q2, q3, q4⟩ := hG rfl
  rw [o_qcallv, ← opd_ev, hg]
  simp only [SV.ev, hx, qcallvK_fn]
  rw [happ, h2] at q1
  rw [h2] at hno
  exact qcallK_intro res q1 hno q4
theorem qcallv_any {s : SS} {g : Opd} {x : D} {args : List Opd} {ns : List Node} {ds : List D} (hg : opd s g = .d x) (h : xArgs s args = some (ns, ds, false)) :
    OpOk P (.qcallv g args) s (nx s ns (.callv x ds false)) := by
  intro r hl hc hr hnc K hk
  obtain ⟨hn, hs⟩ := args_sound (P := P) h
  obtain ⟨hG, ha⟩ := hs (nx_calls hl hc hn hk)
  obtain ⟨hx, hds⟩ := callv_cl hn hnc
  have hno1 := D.evs_noref hr ds (by rw [hl]; exact hds)
  have hnx := D.ev_noref hr x (by rw [hl]; exact hx)
  obtain ⟨h1, h2⟩ := (ha hno1).2 rfl
  have hG := hG rfl
  rw [o_qcallv, ← opd_ev, hg]
  simp only [PO.wp, callvP] at hG
  simp only [SV.ev]
  split at hG
  · rename_i f caps hf
    rw [hf] at hnx ⊢
    rw [qcallvK_fn]
    obtain ⟨res, q1, q2, q3, q4⟩ := hG
    rw [h2] at q1 hno1
    exact qcallK_intro res q1 (by rw [norefs_append, hno1]; exact hnx) q4
  · exact hG.elim
theorem mkfn_ok {s : SS} {f : FuncId} {caps : List Opd} {ns : List Node} {ds : List D} (hcl : D.cls s.nv ds = true) (h : xArgs s caps = some (ns, ds, false)) : OpOk P (.mkfn f caps) s (done s ns (.d (.fn f ds))) := by
  intro r hl hc hr hnc K hk
  obtain ⟨hn, hs⟩ := args_sound (P := P) h
  obtain ⟨hG, ha⟩ := hs hk
  have hno := D.evs_noref hr ds (by rw [hl]; exact hcl)
  obtain ⟨h1, h2⟩ := (ha hno).2 rfl
  have hG := hG rfl
  rw [o_mkfn, k1, ← h2]
  exact hG
theorem nilc_ok {s : SS} {a : Opd} {q} (h : xOp (.nilc a) s = some q) : OpOk P (.nilc a) s q := by
  intro r hl hc hr hnc K hk
  simp only [xOp] at h
  rw [o_nilc, ← opd_ev]
  split at h
  · rename_i k f ha
    split at h
    · rename_i q' hb
      obtain ⟨e, cs⟩ := q'
      cases h
      rw [ha]
      simp only [SV.ev, nilcK_ptr]
      rw [stO_get (box_sound hb) r]
      simp only [SO.ev, objK_live, k1]
      exact ⟨rfl, hk rfl⟩
    · cases h
  · rename_i y f ha
    cases h
    rw [ha]
    simp only [SV.ev, nilcK_iptr, k1]
    exact hk rfl
  · rename_i f l ha
    cases h
    rw [ha]
    simp only [SV.ev, D.ev, nilcK_fn, k1]
    exact hk rfl
  · rename_i x _ ha
    cases h
    rw [ha]
    simp only [SV.ev]
    simp only [wpN, Chk.wp, isFnP] at hk
    split at hk
    · rename_i f cs hf
      rw [hf, nilcK_fn, k1]
      have := hk trivial
      simp only [SV.ev, hf] at this
      exact this
    · rename_i y f hf
      rw [hf, nilcK_iptr, k1]
      have := hk trivial
      simp only [SV.ev, hf] at this
      exact this
    · exact hk.elim
  · cases h
theorem mkl_noref {r : List AV} (hr : AV.norefs r = true) : ∀ (ps : List (Nat × D)) (z : List AV), AV.norefs z = true → ps.all (fun p => p.2.cl r.length) = true → AV.norefs (setAll z (ps.map fun p => (p.1, p.2.ev r))) = true := by
  intro ps
  induction ps with
  | nil => intro z hz _; exact hz
  | cons p ps ih =>
    intro z hz hp
    simp only [List.all_cons, Bool.and_eq_true] at hp
    simp only [List.map_cons, setAll]
    refine ih _ (norefs_of fun a ha => ?_) hp.2
    rcases List.mem_or_eq_of_mem_set ha with h | rfl
    · exact norefs_mem hz a h
    · exact D.ev_noref hr _ hp.1
theorem buildF_ok {s : SS} {t m len : Nat} {z : AV} {ps : List (Nat × Opd)} {ns : List Node} {qs : List (Nat × D)} (h : xElems s m len ps = some (ns, qs)) : OpOk P (.buildF t m len z ps) s (nx s ns (.mkl z len qs)) := by
  intro r hl hc hr hnc K hk
  obtain ⟨hn, hs⟩ := elems_sound (P := P) h
  obtain ⟨hG, hrow⟩ := hs (nx_calls hl hc hn hk)
  have hG := hG rfl
  simp only [PO.wp] at hG
  simp only [wpOp]
  simp only [nx, nodesCl_append, Bool.and_eq_true] at hnc
  have h2 := hnc.2
  simp only [nodesCl, PO.cl, Bool.and_true, hn, Bool.and_eq_true] at h2
  refine hrow _ _ (by simp) ⟨mkl_noref hr qs _ (norefs_of fun a ha => by rw [List.eq_of_mem_replicate ha]; exact h2.1) (by rw [hl]; exact h2.2), hG⟩
theorem pu_ok {s : SS} {o : PU} {args : List Opd} {ns : List Node} {ds : List D} {b : Bool} (h : xArgs s args = some (ns, ds, b)) : OpOk P (.pu o args) s (nx s ns (.pu o ds)) := by
  intro r hl hc hr hnc K hk
  obtain ⟨hn, hs⟩ := args_sound (P := P) h
  obtain ⟨hG, ha⟩ := hs (nx_calls hl hc hn hk)
  simp only [nx, nodesCl_append, Bool.and_eq_true] at hnc
  have h2 := hnc.2
  simp only [nodesCl, PO.cl, Bool.and_true, hn] at h2
  have hno := D.evs_noref hr ds (by rw [hl]; exact h2)
  obtain ⟨h1, _⟩ := ha hno
  have hG := hG rfl
  simp only [PO.wp] at hG
  rw [h1] at hG hno
  exact ⟨hno, hG⟩
theorem wp_appS {e : Env} {O : List AObj} {t m bytes : Nat} {a b : Opd} {sb : ByteArray} (hb : b.ev e = .v (.string sb)) {K : KT} (hm : m = 1) (h : ontoK O (a.ev e) t m bytes (ysS sb) K) : wpOp P (.appS t m bytes a b) e O K := by
  have h' : appK O (a.ev e) t m bytes (ysS sb) K = ontoK O (a.ev e) t m bytes (ysS sb) K := by
    unfold appK ontoK; cases a.ev e <;> first | rfl | (rename_i k l; cases O[k]? with | none => rfl | some o => cases o <;> rfl)
  simp only [wpOp, hb]
  refine ⟨hm, ?_⟩
  have : (b.ev e = .v (.string sb)) := hb
  show appK O (a.ev e) t m bytes (ysS sb) K
  rw [h']; exact h
theorem appS_ok {s : SS} {t m bytes k : Nat} {a b : Opd} {l y : D} {nl : Bool} {e sz : Nat} (ha : opd s a = .row k l) (hy : opd s b = .d y) (hcur : cur s k l = some (nl, e, sz)) (hesz : e = t ∧ sz = m) :
    OpOk P (.appS t m bytes a b) s ([.op (.appS m bytes l y)], .row k (.x s.nv), { s with objs := s.objs.set k (.row nl e sz (.x s.nv)), nv := s.nv + 1 }) := by
  intro r hl hc hr hnc K hk
  obtain ⟨rfl, rfl⟩ := hesz
  simp only [wpN, PO.wp, appSP] at hk
  split at hk
  case h_2 => exact hk.elim
  rename_i sb hsb
  obtain ⟨hm, h48, hmx, hK⟩ := hk
  have hbv : b.ev (stE s r) = .v (.string sb) := by rw [← opd_ev, hy]; exact hsb
  refine wp_appS hbv hm ?_
  rw [← opd_ev, ha]
  have hlen := ysS_len sb
  generalize ysS sb = ys at *
  rw [← hlen] at h48 hmx
  generalize hxs : listOf (l.ev r) = xs at *
  have hst : stE { s with objs := s.objs.set k (.row nl e sz (.x s.nv)), nv := s.nv + 1 } (r ++ [.sl (xs ++ ys)]) = stE s r := stE_more (s := s) hl hc
  have hG := hK hst
  rw [stO_set ⟨_, rfl⟩ hl hc] at hG
  simp only [SV.ev, D.ev, getD_new hl, listOf_sl, List.length_append] at hG
  simp only [SV.ev, hxs, ontoK_row, k1]
  have hrow := cur_sound hcur
  have hself : ∀ {ob}, (stO s r)[k]? = some ob → (stO s r).set k ob = stO s r := by
    intro ob h
    apply List.ext_getElem?
    intro j
    rw [List.getElem?_set]
    split
    · rename_i hj; subst hj; split
      · rw [h]
      · rename_i hlt; rw [List.getElem?_eq_none (by omega)]
    · rfl
  rcases row_cases hrow r with h5 | ⟨h5, h6, h7⟩
  · rw [h5, hxs, objN_live]
    refine ⟨rfl, rfl, rfl, h48, hmx, ?_⟩
    cases nl with
    | false => simpa only [SO.ev, D.ev, getD_new hl, listOf_sl] using hG
    | true =>
      have hne : xs ≠ [] := by
        intro h0
        have := stO_get hrow r
        simp only [SO.ev, hxs, h0, if_true] at this
        rw [this] at h5; cases h5
      have hne2 : xs ++ ys ≠ [] := by simp [hne]
      simp only [SO.ev, D.ev, getD_new hl, listOf_sl, if_neg hne2] at hG
      exact hG
  · rw [hxs] at h6
    subst h6
    subst h7
    rw [h5, objN_nil]
    simp only [List.length_nil, Nat.zero_add] at h48 hmx
    refine ⟨rfl, rfl, rfl, h48, hmx, fun h0 => ?_, fun h0 => ?_⟩
    · subst h0
      simp only [SO.ev, D.ev, getD_new hl, listOf_sl, List.append_nil, if_true, List.length_nil, Nat.add_zero] at hG
      rw [hself h5] at hG
      exact hG
    · simp only [SO.ev, D.ev, getD_new hl, listOf_sl, List.nil_append, if_neg h0, List.length_nil, Nat.zero_add] at hG
      exact hG
theorem appSn_ok {s : SS} {t m bytes : Nat} {a b : Opd} {y : D} (ha : opd s a = .d (.c .nils)) (hy : opd s b = .d y) :
    OpOk P (.appS t m bytes a b) s ([.op (.appS m bytes (.c (.sl [])) y), .chk (.ne (.x s.nv))], .row s.objs.length (.x s.nv), { s with objs := s.objs ++ [.row false t m (.x s.nv)], nv := s.nv + 1 }) := by
  intro r hl hc hr hnc K hk
  simp only [wpN, PO.wp, appSP] at hk
  split at hk
  case h_2 => exact hk.elim
  rename_i sb hsb
  obtain ⟨hm, h48, hmx, hne, hK⟩ := hk
  have hbv : b.ev (stE s r) = .v (.string sb) := by rw [← opd_ev, hy]; exact hsb
  refine wp_appS hbv hm ?_
  rw [← opd_ev, ha]
  have hlen := ysS_len sb
  generalize ysS sb = ys at *
  rw [← hlen] at h48 hmx
  simp only [D.ev, listOf_sl, List.length_nil, Nat.zero_add, List.nil_append] at h48 hmx hne hK
  simp only [D.ev, getD_new hl, listOf_sl] at hne
  have hst : stE { s with objs := s.objs ++ [.row false t m (.x s.nv)], nv := s.nv + 1 } (r ++ [.sl ys]) = stE s r := stE_more (s := s) hl hc
  have hG := hK hst
  have hO : stO { s with objs := s.objs ++ [.row false t m (.x s.nv)], nv := s.nv + 1 } (r ++ [.sl ys]) = stO s r ++ [.live t m ys] := by
    simp only [stO, List.map_append, List.map_cons, List.map_nil, SO.ev, D.ev, getD_new hl, listOf_sl]
    congr 1
    exact stO_more (s := s) hl hc
  rw [hO] at hG
  simp only [SV.ev, D.ev, getD_new hl, listOf_sl] at hG
  simp only [SV.ev, D.ev, ontoK_nils, k1, stO_len]
  exact ⟨h48, hmx, fun h0 => (hne h0).elim, fun _ => hG⟩
/-- ALL OPERATIONS. -/
theorem zeroB_sound {s : SS} {lo : Option Opd} (h : zeroB s lo = true) {r : List AV} {d : Int} (hd : lo = none → d = 0) {M : Int → Prop} (hm : M 0) : boundK d (stE s r) lo M := by
  cases lo with
  | none => rw [show boundK d (stE s r) none M = M d from rfl, hd rfl]; exact hm
  | some x =>
    simp only [zeroB] at h
    split at h
    · rename_i k n hx
      have := of_decide_eq_true h
      subst this
      simp only [boundK]
      rw [← opd_ev, hx]
      exact hm
    · cases h
theorem cut_ok {s : SS} {m : Nat} {a : Opd} {lo hi : Option Opd} {q} (h : xCut s m (opd s a) lo hi = some q) : OpOk P (.cut m a lo hi) s q := by
  intro r hl hc hr hnc K hk
  unfold xCut at h
  split at h
  · rename_i ha
    split at h
    · rename_i hz
      cases h
      have hG := hk rfl
      simp only [wpOp]
      rw [← opd_ev, ha]
      exact zeroB_sound hz.1 (fun _ => rfl) (zeroB_sound hz.2 (fun _ => rfl) ⟨rfl, rfl, hG⟩)
    · cases h
  · rename_i k l ha
    split at h
    · rename_i nl e sz hcur
      split at h
      · rename_i hcnd
        obtain ⟨rfl, z1, z2, z3⟩ := hcnd
        cases h
        have hrow := cur_sound hcur
        have hk' : (nl = true → listOf (l.ev r) ≠ []) ∧ K (.row s.objs.length 0) (stO { s with objs := s.objs.set k .dead ++ [.row false e sz (.c (.sl []))] } r) := by
          cases nl
          · exact ⟨fun h => (by cases h), hk rfl⟩
          · simp only [if_true, wpN, Chk.wp] at hk
            exact ⟨fun _ => hk.1, hk.2 rfl⟩
        obtain ⟨hne, hG⟩ := hk'
        have hob : (stO s r)[k]? = some (.live e sz (listOf (l.ev r))) := by
          rw [stO_get hrow r]
          cases nl
          · rfl
          · simp only [SO.ev]; rw [if_neg (hne rfl)]
        have hst : stO { s with objs := s.objs.set k .dead ++ [.row false e sz (.c (.sl []))] } r = (stO s r).set k .dead ++ [.live e sz []] := by
          simp only [stO, List.map_append, List.map_set, List.map_cons, List.map_nil]; rfl
        rw [hst] at hG
        simp only [wpOp]
        rw [← opd_ev, ha]
        simp only [SV.ev, hob]
        refine ⟨by trivial, by trivial, zeroB_sound z1 (fun _ => rfl) (zeroB_sound z3 (fun h => by rw [h] at z2; cases z2) ⟨rfl, rfl, ?_⟩)⟩
        rw [stO_len]; exact hG
      · cases h
    · cases h
  · cases h
theorem appZ_ok {s : SS} {t m bytes : Nat} {z : AV} {a b : Opd} {y : D} (ha : opd s a = .d (.c .nils)) (hb : opd s b = .d y) :
    OpOk P (.appZ t m bytes z a b) s ([.op (.rep bytes z y y), .chk (.ne (.x s.nv))], .row s.objs.length (.x s.nv), { s with objs := s.objs ++ [.row false t m (.x s.nv)], nv := s.nv + 1 }) := by
  intro r hl hc hr hnc K hk
  simp only [wpN, PO.wp, repP] at hk
  split at hk
  · rename_i n c hn hc'
    rw [hn] at hc'
    cases hc'
    obtain ⟨q1, _, q3, q4, hk⟩ := hk
    simp only [Chk.wp, D.ev, getD_new hl, listOf_sl] at hk
    obtain ⟨hne, hK⟩ := hk
    have hpos : 0 < n := by
      rcases Int.lt_or_le 0 n with h | h
      · exact h
      · exact (hne (by rw [show n.toNat = 0 by omega]; rfl)).elim
    have hst : stE { s with objs := s.objs ++ [.row false t m (.x s.nv)], nv := s.nv + 1 } (r ++ [.sl (List.replicate n.toNat z)]) = stE s r := stE_more (s := s) hl hc
    have hG := hK hst
    have hO : stO { s with objs := s.objs ++ [.row false t m (.x s.nv)], nv := s.nv + 1 } (r ++ [.sl (List.replicate n.toNat z)]) = stO s r ++ [.live t m (List.replicate n.toNat z)] := by
      simp only [stO, List.map_append, List.map_cons, List.map_nil, SO.ev, D.ev, getD_new hl, listOf_sl]
      congr 1
      exact stO_more (s := s) hl hc
    rw [hO] at hG
    simp only [SV.ev, D.ev, getD_new hl, listOf_sl, List.length_replicate] at hG
    simp only [wpOp]
    rw [← opd_ev, ← opd_ev, ha, hb]
    simp only [SV.ev, D.ev, hn]
    refine ⟨hpos, by simpa using q3, by simp only [maxLen]; omega, ?_⟩
    rw [stO_len]
    exact hG
  · exact hk.elim
theorem lenLn_ok {s : SS} {a : Opd} (ha : opd s a = .d (.c .nils)) : OpOk P (.lenL a) s ([], .d (.c (.v (.int .i64 0))), s) := by
  intro r hl hc hr hnc K hk
  have hG := hk rfl
  simp only [wpOp]
  rw [← opd_ev, ha]
  exact hG
theorem capN_ok {s : SS} {a : Opd} (ha : opd s a = .d (.c .nils)) : OpOk P (.pu .capN [a]) s ([], .d (.c (.v (.int .i64 0))), s) := by
  intro r hl hc hr hnc K hk
  have hG := hk rfl
  simp only [wpOp, List.map_cons, List.map_nil]
  rw [← opd_ev, ha]
  exact ⟨rfl, hG⟩
theorem xOp_ok {op : AOp} {s : SS} {q : List Node × SV × SS} (hok : op.okc = true) (hcs : s.cl = true) (hq : q.2.1.cl q.2.2.nv = true) (h : xOp op s = some q) : OpOk P op s q := by
  cases op <;> simp only [xOp] at h
  case stuck => cases h; intro r hl hc hr hnc K hk; exact hk.elim
  case buildF t m len z ps =>
    split at h
    · rename_i ns qs hx; cases h; exact buildF_ok hx
    · cases h
  case appZ t m bytes z a b =>
    split at h
    · rename_i y ha hb; cases h; exact appZ_ok ha hb
    · cases h
  case cut m a lo hi => exact cut_ok h
  case pu o args =>
    split at h
    · split at h
      · rename_i ha; cases h; exact capN_ok ha
      · cases h
    · split at h
      · rename_i ns ds b hx; cases h; exact pu_ok hx
      · cases h
  case appS t m bytes a b =>
    split at h
    · rename_i k l y ha hb
      split at h
      · rename_i nl e sz hcur
        split at h
        · rename_i hes; cases h; exact appS_ok ha hb hcur hes
        · cases h
      · cases h
    · rename_i y ha hb; cases h; exact appSn_ok ha hb
    · cases h
  case mov a => cases h; exact mov_ok s a
  case pick c a b =>
    split at h
    · rename_i t hc; cases h; exact pickc_ok hc
    · rename_i x _ hc
      split at h
      · rename_i na a' nb b' ha hb; cases h; exact pick_ok hc ha hb
      · cases h
    · cases h
  case alloc t n z => exact alloc_ok h
  case box t n a => exact box_ok (opd_cl' hcs hok) h
  case build z ps =>
    simp only [AOp.okc, Bool.and_eq_true] at hok
    exact build_ok hok.2 hok.1 h
  case buildSlice t m len z ps => exact buildSlice_ok h
  case allocAt k t n z => exact allocAt_ok hok h
  case boxAt k t n a => exact boxAt_ok hok (opd_cl' hcs hok) h
  case buildAt k t m len z ps =>
    simp only [AOp.okc, Bool.and_eq_true] at hok
    exact buildAt_ok hok.1 hok.2 h
  case load n a => exact load_ok h
  case store m a b => exact store_ok hok h
  case bin o a b =>
    split at h
    · rename_i x y ha hb; cases h; exact bin_ok ha hb
    · cases h
  case beq neg a b =>
    split at h
    · rename_i x y ha hb; cases h; exact beq_ok ha hb
    · cases h
  case un o a =>
    split at h
    · rename_i x ha; cases h; exact un_ok ha
    · cases h
  case convInt k a =>
    split at h
    · rename_i x ha; cases h; exact conv_ok ha
    · cases h
  case faddr off a => exact faddr_ok h
  case fld off n a => exact fld_ok h
  case iaddr m a i => exact iaddr_ok h
  case idxS a i =>
    split at h
    · rename_i x y ha hb; cases h; exact idxS_ok ha hb
    · cases h
  case sliceS a lo hi =>
    split at h
    · rename_i x dl dh ha h1 h2; cases h; exact sliceS_ok ha h1 h2
    · cases h
  case sliceL m a lo hi =>
    split at h
    · rename_i x dl dh ha h1 h2; cases h; exact sliceL_ok ha h1 h2
    · cases h
  case mk t m bytes z n c =>
    split at h
    · rename_i x y hn hc; exact mk_ok hn hc h
    · cases h
  case lenS a =>
    split at h
    · rename_i x ha; cases h; exact lenS_ok ha
    · cases h
  case lenL a =>
    split at h
    · rename_i ha; cases h; exact lenLn_ok ha
    · rename_i x _ ha; cases h; exact lenL_ok ha
    · rename_i k l ha
      split at h
      · rename_i hcur; cases h; exact lenLr_ok ha (by rw [hcur]; rfl)
      · cases h
    · cases h
  case app t m bytes a b =>
    split at h
    · rename_i k l ha
      split at h
      · rename_i nl e sz hcur
        split at h
        · rename_i hes
          split at h
          · rename_i y hy
            cases h
            refine app_ok ha hcur hes ?_
            split at hy
            · rename_i y' hb; cases hy; exact .inl hb
            · rename_i k' l' hb
              split at hy
              · rename_i hsome; cases hy; exact .inr ⟨k', l', hb, hsome, rfl⟩
              · cases hy
            · cases hy
          · cases h
        · cases h
      · cases h
    · rename_i ha
      split at h
      · rename_i y hy
        cases h
        refine appn_ok ha ?_
        split at hy
        · rename_i y' hb; cases hy; exact .inl hb
        · rename_i k' l' hb
          split at hy
          · rename_i hsome; cases hy; exact .inr ⟨k', l', hb, hsome, rfl⟩
          · cases hy
        · cases hy
      · cases h
    · cases h
  case ext a i =>
    split at h
    · rename_i cs ha
      split at h
      · rename_i v hv; cases h; exact extT_ok ha hv
      · cases h
    · rename_i j ha; cases h; exact ext_ok ha
    · cases h
  case nilc a => exact nilc_ok h
  case mkfn f caps =>
    split at h
    · rename_i ns ds hx
      cases h
      refine mkfn_ok ?_ hx
      have := (args_sound (P := P) hx).1
      simp only [done, SV.cl, D.cl, this] at hq
      exact hq
    · cases h
  case pcall f args =>
    split at h
    · rename_i ns ds b hx; cases h; exact pcall_ok hx
    · cases h
  case pcallv g args =>
    split at h
    · rename_i f ns ds b hg hx; cases h
      have := pcallv_ok (P := P) (f := f) (caps := []) hg (fun r => rfl) hx
      rwa [List.append_nil] at this
    · rename_i f caps ns ds b hg hx; cases h
      exact pcallv_ok hg (fun r => rfl) hx
    · rename_i x ns ds b _ _ hg hx; cases h
      exact pcallv_any hg hx
    · cases h
  case rcall f args =>
    split at h
    · rename_i ns ds b hx; cases h; exact rcall_ok hx
    · cases h
  case fcall nl e m f args =>
    split at h
    · rename_i ns ds hx; exact fcall_ok hx h
    · cases h
  case qcall f args =>
    split at h
    · rename_i ns ds hx; cases h; exact qcall_ok hx
    · cases h
  case scall1 gs f args => exact scall1L_ok h
  case scall gs f args =>
    split at h
    · rename_i q' hq; cases h; exact scallL_ok hq
    · split at h
      · rename_i ns ds hx; cases h; exact scallP_ok hx
      · cases h
  case qcallv g args =>
    split at h
    · rename_i f ns ds hg hx; cases h
      have := qcallv_ok (P := P) (f := f) (caps := []) hg (fun r => rfl) hx
      rwa [List.append_nil] at this
    · rename_i f caps ns ds hg hx; cases h
      exact qcallv_ok hg (fun r => rfl) hx
    · rename_i x ns ds _ _ hg hx; cases h
      exact qcallv_any hg hx
    · cases h
  all_goals cases h
end
end Go.Ab
/-
  THE SYMBOLIC WALK IS SOUND: what becomes plain ahead of an operation; joins.
-/
namespace Go.Ab
/-- a state may go over into another one that knows less -/
def Wk (n0 : Nat) (s s' : SS) : Prop := s'.nv = s.nv ∧ ∀ r : List AV, r.length = s.nv → AV.norefs r = true → WK n0 (stE s r) (stO s r) (stE s' r) (stO s' r)
theorem Wk.refl (n0 : Nat) (s : SS) : Wk n0 s s := ⟨rfl, fun _ _ _ => .refl _ _ _⟩
theorem Wk.trans {n0 : Nat} {s s' s'' : SS} (h : Wk n0 s s') (k : Wk n0 s' s'') : Wk n0 s s'' :=
  ⟨k.1.trans h.1, fun r hl hr => (h.2 r hl hr).trans (k.2 r (hl.trans h.1.symm) hr)⟩
theorem lk_key (k : Nat) (v : SV) : ∀ (l : List (Nat × SV)) (t : Nat), (t ≠ k → lk (l.map fun p => (p.1, if p.1 = k then v else p.2)) t = lk l t) ∧ (lk l k = .top ∨ lk (l.map fun p => (p.1, if p.1 = k then v else p.2)) k = v)
  | [], t => ⟨fun _ => rfl, .inl rfl⟩
  | (q, w) :: l, t => by
    obtain ⟨h1, h2⟩ := lk_key k v l t
    simp only [List.map_cons, lk]
    refine ⟨fun ht => ?_, ?_⟩
    · by_cases hq : t = q
      · subst hq; rw [if_pos rfl, if_pos rfl, if_neg ht]
      · rw [if_neg hq, if_neg hq]; exact h1 ht
    · by_cases hq : k = q
      · subst hq; rw [if_pos rfl, if_pos rfl]; exact .inr (if_pos rfl)
      · rw [if_neg hq, if_neg hq]; exact h2
theorem nilRow_wk {n0 : Nat} {s : SS} {t m k : Nat} (h : lk s.env k = .d (.c .nils)) : Wk n0 s (nilRow s t m k) := by
  refine ⟨rfl, fun r hl hr => ?_⟩
  refine WK.nilrow t m (by simp [stO, nilRow]) (by simp [stO, nilRow, SO.ev, D.ev, listOf]) (fun j hj => .inl ?_) fun q => ?_
  · simp only [stO, nilRow, List.map_append]
    rw [List.getElem?_append_left (by simpa [stO] using hj)]
  · have := lk_key k (.row s.objs.length (.c (.sl []))) s.env q
    by_cases hq : q = k
    · subst hq
      rcases this.2 with h1 | h1
      · rw [h] at h1; cases h1
      · refine .inr ⟨by simp only [stE, h]; rfl, ?_⟩
        simp only [stE, nilRow, h1, SV.ev, D.ev, listOf, stO_len]; rfl
    · exact .inl (by simp only [stE, nilRow, this.1 hq])
theorem nilCell_wk {n0 : Nat} {s : SS} {k j t m e : Nat} {cs : List SV} (hb : boxOf s k = some (e, cs)) (hj : cs[j]? = some (.d (.c .nils))) : Wk n0 s (nilCell s k j t m) := by
  have hob := box_sound hb
  have hk : k < s.objs.length := (List.getElem?_eq_some_iff.1 hob).1
  refine ⟨by simp only [nilCell, hb], fun r hl hr => ?_⟩
  have hO : stO (nilCell s k j t m) r = (stO s r).set k (.live e cs.length [mkA ((SV.evs r cs).set j (.row s.objs.length 0))]) ++ [.nil t m] := by
    simp only [nilCell, hb, stO, List.map_append, List.map_set, List.map_cons, List.map_nil, SO.ev, List.length_set, SV.evs_eq, SV.ev, D.ev, listOf, List.length_nil, if_true]
  have hE : stE (nilCell s k j t m) r = stE s r := by simp only [nilCell, hb]; rfl
  rw [hO, hE]
  refine WK.nilrow t m (by simp) (by rw [List.getElem?_append_right (by simp)]; simp) (fun i hi => ?_) fun q => .inl rfl
  rw [List.getElem?_append_left (by simpa using hi)]
  by_cases hik : i = k
  · subst hik
    refine .inr ⟨e, cs.length, [mkA (SV.evs r cs)], [mkA ((SV.evs r cs).set j (.row s.objs.length 0))], stO_get hob r, by rw [List.getElem?_set_self hi], rfl, fun i' y y' hy hy' => ?_⟩
    cases i' with
    | succ i' => simp at hy
    | zero =>
      simp at hy hy'
      subst hy; subst hy'
      rw [show (stO s r).length = s.objs.length from stO_len s r]
      have hcj : (SV.evs r cs)[j]? = some .nils := by rw [SV.evs_eq, List.getElem?_map, hj]; rfl
      generalize SV.evs r cs = xs at hcj
      have hjl := (List.getElem?_eq_some_iff.1 hcj).1
      by_cases h1 : xs.length = 1
      · obtain ⟨c, rfl⟩ := List.length_eq_one_iff.1 h1
        have hj0 : j = 0 := by simp at hjl; exact hjl
        subst hj0
        simp at hcj; subst hcj
        refine ⟨rfl, fun p c c' hc hc' => ?_⟩
        cases p with
        | zero => simp [mkA, AV.cells] at hc hc'; exact .inr ⟨hc.symm, hc'.symm⟩
        | succ p => simp [mkA, AV.cells] at hc
      · rw [mkA_cells h1, mkA_cells (by simpa using h1)]
        simp only [AV.cells]
        refine ⟨by simp, fun p c c' hc hc' => ?_⟩
        rw [List.getElem?_set] at hc'
        split at hc'
        · rename_i hpj
          subst hpj
          rw [hcj] at hc
          exact .inr ⟨(Option.some.inj hc).symm, (Option.some.inj hc').symm⟩
        · rw [hc] at hc'
          exact .inl (Option.some.inj hc').symm
  · rw [List.getElem?_set_ne (fun h => hik h.symm)]
    exact .inl rfl
theorem Fr.cell {n : Nat} {xs : List AV} {a b : AV} (h : Fr n xs a b) {j : Nat} {c d : AV} (hc : a.cells[j]? = some c) (hd : b.cells[j]? = some d) : Fr n xs c d := by
  cases h with
  | refl => rw [hc] at hd; cases hd; exact .refl _
  | row =>
    cases j with
    | zero => simp [AV.cells] at hc hd; subst hc; subst hd; exact .row
    | succ j => simp [AV.cells] at hc
  | agg cs ds _ h => exact h j c d hc hd
  | ptr a f ha =>
    cases j with
    | zero => simp [AV.cells] at hc hd; subst hc; subst hd; exact .ptr a f ha
    | succ j => simp [AV.cells] at hc
theorem Fr.mkA {n : Nat} {xs : List AV} {cs ds : List AV} (hl : cs.length = ds.length) (h : ∀ (i : Nat) c d, cs[i]? = some c → ds[i]? = some d → Fr n xs c d) : Fr n xs (mkA cs) (mkA ds) := by
  by_cases h1 : cs.length = 1
  · obtain ⟨c, rfl⟩ := List.length_eq_one_iff.1 h1
    obtain ⟨d, rfl⟩ := List.length_eq_one_iff.1 (show ds.length = 1 by omega)
    exact h 0 c d rfl rfl
  · rw [mkA_cells h1, mkA_cells (by omega)]
    exact .agg _ _ hl h
theorem frzRow_wk {n0 : Nat} {s : SS} (n : Nat) : Wk n0 s (frzRow s n) := by
  unfold frzRow
  split
  · rename_i nl e sz l hob
    split
    · rename_i hcl
      refine ⟨rfl, fun r hl hr => ?_⟩
      have hn := listOf_norefs (D.ev_noref hr l (by rw [hl]; exact hcl))
      have fr1 : ∀ v : SV, Fr n (listOf (l.ev r)) (v.ev r) ((v.frz n l).ev r) := by
        intro v
        cases v with
        | row m k =>
          simp only [SV.frz]
          split
          · rename_i h1
            have := D.beq_eq _ _ h1.2
            obtain ⟨rfl, _⟩ := h1
            subst this
            exact .row
          · exact .refl _
        | _ => exact .refl _
      have hpt : ∀ cs : List SV, ∀ (i : Nat) c d, (SV.evs r cs)[i]? = some c → (SV.evs r (cs.map (SV.frz n l)))[i]? = some d → Fr n (listOf (l.ev r)) c d := by
        intro cs i c d hc hd
        rw [SV.evs_eq, List.getElem?_map] at hc hd
        rw [List.getElem?_map] at hd
        cases hi : cs[i]? with
        | none => rw [hi] at hc; simp at hc
        | some v => rw [hi] at hc hd; simp at hc hd; subst hc; subst hd; exact fr1 v
      refine WK.frz (n := n) (t := e) (s := sz) (xs := listOf (l.ev r)) ?_ hn (by simp [stO]) ?_ (fun m hm => ?_) fun t => ?_
      · rcases row_cases hob r with h | ⟨h, h', _⟩
        · exact .inl h
        · exact .inr ⟨h, h'⟩
      · simp only [stO, List.map_set]
        rw [List.getElem?_set_self (by simpa using (List.getElem?_eq_some_iff.1 hob).1)]; rfl
      · simp only [stO, List.map_set]
        rw [List.getElem?_set_ne (fun h => hm h.symm), List.map_map, List.getElem?_map, List.getElem?_map]
        cases ho : s.objs[m]? with
        | none => exact .inl rfl
        | some o =>
          cases o with
          | box e' cs =>
            refine .inr ⟨e', cs.length, [mkA (SV.evs r cs)], [mkA (SV.evs r (cs.map (SV.frz n l)))], rfl, by simp [SO.frz, SO.ev], rfl, fun i y y' hy hy' => ?_⟩
            cases i with
            | succ i => simp at hy
            | zero =>
              simp at hy hy'
              subst hy; subst hy'
              have hf := Fr.mkA (n := n) (xs := listOf (l.ev r)) (cs := SV.evs r cs) (ds := SV.evs r (cs.map (SV.frz n l))) (by simp [SV.evs_eq]) (hpt cs)
              exact ⟨hf.width, fun j c c' hc hc' => hf.cell hc hc'⟩
          | dead => exact .inl rfl
          | row _ _ _ _ => exact .inl rfl
      · simp only [stE]
        rw [lk_map (f := SV.frzs n l) rfl]
        generalize lk s.env t = v
        cases v with
        | agg cs =>
          simp only [SV.frzs, SV.ev]
          exact .agg _ _ (by simp [SV.evs_eq]) (hpt cs)
        | row m k => exact fr1 (.row m k)
        | _ => exact .refl _
    · exact .refl _ _
  · exact .refl _ _
theorem mkD_ev (r : List AV) (ds : List D) : (mkD ds).ev r = mkA (D.evs r ds) := by
  unfold mkD
  split
  · rfl
  · rename_i h
    cases ds with
    | nil => rfl
    | cons a l => cases l with
      | nil => exact (h a rfl).elim
      | cons b l => rfl
theorem frzBox_wk {n0 : Nat} {s : SS} (n : Nat) : Wk n0 s (frzBox s n) := by
  unfold frzBox
  split
  · rename_i e cs hob
    split
    · rename_i ds hd
      split
      · rename_i hcl
        refine ⟨rfl, fun r hl hr => ?_⟩
        have hcs := dsOf_map hd
        have hx : mkA (SV.evs r cs) = (mkD ds).ev r := by rw [hcs, evs_map, mkD_ev]
        have hn : AV.norefs [(mkD ds).ev r] = true := by
          have : (mkD ds).cl r.length = true := by
            rw [hl]
            unfold mkD
            split
            · simpa [D.cls] using hcl
            · exact hcl
          simp only [AV.norefs, D.ev_noref hr _ this]; rfl
        have fr1 : ∀ v : SV, Fr n [(mkD ds).ev r] (v.ev r) ((v.fbx n (mkD ds)).ev r) := by
          intro v
          cases v with
          | ptr m f =>
            simp only [SV.fbx]
            split
            · rename_i h1; subst h1; exact .ptr _ f rfl
            · exact .refl _
          | _ => exact .refl _
        have fr2 : ∀ v : SV, Fr n [(mkD ds).ev r] (v.ev r) ((v.fbc n (mkD ds)).ev r) := by
          intro v
          cases v with
          | ptr m f =>
            simp only [SV.fbc]
            split
            · rename_i h1; subst h1; exact .ptr _ f rfl
            · exact .refl _
          | _ => exact .refl _
        have hpt : ∀ cs : List SV, ∀ (i : Nat) c d, (SV.evs r cs)[i]? = some c → (SV.evs r (cs.map (SV.fbc n (mkD ds))))[i]? = some d → Fr n [(mkD ds).ev r] c d := by
          intro cs i c d hc hd
          rw [SV.evs_eq, List.getElem?_map] at hc hd
          rw [List.getElem?_map] at hd
          cases hi : cs[i]? with
          | none => rw [hi] at hc; simp at hc
          | some v => rw [hi] at hc hd; simp at hc hd; subst hc; subst hd; exact fr2 v
        refine WK.frz (n := n) (t := e) (s := cs.length) (xs := [(mkD ds).ev r]) (.inl ?_) hn (by simp [stO]) ?_ (fun m hm => ?_) fun t => ?_
        · have := stO_get hob r
          rw [this]; simp only [SO.ev, hx]
        · simp only [stO, List.map_set]
          rw [List.getElem?_set_self (by simpa using (List.getElem?_eq_some_iff.1 hob).1)]; rfl
        · simp only [stO, List.map_set]
          rw [List.getElem?_set_ne (fun h => hm h.symm), List.map_map, List.getElem?_map, List.getElem?_map]
          cases ho : s.objs[m]? with
          | none => exact .inl rfl
          | some o =>
            cases o with
            | box e' cs =>
              refine .inr ⟨e', cs.length, [mkA (SV.evs r cs)], [mkA (SV.evs r (cs.map (SV.fbc n (mkD ds))))], rfl, by simp [SO.fbx, SO.ev], rfl, fun i y y' hy hy' => ?_⟩
              cases i with
              | succ i => simp at hy
              | zero =>
                simp at hy hy'
                subst hy; subst hy'
                have hf := Fr.mkA (n := n) (xs := [(mkD ds).ev r]) (cs := SV.evs r cs) (ds := SV.evs r (cs.map (SV.fbc n (mkD ds)))) (by simp [SV.evs_eq]) (hpt cs)
                exact ⟨hf.width, fun j c c' hc hc' => hf.cell hc hc'⟩
            | dead => exact .inl rfl
            | row _ _ _ _ => exact .inl rfl
        · simp only [stE]
          rw [lk_map (f := SV.fbx n (mkD ds)) rfl]
          exact fr1 _
      · exact .refl _ _
    · exact .refl _ _
  · exact .refl _ _
theorem foldl_wk {n0 : Nat} {α : Type} {f : SS → α → SS} (h : ∀ s a, Wk n0 s (f s a)) : ∀ (l : List α) (s : SS), Wk n0 s (l.foldl f s)
  | [], s => .refl _ _
  | a :: l, s => (h s a).trans (foldl_wk h l (f s a))
theorem frzOf_wk {n0 : Nat} (s : SS) (v : SV) : Wk n0 s (frzOf s v) := foldl_wk (fun s n => frzRow_wk n) _ s
theorem frzOps_wk {n0 : Nat} (s : SS) (l : List Opd) : Wk n0 s (frzOps s l) := foldl_wk (fun s x => frzOf_wk s _) l s
theorem frzCap_wk {n0 : Nat} (s : SS) (x : Opd) : Wk n0 s (frzCap s x) := by
  unfold frzCap
  split
  · split
    · exact (foldl_wk (fun s v => frzOf_wk s v) _ s).trans (frzBox_wk _)
    · exact .refl _ _
  · exact frzOf_wk _ _
theorem frzBoxD_wk {n0 : Nat} : ∀ (k : Nat) (s : SS) (n : Nat), Wk n0 s (frzBoxD k s n)
  | 0, s, n => .refl _ _
  | k + 1, s, n => by
    unfold frzBoxD
    split
    · refine (foldl_wk (fun s v => ?_) _ s).trans (frzBox_wk _)
      split
      · exact frzBoxD_wk k s _
      · exact frzOf_wk _ _
    · exact .refl _ _
theorem frzPtr_wk {n0 : Nat} (s : SS) (x : Opd) : Wk n0 s (frzPtr s x) := by
  unfold frzPtr
  split
  · exact frzBoxD_wk _ _ _
  · exact .refl _ _
theorem frzAggs_wk {n0 : Nat} (s : SS) (l : List Opd) : Wk n0 s (frzAggs s l) := foldl_wk (fun s x => by
  split
  · exact frzOf_wk _ _
  · exact .refl _ _) l s
theorem frzPtrs_wk {n0 : Nat} (s : SS) (l : List Opd) : Wk n0 s (frzPtrs s l) := foldl_wk (fun s x => by
  unfold frzPtr
  split
  · exact frzBoxD_wk _ _ _
  · exact .refl _ _) l s
theorem frzAll_wk {n0 : Nat} (s : SS) (l : List SV) : Wk n0 s (frzAll s l) := foldl_wk (fun s v => by
  split
  · exact frzBoxD_wk _ _ _
  · exact frzOf_wk _ _) l s
theorem prep_wk {n0 : Nat} (fl : List Nat) (op : AOp) (s : SS) : Wk n0 s (prep fl op s) := by
  unfold prep
  split
  · split
    · rename_i h; exact nilRow_wk h
    · exact .refl _ _
  · split
    · rename_i h; exact nilRow_wk h
    · exact .refl _ _
  · exact frzOf_wk _ _
  · exact frzOps_wk _ _
  · split
    · exact frzOf_wk _ _
    · exact .refl _ _
  · exact foldl_wk (fun s x => frzCap_wk s x) _ s
  · split
    · exact (frzAggs_wk _ _).trans (frzPtrs_wk _ _)
    · exact (frzOps_wk _ _).trans (frzPtrs_wk _ _)
  · exact (frzOps_wk _ _).trans (frzPtrs_wk _ _)
  · exact (frzOps_wk _ _).trans (frzPtrs_wk _ _)
  · exact frzOps_wk _ _
  · split
    · exact .refl _ _
    · split
      · refine foldl_wk (fun s p => ?_) _ _
        split
        · exact (frzOf_wk _ _).trans (frzPtr_wk _ _)
        · exact .refl _ _
      · exact .refl _ _
  · exact .refl _ _
theorem pre_wk {n0 : Nat} (fl : List Nat) (wk : Bool) (op : AOp) (s : SS) : Wk n0 s (pre fl wk op s) := by
  unfold pre; split
  · exact prep_wk _ _ _
  · exact .refl _ _
theorem conv_wk {n0 : Nat} (s : SS) (c : Conv) : Wk n0 s (c.run s) := by
  cases c with
  | slot k t m =>
    simp only [Conv.run]
    split
    · rename_i h; exact nilRow_wk h
    · exact .refl _ _
  | cell k j t m =>
    simp only [Conv.run]
    split
    · rename_i h
      split
      · rename_i h2; exact nilCell_wk h h2
      · exact .refl _ _
    · exact .refl _ _
  | fbx n =>
    simp only [Conv.run]
    split
    · exact (foldl_wk (fun s v => frzOf_wk s v) _ s).trans (frzBox_wk _)
    · exact .refl _ _
  | frow n => exact frzRow_wk n
/- joins -/
theorem WK.kills {n0 : Nat} {e : Env} {O O' : List AObj} (hlen : O'.length = O.length) (h : ∀ m : Nat, O'[m]? = O[m]? ∨ O'[m]? = some .dead) : WK n0 e O e O' := by
  intro I0 L0 O0 w0 I L w f h0 hg hr
  have hget : ∀ {m : Nat} {ob}, O'[m]? = some ob → ob ≠ .dead → O[m]? = some ob := by
    intro m ob ho hne
    rcases h m with h1 | h1
    · rw [← h1]; exact ho
    · rw [h1] at ho; cases ho; exact (hne rfl).elim
  have hext : Ext I L O I L O' := ⟨fun _ _ _ h => h, by omega, fun m _ ee k zs hz => .inl ⟨zs, hget hz (by simp), Nat.le_refl _, fun _ => rfl⟩, fun m _ ee k h => hget h (by simp), fun m _ a h => ⟨⟨a, hget h (by simp)⟩, rfl⟩, fun m _ a h => ⟨⟨a, hget h (by simp), rfl⟩, rfl⟩⟩
  refine ⟨I, L, hg.turn (by omega) (fun _ _ _ h => h) (fun _ _ _ h => .inl h) (fun m ee k zs hm => ?_) (fun m ee k _ hm => hget hm (by simp)) (fun m a hm => hget hm (by simp)) (fun m a hm => ⟨hget hm (by simp), fun _ _ h => h.mono hext⟩), fun t => (hr t).mono hext⟩
  have h1 := hget hm (by simp)
  exact ⟨zs, h1, rfl, (hg.inv.obj m _ _ _ h1).congr rfl fun _ _ h => h.mono hext, fun o => hg.inv.immSep m _ _ _ o h1⟩
theorem killFor_len (t : List SO) : ∀ (k : Nat) (l : List SO), (killFor t k l).length = l.length
  | _, [] => rfl
  | k, o :: l => by simp [killFor, killFor_len t (k + 1) l]
theorem topFor_len : ∀ (ts cs : List SV), (topFor ts cs).length = cs.length
  | [], cs => by cases cs <;> simp [topFor]
  | t :: ts, [] => by cases t <;> simp [topFor]
  | t :: ts, c :: cs => by cases t <;> simp [topFor, topFor_len ts cs]
theorem topFor_get : ∀ (ts cs : List SV) (j : Nat), (topFor ts cs)[j]? = cs[j]? ∨ (topFor ts cs)[j]? = some .top
  | [], cs, j => by cases cs <;> simp [topFor]
  | t :: ts, [], j => by cases t <;> simp [topFor]
  | t :: ts, c :: cs, j => by
    cases j with
    | zero => cases t <;> simp [topFor]
    | succ j => cases t <;> simpa [topFor] using topFor_get ts cs j
/-- an object that is known no better -/
inductive Blur : Option AObj → Option AObj → Prop
  | same (o) : Blur o o
  | dead (o) : Blur o (some .dead)
  | box (e s : Nat) (cs cs' : List AV) (hl : cs'.length = cs.length) (hc : ∀ j : Nat, cs'[j]? = cs[j]? ∨ cs'[j]? = some .top) : Blur (some (.live e s [.agg cs])) (some (.live e s [.agg cs']))
theorem WK.blur {n0 : Nat} {e : Env} {O O' : List AObj} (hlen : O'.length = O.length) (h : ∀ m : Nat, Blur O[m]? O'[m]?) : WK n0 e O e O' := by
  intro I0 L0 O0 w0 I L w f h0 hg hr
  have hnil : ∀ {m : Nat} {ee k}, O'[m]? = some (.nil ee k) → O[m]? = some (.nil ee k) := by
    intro m ee k ho
    have := h m
    rw [ho] at this
    generalize hq : O[m]? = q at this
    cases this
    rfl
  have hlive : ∀ {m : Nat} {ee k zs}, O'[m]? = some (.live ee k zs) → ∃ xs, O[m]? = some (.live ee k xs) ∧ xs.length = zs.length ∧ (xs = zs ∨ ∃ cs cs', xs = [.agg cs] ∧ zs = [.agg cs'] ∧ cs'.length = cs.length ∧ ∀ j : Nat, cs'[j]? = cs[j]? ∨ cs'[j]? = some .top) := by
    intro m ee k zs ho
    have := h m
    rw [ho] at this
    generalize hq : O[m]? = q at this
    cases this with
    | same => exact ⟨zs, rfl, rfl, .inl rfl⟩
    | box _ _ cs cs' hl hc => exact ⟨_, rfl, rfl, .inr ⟨cs, cs', rfl, rfl, hl, hc⟩⟩
  have hext : Ext I L O I L O' := ⟨fun _ _ _ h => h, by omega, fun m _ ee k zs hz => by
    obtain ⟨xs, h1, h2, _⟩ := hlive hz
    exact .inl ⟨xs, h1, by omega, fun _ => rfl⟩, fun m _ ee k h => hnil h, fun m _ a hm => ⟨⟨a, by
    have := h m
    rw [hm] at this
    generalize hq : O[m]? = q at this
    cases this
    rfl⟩, rfl⟩, fun m _ a hm => ⟨⟨a, by
    have := h m
    rw [hm] at this
    generalize hq : O[m]? = q at this
    cases this
    rfl, rfl⟩, rfl⟩⟩
  refine ⟨I, L, hg.turn (by omega) (fun _ _ _ h => h) (fun _ _ _ h => .inl h) (fun m ee k zs hm => ?_) (fun m ee k _ hm => hnil hm) (fun m a hm => by
    have := h m
    rw [hm] at this
    generalize hq : O[m]? = q at this
    cases this
    rfl) (fun m a hm => ⟨by
    have := h m
    rw [hm] at this
    generalize hq : O[m]? = q at this
    cases this
    rfl, fun _ _ h => h.mono hext⟩), fun t => (hr t).mono hext⟩
  obtain ⟨xs, h1, h2, h3⟩ := hlive hm
  refine ⟨xs, h1, h2, ?_, fun o => hg.inv.immSep m _ _ _ o h1⟩
  have ho := (hg.inv.obj m _ _ _ h1).congr rfl fun _ _ h => h.mono hext
  rcases h3 with rfl | ⟨cs, cs', rfl, rfl, hl, hc⟩
  · exact ho
  · obtain ⟨c, k1, k2, k3, k4, k5, k6⟩ := ho
    refine ⟨c, k1, k2, by simpa using k3, k4, k5, fun i x hx => ?_⟩
    match i, hx with
    | 0, hx =>
      simp at hx
      subst hx
      obtain ⟨q1, q2⟩ := k6 0 (.agg cs) rfl
      refine ⟨by simpa [AV.cells, hl] using q1, fun j a ha => ?_⟩
      simp only [AV.cells] at ha q2
      rcases hc j with hj | hj
      · exact q2 j a (by rw [← hj]; exact ha)
      · rw [hj] at ha
        cases ha
        have hjl : j < cs.length := by rw [← hl]; exact (List.getElem?_eq_some_iff.1 hj).1
        obtain ⟨y, y1, y2, _⟩ := q2 j cs[j] (List.getElem?_eq_getElem hjl)
        exact ⟨y, y1, y2, .top _⟩
theorem killFor_get (r : List AV) (t : List SO) : ∀ (k : Nat) (l : List SO) (m : Nat), Blur ((l.map (SO.ev r))[m]?) (((killFor t k l).map (SO.ev r))[m]?)
  | _, [], m => by simp only [killFor]; exact .same _
  | k, o :: l, m => by
    cases m with
    | zero =>
      simp only [killFor, List.map_cons, List.getElem?_cons_zero]
      unfold blurTo
      split
      · exact .dead _
      · split
        · split
          · rename_i e ts _ _ e' cs h2
            have h1 := topFor_len ts cs
            simp only [SO.ev, SV.evs_eq, h1]
            have ha : ∀ l : List SV, 2 ≤ l.length → mkA (l.map (SV.ev r)) = .agg (l.map (SV.ev r)) := fun l hl => by
              match l, hl with
              | a :: b :: l, _ => rfl
            rw [ha _ h2, ha _ (by omega)]
            refine .box _ _ _ _ (by simp [h1]) fun j => ?_
            simp only [List.getElem?_map]
            rcases topFor_get ts cs j with h | h
            · exact .inl (by rw [h])
            · exact .inr (by rw [h]; rfl)
          · exact .same _
        · exact .same _
      · exact .same _
    | succ m => simpa [killFor] using killFor_get r t (k + 1) l m
section
variable {rb m : List AV} {vs : List D} {base : Nat}
theorem inst_d (hb : rb.length = base) : ∀ (d e : D), (d.inst base vs).beq e = true → d.ev (rb ++ D.evs (rb ++ m) vs) = e.ev (rb ++ m) := by
  intro d e h
  cases d with
  | x i =>
    simp only [D.inst] at h
    split at h
    · rename_i hi
      have := D.beq_eq _ _ h
      subst this
      simp only [D.ev]
      rw [getD_left (by omega), getD_left (by omega)]
    · rename_i hi
      cases hv : vs[i - base]? with
      | none =>
        rw [List.getD, hv] at h
        simp only [Option.getD_none] at h
        cases e <;> simp [D.beq, AV.ceq] at h
      | some d' =>
        rw [List.getD, hv] at h
        simp only [Option.getD_some] at h
        have := D.beq_eq _ _ h
        subst this
        simp only [D.ev, List.getD]
        rw [List.getElem?_append_right (by omega), hb, D.evs_eq, List.getElem?_map, hv]
        rfl
  | _ =>
    simp only [D.inst] at h
    split at h
    · rename_i hcl
      have := D.beq_eq _ _ h
      subst this
      rw [D.ev_more _ (by rw [hb]; exact hcl), D.ev_more _ (by rw [hb]; exact hcl)]
    · cases e <;> simp [D.beq, AV.ceq] at h
theorem inst_sv (hb : rb.length = base) : ∀ (v w : SV), (v.inst base vs).beq w = true → v.ev (rb ++ D.evs (rb ++ m) vs) = w.ev (rb ++ m) := by
  intro v w h
  cases v with
  | d x => cases w <;> simp only [SV.inst, SV.beq, Bool.false_eq_true] at h; exact (inst_d hb _ _ h)
  | row n l =>
    cases w <;> simp only [SV.inst, SV.beq, Bool.false_eq_true, Bool.and_eq_true, decide_eq_true_eq] at h
    obtain ⟨rfl, h⟩ := h
    exact (by simp only [SV.ev, inst_d hb _ _ h])
  | ptr n f =>
    cases w <;> simp only [SV.inst, SV.beq, Bool.false_eq_true, Bool.and_eq_true, decide_eq_true_eq] at h
    obtain ⟨rfl, rfl⟩ := h
    rfl
  | rp n l i f =>
    cases w <;> simp only [SV.inst, SV.beq, Bool.false_eq_true, Bool.and_eq_true, decide_eq_true_eq] at h
    obtain ⟨⟨⟨rfl, h1⟩, h2⟩, rfl⟩ := h
    exact (by simp only [SV.ev, inst_d hb _ _ h1, inst_d hb _ _ h2])
  | ip x f =>
    cases w <;> simp only [SV.inst, SV.beq, Bool.false_eq_true, Bool.and_eq_true, decide_eq_true_eq] at h
    obtain ⟨h, rfl⟩ := h
    exact (by simp only [SV.ev, inst_d hb _ _ h])
  | agg cs =>
    simp only [SV.inst] at h
    split at h
    · rename_i hcl
      have := SV.beq_eq _ _ h
      subst this
      exact (by simp only [SV.ev]; rw [SV.evs_more cs (by rw [hb]; exact hcl), SV.evs_more cs (by rw [hb]; exact hcl)])
    · cases w <;> simp only [SV.beq, Bool.false_eq_true] at h
      rename_i e; cases e <;> simp [D.beq, AV.ceq] at h
  | tup cs =>
    simp only [SV.inst] at h
    split at h
    · rename_i hcl
      have := SV.beq_eq _ _ h
      subst this
      exact (by simp only [SV.ev]; rw [SV.evs_more cs (by rw [hb]; exact hcl), SV.evs_more cs (by rw [hb]; exact hcl)])
    · cases w <;> simp only [SV.beq, Bool.false_eq_true] at h
      rename_i e; cases e <;> simp [D.beq, AV.ceq] at h
  | top => cases w <;> simp only [SV.inst, SV.beq, Bool.false_eq_true] at h; rfl
theorem inst_svs (hb : rb.length = base) : ∀ (cs ds : List SV), SV.beqs (cs.map (SV.inst base vs)) ds = true → SV.evs (rb ++ D.evs (rb ++ m) vs) cs = SV.evs (rb ++ m) ds
  | [], [], _ => rfl
  | c :: cs, d :: ds, h => by
    simp only [List.map_cons, SV.beqs, Bool.and_eq_true] at h
    simp only [SV.evs, inst_sv hb c d h.1, inst_svs hb cs ds h.2]
  | [], _ :: _, h => by simp [SV.beqs] at h
  | _ :: _, [], h => by simp [SV.beqs] at h
theorem beqs_len : ∀ (cs ds : List SV), SV.beqs cs ds = true → cs.length = ds.length
  | [], [], _ => rfl
  | c :: cs, d :: ds, h => by
    simp only [SV.beqs, Bool.and_eq_true] at h
    simp [beqs_len cs ds h.2]
  | [], _ :: _, h => by simp [SV.beqs] at h
  | _ :: _, [], h => by simp [SV.beqs] at h
theorem inst_so (hb : rb.length = base) : ∀ (a b : SO), (a.inst base vs).beq b = true → a.ev (rb ++ D.evs (rb ++ m) vs) = b.ev (rb ++ m) := by
  intro a b h
  cases a with
  | dead => cases b <;> simp only [SO.inst, SO.beq, Bool.false_eq_true] at h; rfl
  | box e cs =>
    cases b <;> simp only [SO.inst, SO.beq, Bool.false_eq_true, Bool.and_eq_true, decide_eq_true_eq] at h
    obtain ⟨rfl, h⟩ := h
    have h2 := beqs_len _ _ h
    simp only [List.length_map] at h2
    simp only [SO.ev, inst_svs hb _ _ h, h2]
  | row nl e s l =>
    cases b <;> simp only [SO.inst, SO.beq, Bool.false_eq_true, Bool.and_eq_true, decide_eq_true_eq] at h
    obtain ⟨⟨⟨rfl, rfl⟩, rfl⟩, h⟩ := h
    cases nl <;> simp only [SO.ev, inst_d hb _ _ h]
end
mutual
theorem SV.sc_ev {k : Nat} {r : List AV} (hr : AV.norefs r = true) : ∀ (v : SV), v.sc k = true → v.cl r.length = true → (v.ev r).inScope k = true
  | .d x, _, h => noref_scoped _ (D.ev_noref hr x h)
  | .row n l, h, _ => h
  | .ptr n f, h, _ => h
  | .rp n l i f, h, _ => h
  | .ip x f, _, h => noref_scoped (.iptr (x.ev r) f) (D.ev_noref hr x h)
  | .agg cs, h, h' => by
    simp only [SV.sc] at h
    simp only [SV.cl] at h'
    exact SV.scs_ev hr cs h h'
  | .tup cs, h, h' => by
    simp only [SV.sc] at h
    simp only [SV.cl] at h'
    exact SV.scs_ev hr cs h h'
  | .top, _, _ => rfl
theorem SV.scs_ev {k : Nat} {r : List AV} (hr : AV.norefs r = true) : ∀ (l : List SV), SV.scs k l = true → SV.cls r.length l = true → AV.scopeds k (SV.evs r l) = true
  | [], _, _ => rfl
  | v :: l, h, h' => by
    simp only [SV.scs, Bool.and_eq_true] at h
    simp only [SV.cls, Bool.and_eq_true] at h'
    simp only [SV.evs, AV.scopeds, SV.sc_ev hr v h.1 h'.1, SV.scs_ev hr l h.2 h'.2]; rfl
end
theorem mkA_scoped {k : Nat} {l : List AV} (h : AV.scopeds k l = true) : (mkA l).inScope k = true := by
  unfold mkA
  split
  · simpa [AV.scopeds] using h
  · exact h
theorem SO.sc_ev {k : Nat} {r : List AV} (hr : AV.norefs r = true) (o : SO) (h : o.sc k = true) (h' : o.cl r.length = true) : (o.ev r).inScope k = true := by
  cases o with
  | dead => rfl
  | box e cs =>
    simp only [SO.ev, AObj.inScope, AV.scopeds, Bool.and_true]
    exact mkA_scoped (SV.scs_ev hr cs h h')
  | row nl e s l =>
    have := norefs_scopeds (k := k) _ (listOf_norefs (D.ev_noref hr l h'))
    cases nl
    · exact this
    · simp only [SO.ev]
      split
      · rfl
      · exact this
theorem lk_mem {l : List (Nat × SV)} {t : Nat} : lk l t = .top ∨ (t, lk l t) ∈ l := by
  induction l with
  | nil => exact .inl rfl
  | cons p l ih =>
    obtain ⟨k, v⟩ := p
    simp only [lk]
    split
    · rename_i h; subst h; exact .inr (by simp)
    · rcases ih with h | h
      · exact .inl h
      · exact .inr (by simp [h])
/-- WHAT IS HANDED TO A JOIN IS RIGHT. -/
theorem coerce_sound {n0 base : Nat} {s t : SS} {vs : List D} (h : coerce n0 base s t = some vs) {rb m : List AV} (hb : rb.length = base) (hl : (rb ++ m).length = s.nv) (hr : AV.norefs (rb ++ m) = true) :
    vs.length = t.nv - base ∧ More rb (rb ++ D.evs (rb ++ m) vs) t.nv ∧ WK n0 (stE s (rb ++ m)) (stO s (rb ++ m)) (stE t (rb ++ D.evs (rb ++ m) vs)) (stO t (rb ++ D.evs (rb ++ m) vs)) := by
  unfold coerce at h
  simp only at h
  split at h
  · cases h
  · rename_i vs' hvs
    split at h
    · rename_i hcnd
      cases h
      obtain ⟨c0, c1, c2, c3, c4, c5, c6, c7⟩ := hcnd
      have hlen : vs.length = t.nv - base := by
        have := (mapM_some hvs).1
        simpa using this
      have hn : AV.norefs (rb ++ D.evs (rb ++ m) vs) = true := by
        rw [norefs_append, Bool.and_eq_true] at hr ⊢
        exact ⟨hr.1, D.evs_noref (by rw [norefs_append, Bool.and_eq_true]; exact hr) vs (by rw [hl]; exact c4)⟩
      have hl2 : (rb ++ D.evs (rb ++ m) vs).length = t.nv := by
        rw [List.length_append, D.evs_eq, List.length_map, hlen, hb]; omega
      refine ⟨hlen, ⟨⟨_, rfl⟩, hl2, hn⟩, ?_⟩
      have hk1 : WK n0 (stE s (rb ++ m)) (stO s (rb ++ m)) (stE s (rb ++ m)) ((killFor t.objs 0 s.objs).map (SO.ev (rb ++ m))) := by
        exact WK.blur (by simp [stO, killFor_len]) fun j => killFor_get _ t.objs 0 s.objs j
      refine hk1.trans (WK.forget (k := t.objs.length) ?_ c0 (by simpa using c3) (fun ob ho => ?_) fun q => ?_)
      · apply List.ext_getElem?
        intro j
        simp only [stO, List.getElem?_take, List.getElem?_map]
        split
        · rename_i hj
          have hj2 : j < (killFor t.objs 0 s.objs).length := by omega
          have h1 : t.objs[j]? = some t.objs[j] := by simp [hj]
          have h2 : (killFor t.objs 0 s.objs)[j]? = some (killFor t.objs 0 s.objs)[j] := by simp [hj2]
          rw [h1, h2]
          have hz : (t.objs[j], (killFor t.objs 0 s.objs)[j]) ∈ t.objs.zip (killFor t.objs 0 s.objs) := by
            apply List.mem_of_getElem? (i := j)
            rw [List.getElem?_zip_eq_some]
            exact ⟨h1, h2⟩
          have := List.all_eq_true.1 c7 _ hz
          simp only [Bool.and_eq_true] at this
          simp only [Option.map_some, inst_so hb _ _ this.1]
        · rename_i hj
          rw [List.getElem?_eq_none (by omega)]; rfl
      · simp only [stO, List.mem_map] at ho
        obtain ⟨o, ho, rfl⟩ := ho
        refine SO.sc_ev hn o ?_ (by rw [hl2]; exact SS.cl_obj c5 ho)
        obtain ⟨j, hj⟩ := List.getElem?_of_mem ho
        have hjl := (List.getElem?_eq_some_iff.1 hj).1
        have h2 : (killFor t.objs 0 s.objs)[j]? = some ((killFor t.objs 0 s.objs)[j]'(by omega)) := by simp [show j < (killFor t.objs 0 s.objs).length by omega]
        have hz : (o, (killFor t.objs 0 s.objs)[j]'(by omega)) ∈ t.objs.zip (killFor t.objs 0 s.objs) := by
          apply List.mem_of_getElem? (i := j)
          rw [List.getElem?_zip_eq_some]
          exact ⟨hj, h2⟩
        have := List.all_eq_true.1 c7 _ hz
        simp only [Bool.and_eq_true] at this
        exact this.2
      · simp only [stE]
        rcases lk_mem (l := t.env) (t := q) with h | h
        · rw [h]; exact .inl rfl
        · have := List.all_eq_true.1 c6 _ h
          simp only [Bool.and_eq_true] at this
          exact .inr ⟨inst_sv hb _ _ this.1, SV.sc_ev hn _ this.2 (by rw [hl2]; exact SS.cl_env c5 q)⟩
    · cases h
end Go.Ab
/-
  THE SYMBOLIC WALK IS SOUND: regions, control, a function.
-/
namespace Go.Ab
section
variable {P : Program}
theorem More.trans {r r1 r2 : List AV} {n k : Nat} (h : More r r1 n) (k' : More r1 r2 k) : More r r2 k := by
  obtain ⟨m, rfl⟩ := h.pre
  obtain ⟨m', rfl⟩ := k'.pre
  exact ⟨⟨m ++ m', by simp⟩, k'.len, k'.nor⟩
theorem wpT_escN {L : AX → SS → List AV → Prop} {R : AV → Prop} {t : T} {r : List AV} : ∀ (Js S : List (List AV → Prop)), wpT P L R (escN Js.length t) r (Js ++ S) = wpT P L R t r S
  | [], S => rfl
  | J :: Js, S => by simp only [List.length_cons, escN, List.cons_append, wpT, wpT_escN Js S]
inductive Imps : List (List AV → Prop) → List (List AV → Prop) → Prop
  | nil : Imps [] []
  | cons {J J' : List AV → Prop} {S S' : List (List AV → Prop)} : (∀ vs, J vs → J' vs) → Imps S S' → Imps (J :: S) (J' :: S')
theorem Imps.refl : ∀ (S : List (List AV → Prop)), Imps S S
  | [] => .nil
  | _ :: S => .cons (fun _ h => h) (Imps.refl S)
theorem wpT_mono {L L' : AX → SS → List AV → Prop} {R R' : AV → Prop} (hL : ∀ x s r, L x s r → L' x s r) (hR : ∀ a, R a → R' a) : ∀ (t : T) {r : List AV} {S S' : List (List AV → Prop)}, Imps S S' → wpT P L R t r S → wpT P L' R' t r S'
  | .leaf x s, r, S, S', hs, h => hL _ _ _ h
  | .ret d, r, S, S', hs, h => hR _ h
  | .jump vs, r, S, S', hs, h => by
    cases hs with
    | nil => exact h
    | cons hJ _ => exact hJ _ h
  | .esc t, r, S, S', hs, h => by
    cases hs with
    | nil => exact h
    | cons _ hs => exact wpT_mono hL hR t hs h
  | .op o t, r, S, S', hs, h => PO.wp_imp h fun v hv => wpT_mono hL hR t hs hv
  | .chk c t, r, S, S', hs, h => Chk.wp_mono h fun h => wpT_mono hL hR t hs h
  | .ite c t f, r, S, S', hs, h => by
    simp only [wpT] at h ⊢
    split at h
    · exact ⟨fun hb => wpT_mono hL hR t hs (h.1 hb), fun hb => wpT_mono hL hR f hs (h.2 hb)⟩
    · exact h.elim
  | .bind k a b, r, S, S', hs, h => wpT_mono hL hR a (.cons (fun vs hv hk => wpT_mono hL hR b hs (hv hk)) hs) h
  | .loop init b, r, S, S', hs, h => by
    obtain ⟨J, n, h0, h1⟩ := h
    exact ⟨J, n, h0, fun n vs hJ hk => wpT_mono hL hR b (.cons (fun _ h => h) hs) (h1 n vs hJ hk)⟩
/-- what is filled in stands where the open ends were -/
theorem fill_sound {L : AX → SS → List AV → Prop} {R : AV → Prop} {k : AX → SS → Option T} : ∀ (t : T) {d : Nat} {t' : T}, t.fill k d = some t' → ∀ {r : List AV} {Js S : List (List AV → Prop)}, Js.length = d → wpT P L R t' r (Js ++ S) →
    wpT P (fun x s r' => ∃ t2, k x s = some t2 ∧ wpT P L R t2 r' S) R t r (Js ++ S)
  | .leaf x s, d, t', h, r, Js, S, hd, hw => by
    simp only [T.fill, Option.map_eq_some_iff] at h
    obtain ⟨t2, h1, rfl⟩ := h
    subst hd
    rw [wpT_escN] at hw
    exact ⟨t2, h1, hw⟩
  | .ret d', d, t', h, r, Js, S, hd, hw => by cases h; exact hw
  | .jump vs, d, t', h, r, Js, S, hd, hw => by
    simp only [T.fill] at h
    split at h
    · cases h
    · cases h; exact hw
  | .esc t, d, t', h, r, Js, S, hd, hw => by
    cases d with
    | zero => simp [T.fill] at h
    | succ d =>
      simp only [T.fill, Option.map_eq_some_iff] at h
      obtain ⟨t2, h1, rfl⟩ := h
      cases Js with
      | nil => cases hd
      | cons J Js =>
        simp only [List.cons_append, wpT] at hw ⊢
        exact fill_sound t h1 (by simpa using hd) hw
  | .op o t, d, t', h, r, Js, S, hd, hw => by
    simp only [T.fill, Option.map_eq_some_iff] at h
    obtain ⟨t2, h1, rfl⟩ := h
    exact PO.wp_imp (o := o) hw fun v hv => fill_sound t h1 hd hv
  | .chk c t, d, t', h, r, Js, S, hd, hw => by
    simp only [T.fill, Option.map_eq_some_iff] at h
    obtain ⟨t2, h1, rfl⟩ := h
    exact Chk.wp_mono (c := c) hw fun hv => fill_sound t h1 hd hv
  | .ite c t f, d, t', h, r, Js, S, hd, hw => by
    simp only [T.fill] at h
    split at h
    · rename_i t2 f2 h1 h2
      cases h
      simp only [wpT] at hw ⊢
      split at hw
      · exact ⟨fun hb => fill_sound t h1 hd (hw.1 hb), fun hb => fill_sound f h2 hd (hw.2 hb)⟩
      · exact hw.elim
    · cases h
  | .bind m a b, d, t', h, r, Js, S, hd, hw => by
    simp only [T.fill] at h
    split at h
    · rename_i a2 b2 h1 h2
      cases h
      simp only [wpT] at hw ⊢
      have := fill_sound a h1 (Js := _ :: Js) (by simpa using hd) hw
      exact wpT_mono (fun _ _ _ h => h) (fun _ h => h) a (.cons (fun vs hv hk => fill_sound b h2 hd (hv hk)) (.refl _)) this
    · cases h
  | .loop init b, d, t', h, r, Js, S, hd, hw => by
    simp only [T.fill, Option.map_eq_some_iff] at h
    obtain ⟨t2, h1, rfl⟩ := h
    obtain ⟨J, n, h0, h2⟩ := hw
    exact ⟨J, n, h0, fun n vs hJ hk => fill_sound b h1 (Js := _ :: Js) (by simpa using hd) (h2 n vs hJ hk)⟩
theorem fill0 {L : AX → SS → List AV → Prop} {R : AV → Prop} {k : AX → SS → Option T} {t t' : T} (h : t.fill k 0 = some t') {r : List AV} {S : List (List AV → Prop)} (hw : wpT P L R t' r S) :
    wpT P (fun x s r' => ∃ t2, k x s = some t2 ∧ wpT P L R t2 r' S) R t r S := fill_sound t h (Js := []) rfl hw
/- regions -/
theorem xStep_sound {op : AOp} {s : SS} {ns : List Node} {v : SV} {s' : SS} (h : xStep op s = some (ns, v, s')) {r : List AV} (hl : r.length = s.nv) (hr : AV.norefs r = true) {G : List AV → Prop} (hw : wpN P ns r G) {K : KT}
    (hk : ∀ r', G r' → More r r' s'.nv → stE s' r' = stE s r → K (v.ev r') (stO s' r')) : wpOp P op (stE s r) (stO s r) K := by
  unfold xStep at h
  split at h
  · rename_i h1
    split at h
    · rename_i ns2 v2 s2 hx
      split at h
      · rename_i h2
        cases h
        obtain ⟨c1, c2, c3, c4⟩ := h2
        refine xOp_ok h1.2 h1.1 c3 hx r hl h1.1 hr c1 K ?_
        refine wpN_more ns hr (by rw [hl]; exact c1) hw fun r' hm hG he => hk r' hG ⟨hm.pre, ?_, hm.nor⟩ he
        exact (hm.len.trans (by rw [hl])).trans c2
      · cases h
    · cases h
  · cases h
theorem set_same {e : Env} {t : Nat} {a : AV} (h : e t = a) : e.set t a = e := set_self h
theorem xOps_sound {fl : List Nat} {n0 : Nat} {L : AX → SS → List AV → Prop} {R : AV → Prop} {S : List (List AV → Prop)} {K : Env → List AObj → Prop} : ∀ (ops : List AOper) {s : SS} {t : T}, xOps fl true ops s = some t → ∀ {r : List AV}, r.length = s.nv → AV.norefs r = true →
    wpT P L R t r S → (∀ s' r', L .normal s' r' → More r r' s'.nv → K (stE s' r') (stO s' r')) → wpOpsW P n0 ops (stE s r) (stO s r) K
  | [], s, t, h, r, hl, hr, hw, hk => by
    simp only [xOps, Option.some.injEq] at h
    subst h
    exact ⟨_, _, .refl _ _ _, hk s r hw ⟨⟨[], by simp⟩, hl, hr⟩⟩
  | o :: ops, s, t, h, r, hl, hr, hw, hk => by
    have hpre : Wk n0 s (pre fl true o.op s) := pre_wk fl true o.op s
    have hwk := hpre.2 r hl hr
    have hl0 : r.length = (pre fl true o.op s).nv := hl.trans hpre.1.symm
    -- one operation, then the rest
    have step : ∀ {s0 : SS} {ns : List Node} {v : SV} {s' : SS} {t' : T}, xStep o.op s0 = some (ns, v, s') → xOps fl true ops (s'.setD o.dst v) = some t' → r.length = s0.nv → wpT P L R (wrap ns t') r S →
        wpOp P o.op (stE s0 r) (stO s0 r) fun x O' => wpOpsW P n0 ops (setD (stE s0 r) o.dst x) O' K := by
      intro s0 ns v s' t' hx ht hl0 hw
      rw [wpT_wrap] at hw
      refine xStep_sound hx hl0 hr hw fun r' hG hm he => ?_
      rw [← he, ← stE_setD, ← stO_setD s' o.dst v r']
      refine xOps_sound ops ht (by rw [nv_setD]; exact hm.len) hm.nor hG fun s2 r2 hL hm2 => hk s2 r2 hL (hm.trans hm2)
    have skip : ∀ {s0 : SS} {t' : T}, xOps fl true ops (s0.setD o.dst un) = some t' → r.length = s0.nv → wpT P L R t' r S → wpOpsW P n0 ops (setD (stE s0 r) o.dst (.tup [])) (stO s0 r) K := by
      intro s0 t' ht hl0 hw
      have : (un).ev r = .tup [] := rfl
      rw [← this, ← stE_setD, ← stO_setD s0 o.dst un r]
      exact xOps_sound ops ht (by rw [nv_setD]; exact hl0) hr hw hk
    simp only [xOps] at h
    simp only [wpOpsW]
    split at h
    · rename_i hg
      split at h
      · rename_i ns v s' hx
        simp only [Option.map_eq_some_iff] at h
        obtain ⟨t', ht, rfl⟩ := h
        refine ⟨_, _, hwk, ?_⟩
        rw [hg]
        exact step hx ht hl0 hw
      · cases h
    · rename_i g want hg
      split at h
      · rename_i b hb
        have heb : stE s r g = .v (.bool b) := by simp only [stE, hb]; rfl
        split at h
        · rename_i hbw
          split at h
          · rename_i b' hb'
            have heb' : stE (pre fl true o.op s) r g = .v (.bool b') := by simp only [stE, hb']; rfl
            split at h
            · rename_i hbw'
              subst hbw'
              split at h
              · rename_i ns v s' hx
                simp only [Option.map_eq_some_iff] at h
                obtain ⟨t', ht, rfl⟩ := h
                refine ⟨_, _, hwk, ?_⟩
                rw [hg]
                simp only [heb']
                rw [set_same heb']
                refine ⟨fun _ => step hx ht hl0 hw, fun h => ?_⟩
                cases b' <;> simp at h
              · cases h
            · cases h
          · cases h
        · rename_i hbw
          refine ⟨_, _, .refl _ _ _, ?_⟩
          rw [hg]
          simp only [heb]
          have hbn : b = !want := by cases b <;> cases want <;> simp_all
          refine ⟨fun h => (hbw h).elim, fun _ => ?_⟩
          rw [set_same (by rw [heb, hbn])]
          exact skip h hl hw
      · rename_i hb
        have heb : stE s r g = .tup [] := by simp only [stE, hb]; rfl
        refine ⟨_, _, .refl _ _ _, ?_⟩
        rw [hg]
        simp only [heb]
        exact skip h hl hw
      · split at h
        · rename_i c hc
          have hec : stE (pre fl true o.op s) r g = c.ev r := by simp only [stE, hc]; rfl
          split at h
          · rename_i ns v s' hx
            split at h
            · rename_i t1 t2 h1 h2
              simp only [Option.some.injEq] at h
              refine ⟨_, _, hwk, ?_⟩
              rw [hg]
              simp only [hec]
              have key : ∃ b, c.ev r = .v (.bool b) ∧ (b = want → wpT P L R (wrap ns t1) r S) ∧ (b = !want → wpT P L R t2 r S) := by
                subst h
                cases want
                · simp only [Bool.false_eq_true, if_false, wpT] at hw
                  split at hw
                  · rename_i b hb; exact ⟨b, hb, hw.2, fun h => hw.1 (by simpa using h)⟩
                  · exact hw.elim
                · simp only [if_true, wpT] at hw
                  split at hw
                  · rename_i b hb; exact ⟨b, hb, hw.1, fun h => hw.2 (by simpa using h)⟩
                  · exact hw.elim
              obtain ⟨b, hb, k1, k2⟩ := key
              simp only [hb]
              have e1 : ∀ b' : Bool, (stE (pre fl true o.op s) r).set g (.v (.bool b')) = stE ((pre fl true o.op s).set g (.d (.c (.v (.bool b'))))) r := fun b' => by rw [stE_set]; rfl
              refine ⟨fun hbw => ?_, fun hbw => ?_⟩
              · rw [e1]
                exact step hx h1 hl0 (k1 hbw)
              · rw [e1]
                exact skip h2 hl0 (k2 hbw)
            · cases h
          · cases h
        · cases h
      · cases h
/-- the same, where nothing may become less -/
theorem xOps_sound' {fl : List Nat} {L : AX → SS → List AV → Prop} {R : AV → Prop} {S : List (List AV → Prop)} {K : Env → List AObj → Prop} : ∀ (ops : List AOper) {s : SS} {t : T}, xOps fl false ops s = some t → ∀ {r : List AV}, r.length = s.nv → AV.norefs r = true →
    wpT P L R t r S → (∀ s' r', L .normal s' r' → More r r' s'.nv → K (stE s' r') (stO s' r')) → wpOps P ops (stE s r) (stO s r) K
  | [], s, t, h, r, hl, hr, hw, hk => by
    simp only [xOps, Option.some.injEq] at h
    subst h
    exact hk s r hw ⟨⟨[], by simp⟩, hl, hr⟩
  | o :: ops, s, t, h, r, hl, hr, hw, hk => by
    have hpre : pre fl false o.op s = s := rfl
    have step : ∀ {s0 : SS} {ns : List Node} {v : SV} {s' : SS} {t' : T}, xStep o.op s0 = some (ns, v, s') → xOps fl false ops (s'.setD o.dst v) = some t' → r.length = s0.nv → wpT P L R (wrap ns t') r S →
        wpOp P o.op (stE s0 r) (stO s0 r) fun x O' => wpOps P ops (setD (stE s0 r) o.dst x) O' K := by
      intro s0 ns v s' t' hx ht hl0 hw
      rw [wpT_wrap] at hw
      refine xStep_sound hx hl0 hr hw fun r' hG hm he => ?_
      rw [← he, ← stE_setD, ← stO_setD s' o.dst v r']
      refine xOps_sound' ops ht (by rw [nv_setD]; exact hm.len) hm.nor hG fun s2 r2 hL hm2 => hk s2 r2 hL (hm.trans hm2)
    have skip : ∀ {s0 : SS} {t' : T}, xOps fl false ops (s0.setD o.dst un) = some t' → r.length = s0.nv → wpT P L R t' r S → wpOps P ops (setD (stE s0 r) o.dst (.tup [])) (stO s0 r) K := by
      intro s0 t' ht hl0 hw
      have : (un).ev r = .tup [] := rfl
      rw [← this, ← stE_setD, ← stO_setD s0 o.dst un r]
      exact xOps_sound' ops ht (by rw [nv_setD]; exact hl0) hr hw hk
    simp only [xOps, hpre] at h
    simp only [wpOps]
    split at h
    · rename_i hg
      split at h
      · rename_i ns v s' hx
        simp only [Option.map_eq_some_iff] at h
        obtain ⟨t', ht, rfl⟩ := h
        rw [hg]
        exact step hx ht hl hw
      · cases h
    · rename_i g want hg
      split at h
      · rename_i b hb
        have heb : stE s r g = .v (.bool b) := by simp only [stE, hb]; rfl
        rw [hg]
        simp only [heb]
        split at h
        · rename_i hbw
          simp only [hb] at h
          rw [if_pos hbw] at h
          subst hbw
          split at h
          · rename_i ns v s' hx
            simp only [Option.map_eq_some_iff] at h
            obtain ⟨t', ht, rfl⟩ := h
            rw [set_same heb]
            refine ⟨fun _ => step hx ht hl hw, fun h => ?_⟩
            cases b <;> simp at h
          · cases h
        · rename_i hbw
          have hbn : b = !want := by cases b <;> cases want <;> simp_all
          refine ⟨fun h => (hbw h).elim, fun _ => ?_⟩
          rw [set_same (by rw [heb, hbn])]
          exact skip h hl hw
      · rename_i hb
        have heb : stE s r g = .tup [] := by simp only [stE, hb]; rfl
        rw [hg]
        simp only [heb]
        exact skip h hl hw
      · split at h
        · rename_i c hc
          have hec : stE s r g = c.ev r := by simp only [stE, hc]; rfl
          split at h
          · rename_i ns v s' hx
            split at h
            · rename_i t1 t2 h1 h2
              simp only [Option.some.injEq] at h
              rw [hg]
              simp only [hec]
              have key : ∃ b, c.ev r = .v (.bool b) ∧ (b = want → wpT P L R (wrap ns t1) r S) ∧ (b = !want → wpT P L R t2 r S) := by
                subst h
                cases want
                · simp only [Bool.false_eq_true, if_false, wpT] at hw
                  split at hw
                  · rename_i b hb; exact ⟨b, hb, hw.2, fun h => hw.1 (by simpa using h)⟩
                  · exact hw.elim
                · simp only [if_true, wpT] at hw
                  split at hw
                  · rename_i b hb; exact ⟨b, hb, hw.1, fun h => hw.2 (by simpa using h)⟩
                  · exact hw.elim
              obtain ⟨b, hb, k1, k2⟩ := key
              simp only [hb]
              have e1 : ∀ b' : Bool, (stE s r).set g (.v (.bool b')) = stE (s.set g (.d (.c (.v (.bool b'))))) r := fun b' => by rw [stE_set]; rfl
              refine ⟨fun hbw => ?_, fun hbw => ?_⟩
              · rw [e1]
                exact step hx h1 hl (k1 hbw)
              · rw [e1]
                exact skip h2 hl (k2 hbw)
            · cases h
          · cases h
        · cases h
      · cases h
/- regions that draw their order -/
theorem refs_noref {a : AV} (h : a.noref = true) : refs a = [] := by
  cases a <;> first | rfl | (simp [AV.noref] at h)
theorem rf_eq {s : SS} (hc : s.cl = true) {r : List AV} (hl : r.length = s.nv) (hr : AV.norefs r = true) (x : Opd) : refs (x.ev (stE s r)) = rfS s x := by
  cases x with
  | c a => rfl
  | t n =>
    simp only [Opd.ev, stE, rfS]
    have := SS.cl_env hc n
    generalize lk s.env n = v at this
    cases v <;> try rfl
    exact refs_noref (D.ev_noref hr _ (by rw [hl]; exact this))
theorem lab_eq {op : AOp} {s : SS} (hc : s.cl = true) {r : List AV} (hl : r.length = s.nv) (hr : AV.norefs r = true) : labOf op (stE s r) (stO s r).length = labS op s := by
  unfold labOf labS
  rw [show (fun x => refs (Opd.ev (stE s r) x)) = rfS s from funext fun x => rf_eq hc hl hr x, stO_len]
theorem xStep_cl {op : AOp} {s : SS} {q} (h : xStep op s = some q) : s.cl = true := by
  unfold xStep at h
  split at h
  · rename_i h1; exact h1.1
  · cases h
theorem xOpsL_sound {rows : List (List Nat)} {all : List AOper} {L : AX → SS → List AV → Prop} {R : AV → Prop} {S : List (List AV → Prop)} {K : Env → List AObj → Prop} : ∀ (ops : List AOper) {acc : List Lab} {s : SS} {t : T}, xOpsL rows all ops acc s = some t → ∀ {r : List AV}, r.length = s.nv → AV.norefs r = true →
    wpT P L R t r S → (∀ s' r', L .normal s' r' → More r r' s'.nv → K (stE s' r') (stO s' r')) → wpOpsL P ops acc (stE s r) (stO s r) fun labs e O => drawOkL rows (all.zip labs) = true ∧ K e O
  | [], acc, s, t, h, r, hl, hr, hw, hk => by
    simp only [xOpsL] at h
    split at h
    · rename_i hd
      simp only [Option.some.injEq] at h
      subst h
      simp only [wpOpsL]
      exact ⟨hd, hk s r hw ⟨⟨[], by simp⟩, hl, hr⟩⟩
    · cases h
  | o :: ops, acc, s, t, h, r, hl, hr, hw, hk => by
    have step : ∀ {s0 : SS} {ns : List Node} {v : SV} {s' : SS} {t' : T} {acc' : List Lab}, xStep o.op s0 = some (ns, v, s') → xOpsL rows all ops acc' (s'.setD o.dst v) = some t' → r.length = s0.nv → wpT P L R (wrap ns t') r S →
        wpOp P o.op (stE s0 r) (stO s0 r) fun x O' => wpOpsL P ops acc' (setD (stE s0 r) o.dst x) O' fun labs e O => drawOkL rows (all.zip labs) = true ∧ K e O := by
      intro s0 ns v s' t' acc' hx ht hl0 hw
      rw [wpT_wrap] at hw
      refine xStep_sound hx hl0 hr hw fun r' hG hm he => ?_
      rw [← he, ← stE_setD, ← stO_setD s' o.dst v r']
      refine xOpsL_sound ops ht (by rw [nv_setD]; exact hm.len) hm.nor hG fun s2 r2 hL hm2 => hk s2 r2 hL (hm.trans hm2)
    have skip : ∀ {s0 : SS} {t' : T} {acc' : List Lab}, xOpsL rows all ops acc' (s0.setD o.dst un) = some t' → r.length = s0.nv → wpT P L R t' r S → wpOpsL P ops acc' (setD (stE s0 r) o.dst (.tup [])) (stO s0 r) fun labs e O => drawOkL rows (all.zip labs) = true ∧ K e O := by
      intro s0 t' acc' ht hl0 hw
      have : (un).ev r = .tup [] := rfl
      rw [← this, ← stE_setD, ← stO_setD s0 o.dst un r]
      exact xOpsL_sound ops ht (by rw [nv_setD]; exact hl0) hr hw hk
    simp only [xOpsL] at h
    simp only [wpOpsL]
    split at h
    · rename_i hg
      split at h
      · rename_i ns v s' hx
        simp only [Option.map_eq_some_iff] at h
        obtain ⟨t', ht, rfl⟩ := h
        rw [hg]
        simp only [lab_eq (xStep_cl hx) hl hr]
        exact step hx ht hl hw
      · cases h
    · rename_i g want hg
      split at h
      · rename_i b hb
        have heb : stE s r g = .v (.bool b) := by simp only [stE, hb]; rfl
        rw [hg]
        simp only [heb]
        split at h
        · rename_i hbw
          subst hbw
          split at h
          · rename_i ns v s' hx
            simp only [Option.map_eq_some_iff] at h
            obtain ⟨t', ht, rfl⟩ := h
            rw [set_same heb]
            refine ⟨fun _ => ?_, fun h => ?_⟩
            · simp only [lab_eq (xStep_cl hx) hl hr]
              exact step hx ht hl hw
            · cases b <;> simp at h
          · cases h
        · rename_i hbw
          have hbn : b = !want := by cases b <;> cases want <;> simp_all
          refine ⟨fun h => (hbw h).elim, fun _ => ?_⟩
          rw [set_same (by rw [heb, hbn])]
          exact skip h hl hw
      · rename_i hb
        have heb : stE s r g = .tup [] := by simp only [stE, hb]; rfl
        rw [hg]
        simp only [heb]
        exact skip h hl hw
      · rename_i c _ _ hc
        have hec : stE s r g = c.ev r := by simp only [stE, hc]; rfl
        split at h
        · rename_i ns v s' hx
          split at h
          · rename_i t1 t2 h1 h2
            simp only [Option.some.injEq] at h
            rw [hg]
            simp only [hec]
            have key : ∃ b, c.ev r = .v (.bool b) ∧ (b = want → wpT P L R (wrap ns t1) r S) ∧ (b = !want → wpT P L R t2 r S) := by
              subst h
              cases want
              · simp only [Bool.false_eq_true, if_false, wpT] at hw
                split at hw
                · rename_i b hb; exact ⟨b, hb, hw.2, fun h => hw.1 (by simpa using h)⟩
                · exact hw.elim
              · simp only [if_true, wpT] at hw
                split at hw
                · rename_i b hb; exact ⟨b, hb, hw.1, fun h => hw.2 (by simpa using h)⟩
                · exact hw.elim
            obtain ⟨b, hb, k1, k2⟩ := key
            simp only [hb]
            have e1 : ∀ b' : Bool, (stE s r).set g (.v (.bool b')) = stE (s.set g (.d (.c (.v (.bool b'))))) r := fun b' => by rw [stE_set]; rfl
            have e2 : ∀ b' : Bool, stO s r = stO (s.set g (.d (.c (.v (.bool b'))))) r := fun b' => rfl
            refine ⟨fun hbw => ?_, fun hbw => ?_⟩
            · rw [e1, e2 want]
              simp only [lab_eq (s := s.set g (.d (.c (.v (.bool want))))) (xStep_cl hx) hl hr]
              exact step hx h1 hl (k1 hbw)
            · rw [e1, e2 (!want)]
              exact skip h2 hl (k2 hbw)
          · cases h
        · cases h
      · cases h
theorem keep_wk {n0 : Nat} (s : SS) (t m : Nat) : Wk n0 s { s with objs := s.objs ++ [.row true t m (.c (.sl []))] } := by
  refine ⟨rfl, fun r hl hr => ?_⟩
  refine WK.nilrow t m (by simp [stO]) (by simp [stO, SO.ev, D.ev, listOf]) (fun j hj => .inl ?_) fun q => .inl rfl
  simp only [stO, List.map_append]
  rw [List.getElem?_append_left (by simpa [stO] using hj)]
theorem keepFor_spec {n0 : Nat} : ∀ (ops : List AOper) (s : SS), Wk n0 s (keepFor ops s).2 ∧ (keepFor ops s).1.map AOper.strip = ops.map AOper.strip
  | [], s => ⟨.refl _ _, rfl⟩
  | o :: r, s => by
    obtain ⟨g, d, op⟩ := o
    simp only [keepFor]
    split
    · rename_i _ t m z
      obtain ⟨h1, h2⟩ := keepFor_spec (n0 := n0) r { s with objs := s.objs ++ [.row true t m (.c (.sl []))] }
      exact ⟨(keep_wk s t m).trans h1, by simp only [List.map_cons, h2]; rfl⟩
    · rename_i _ t m x
      obtain ⟨h1, h2⟩ := keepFor_spec (n0 := n0) r { s with objs := s.objs ++ [.row true t m (.c (.sl []))] }
      exact ⟨(keep_wk s t m).trans h1, by simp only [List.map_cons, h2]; rfl⟩
    · rename_i _ t m len z ps
      obtain ⟨h1, h2⟩ := keepFor_spec (n0 := n0) r { s with objs := s.objs ++ [.row true t m (.c (.sl []))] }
      exact ⟨(keep_wk s t m).trans h1, by simp only [List.map_cons, h2]; rfl⟩
    · obtain ⟨h1, h2⟩ := keepFor_spec (n0 := n0) r s
      exact ⟨h1, by simp only [List.map_cons, h2]⟩
theorem draws_spec {rows : List (List Nat)} {ops : List AOper} {n0 : Nat} : ∀ (n : Nat) {s s1 : SS} {al : List AOper} {t : T}, draws rows ops n s = some (s1, al, t) → Wk n0 s s1 ∧ al.map AOper.strip = ops.map AOper.strip ∧ xOpsL rows al al [] s1 = some t
  | 0, s, s1, al, t, h => by simp [draws] at h
  | n + 1, s, s1, al, t, h => by
    simp only [draws] at h
    split at h
    · rename_i t0 ht
      cases h
      exact ⟨.refl _ _, rfl, ht⟩
    · split at h
      · split at h
        · rename_i t0 ht
          cases h
          obtain ⟨h1, h2⟩ := keepFor_spec (n0 := n0) ops s
          exact ⟨h1, h2, ht⟩
        · cases h
      · obtain ⟨q1, q2⟩ := draws_spec n h
        exact ⟨(frzAll_wk _ _).trans q1, q2⟩
end
end Go.Ab
/-
  THE SYMBOLIC WALK IS SOUND: FROM THE PROGRAM THAT IS LEFT TO THE CONTRACT.
-/
namespace Go.Ab
section
variable {P : Program}
theorem keepS_lk (live : List Nat) (s : SS) (t : Nat) : lk (keepS live s).env t = if live.contains t = true then lk s.env t else .top := by
  have key : ∀ (l : List Nat), lk (l.filterMap fun t => match lk s.env t with | .top => none | v => some (t, v)) t = if l.contains t = true then lk s.env t else .top := by
    intro l
    induction l with
    | nil => rfl
    | cons q l ih =>
      simp only [List.filterMap_cons, List.contains_cons]
      by_cases hq : t = q
      · subst hq
        simp only [BEq.rfl, Bool.true_or, if_true]
        split
        · rename_i h
          split at h
          · rename_i h2
            rw [h2] at ih ⊢
            rw [ih]; simp
          · cases h
        · rename_i p h
          split at h
          · cases h
          · cases h; simp [lk]
      · have hb : (t == q) = false := by simpa using hq
        simp only [hb, Bool.false_or]
        split
        · exact ih
        · rename_i p h
          split at h
          · cases h
          · cases h
            simp only [lk, if_neg hq]
            exact ih
  exact key live
theorem keepS_ev (live : List Nat) (s : SS) (r : List AV) : stE (keepS live s) r = keepE live (stE s r) := by
  funext t
  simp only [stE, keepS_lk, keepE]
  split <;> rfl
theorem headOf_spec {n0 : Nat} {body : SS → Option T} : ∀ (n : Nat) {s h s1 h1 : SS} {t : T}, headOf body n s h = some (s1, h1, t) → Wk n0 s s1 ∧ body h1 = some t
  | 0, s, h, s1, h1, t, hh => by simp [headOf] at hh
  | n + 1, s, h, s1, h1, t, hh => by
    simp only [headOf] at hh
    split at hh
    · cases hh
    · rename_i t0 hb
      split at hh
      · rename_i c hc
        split at hh
        · cases hh
        · obtain ⟨q1, q2⟩ := headOf_spec n hh
          exact ⟨(conv_wk s c).trans q1, q2⟩
      · split at hh
        · cases hh; exact ⟨.refl _ _, hb⟩
        · exact headOf_spec n hh
theorem convLoop_spec {n0 : Nat} {body : SS → Option T} : ∀ (n : Nat) {s s1 : SS} {t : T}, convLoop body n s = some (s1, t) → Wk n0 s s1 ∧ body s1 = some t
  | 0, s, s1, t, hh => by simp [convLoop] at hh
  | n + 1, s, s1, t, hh => by
    simp only [convLoop] at hh
    split at hh
    · cases hh
    · rename_i t0 hb
      split at hh
      · split at hh
        · rename_i c hc
          obtain ⟨q1, q2⟩ := convLoop_spec n hh
          exact ⟨(conv_wk s c).trans q1, q2⟩
        · cases hh; exact ⟨.refl _ _, hb⟩
      · cases hh; exact ⟨.refl _ _, hb⟩
theorem drawn_eq {b : ACode} {q : List (List Nat) × List AOper} (h : b.drawn = some q) : b = .region (some q.1) q.2 := by
  cases b <;> simp only [ACode.drawn, reduceCtorEq] at h
  rename_i d ops
  cases d <;> simp only [reduceCtorEq, Option.some.injEq] at h
  subst h; rfl
theorem isWeak_eq {b : ACode} (h : b.isWeak = true) : ∃ c, b = .weak c := by
  cases b <;> first | exact ⟨_, rfl⟩ | (simp [ACode.isWeak] at h)
theorem xC_sound {n0 : Nat} {fl : List Nat} (c : ACode) : ∀ {s : SS} {t : T}, xC n0 fl c s = some t → ∀ {r : List AV}, r.length = s.nv → AV.norefs r = true → ∀ {L : AX → SS → List AV → Prop} {R : AV → Prop} {S : List (List AV → Prop)} {Q : AX → Env → List AObj → Prop},
    wpT P L R t r S → (∀ x s' r', L x s' r' → More r r' s'.nv → Q x (stE s' r') (stO s' r')) → wpC P n0 c Q (stE s r) (stO s r) := by
  induction c with
  | skip =>
    intro s t h r hl hr L R S Q hw hq
    simp only [xC, Option.some.injEq] at h
    subst h
    exact hq _ _ _ hw ⟨⟨[], by simp⟩, hl, hr⟩
  | region d ops =>
    intro s t h r hl hr L R S Q hw hq
    cases d with
    | none => exact xOps_sound' ops h hl hr hw fun s' r' hL hm => hq _ _ _ hL hm
    | some rows => exact ⟨ops, rfl, xOpsL_sound ops h hl hr hw fun s' r' hL hm => hq _ _ _ hL hm⟩
  | regionW ops =>
    intro s t h r hl hr L R S Q hw hq
    exact xOps_sound ops h hl hr hw fun s' r' hL hm => hq _ _ _ hL hm
  | exit id =>
    intro s t h r hl hr L R S Q hw hq
    simp only [xC, Option.some.injEq] at h
    subst h
    exact hq _ _ _ hw ⟨⟨[], by simp⟩, hl, hr⟩
  | ret =>
    intro s t h r hl hr L R S Q hw hq
    simp only [xC, Option.some.injEq] at h
    subst h
    exact hq _ _ _ hw ⟨⟨[], by simp⟩, hl, hr⟩
  | seq a b iha ihb =>
    intro s t h r hl hr L R S Q hw hq
    simp only [xC] at h
    split at h
    · cases h
    · rename_i t0 ha
      split at h
      · rename_i hcnd
        obtain ⟨b', rfl⟩ := isWeak_eq hcnd.1
        split at h
        · rename_i t1 t2 h1 h2
          cases h
          simp only [wpT] at hw
          have hf := fill0 h1 hw
          refine iha ha hl hr hf fun x s' r' hL hm => ?_
          obtain ⟨t3, e3, w3⟩ := hL
          have oth : ∀ {x'}, t3 = .esc (.leaf x' s') → x' = x → Q x (stE s' r') (stO s' r') := by
            intro x' h3 hx
            subst h3; subst hx
            simp only [wpT] at w3
            exact hq _ _ _ w3 hm
          cases x with
          | exit i => cases e3; exact oth rfl rfl
          | ret => cases e3; exact oth rfl rfl
          | normal =>
            simp only [Option.map_eq_some_iff] at e3
            obtain ⟨vs, hco, rfl⟩ := e3
            simp only [wpT] at w3
            obtain ⟨m, rfl⟩ := hm.pre
            obtain ⟨c1, c2, c3⟩ := coerce_sound hco hl hm.len hm.nor
            have w4 := w3 (by rw [D.evs_eq, List.length_map, c1])
            obtain ⟨e', O', hwk, hc'⟩ := ihb h2 c2.len c2.nor w4 fun x s2 r2 hL2 hm2 => hq x s2 r2 hL2 (c2.trans hm2)
            exact ⟨e', O', c3.trans hwk, hc'⟩
        · cases h
      · have hf := fill0 h hw
        refine iha ha hl hr hf fun x s' r' hL hm => ?_
        obtain ⟨t3, e3, w3⟩ := hL
        cases x with
        | exit i => cases e3; exact hq _ _ _ w3 hm
        | ret => cases e3; exact hq _ _ _ w3 hm
        | normal => exact ihb e3 hm.len hm.nor w3 fun x s2 r2 hL2 hm2 => hq x s2 r2 hL2 (hm.trans hm2)
  | cond c a b iha ihb =>
    intro s t h r hl hr L R S Q hw hq
    simp only [xC] at h
    simp only [wpC, ← opd_ev]
    split at h
    · rename_i bb hc
      rw [hc]
      simp only [SV.ev, D.ev]
      split at h
      · rename_i hb
        refine ⟨fun _ => iha h hl hr hw hq, fun h => ?_⟩
        rw [hb] at h; cases h
      · rename_i hb
        refine ⟨fun h => (hb h).elim, fun _ => ihb h hl hr hw hq⟩
    · rename_i d _ hc
      split at h
      · rename_i t1 t2 h1 h2
        split at h
        · cases h
          rw [hc]
          simp only [wpT] at hw
          simp only [SV.ev]
          split at hw
          · rename_i bb hb
            rw [hb]
            exact ⟨fun h => iha h1 hl hr (hw.1 h) hq, fun h => ihb h2 hl hr (hw.2 h) hq⟩
          · exact hw.elim
        · cases h
      · cases h
    · cases h
  | block id b ih =>
    intro s t h r hl hr L R S Q hw hq
    simp only [xC] at h
    split at h
    · cases h
    · rename_i t0 hb
      have hf := fill0 h hw
      refine ih hb hl hr hf fun x s' r' hL hm => ?_
      obtain ⟨t3, e3, w3⟩ := hL
      cases x with
      | normal => cases e3; exact hq _ _ _ w3 hm
      | ret => cases e3; exact hq _ _ _ w3 hm
      | exit i =>
        simp only [Option.some.injEq] at e3
        simp only
        split
        · rename_i hi
          rw [if_pos hi] at e3; subst e3; exact hq _ _ _ w3 hm
        · rename_i hi
          rw [if_neg hi] at e3; subst e3; exact hq _ _ _ w3 hm
  | loop b ih =>
    intro s t h r hl hr L R S Q hw hq
    simp only [xC] at h
    split at h
    · cases h
    · rename_i s1 hd t0 hh
      obtain ⟨hwk, hb⟩ := headOf_spec 8 hh
      split at h
      · rename_i init hco
        split at h
        · rename_i t1 h1
          cases h
          obtain ⟨J, n, hJ0, hround⟩ := hw
          have hl1 : r.length = s1.nv := hl.trans hwk.1.symm
          obtain ⟨c1, c2, c3⟩ := coerce_sound (rb := r) (m := []) hco hl1 (by simpa using hl1) (by simpa using hr)
          simp only [List.append_nil] at c1 c2 c3
          refine ⟨fun n e O => ∃ vs, J n vs ∧ vs.length = init.length ∧ More r (r ++ vs) hd.nv ∧ e = stE hd (r ++ vs) ∧ O = stO hd (r ++ vs), n, ⟨_, _, (hwk.2 r hl hr).trans c3, D.evs r init, hJ0, by rw [D.evs_eq, List.length_map], c2, rfl, rfl⟩, ?_⟩
          rintro n e O ⟨vs, hJ, hlen, hm0, rfl, rfl⟩
          have hf := fill0 h1 (hround n vs hJ hlen)
          refine ih hb hm0.len hm0.nor hf fun x s' r' hL hm => ?_
          obtain ⟨t3, e3, w3⟩ := hL
          cases x with
          | exit i => cases e3; simp only [wpT] at w3; exact hq _ _ _ w3 (hm0.trans hm)
          | ret => cases e3; simp only [wpT] at w3; exact hq _ _ _ w3 (hm0.trans hm)
          | normal =>
            simp only [Option.map_eq_some_iff] at e3
            obtain ⟨vs', hco', rfl⟩ := e3
            simp only [wpT] at w3
            obtain ⟨m', hlt, hJ'⟩ := w3
            obtain ⟨m2, rfl⟩ := hm.pre
            have hmn := hm.nor
            have hml := hm.len
            rw [List.append_assoc] at hmn hml hJ' ⊢
            obtain ⟨d1, d2, d3⟩ := coerce_sound (rb := r) (m := vs ++ m2) hco' hl1 hml hmn
            exact ⟨m', _, _, hlt, d3, _, hJ', by rw [D.evs_eq, List.length_map, d1, c1], d2, rfl, rfl⟩
        · cases h
      · cases h
  | keep live c ih =>
    intro s t h r hl hr L R S Q hw hq
    simp only [xC] at h
    split at h
    · cases h
    · rename_i t0 hb
      have hf := fill0 h hw
      refine ih hb hl hr hf fun x s' r' hL hm => ?_
      obtain ⟨t3, e3, w3⟩ := hL
      cases x with
      | exit i => cases e3; exact hq _ _ _ w3 hm
      | ret => cases e3; exact hq _ _ _ w3 hm
      | normal =>
        cases e3
        simp only
        rw [← keepS_ev]
        exact hq _ _ _ w3 hm
  | weak c ih =>
    intro s t h r hl hr L R S Q hw hq
    simp only [xC] at h
    split at h
    · split at h
      · rename_i q hc
        obtain ⟨s1, t1⟩ := q
        cases h
        obtain ⟨hwk, hb⟩ := convLoop_spec 6 hc
        exact ⟨_, _, hwk.2 r hl hr, ih hb (hl.trans hwk.1.symm) hr hw hq⟩
      · cases h
    · split at h
      · rename_i q hd
        simp only [Option.map_eq_some_iff] at h
        obtain ⟨⟨s1, al, t1⟩, hdr, rfl⟩ := h
        obtain ⟨hwk, hst, hx⟩ := draws_spec (n0 := n0) 6 hdr
        have hc := drawn_eq hd
        subst hc
        exact ⟨_, _, hwk.2 r hl hr, al, hst, xOpsL_sound al hx (hl.trans hwk.1.symm) hr hw fun s' r' hL hm => hq _ _ _ hL hm⟩
      · exact ⟨_, _, .refl _ _ _, ih h hl hr hw hq⟩
/- the code of a function -/
theorem weaken_strip : ∀ (c : ACode), c.weaken.strip = c.strip
  | .skip => rfl
  | .region none ops => rfl
  | .region (some rows) ops => rfl
  | .seq a b => by simp only [ACode.weaken, ACode.strip, weaken_strip a, weaken_strip b]
  | .cond c t f => by simp only [ACode.weaken, ACode.strip, weaken_strip t, weaken_strip f]
  | .block id b => by simp only [ACode.weaken, ACode.strip, weaken_strip b]
  | .loop b => by simp only [ACode.weaken, ACode.strip, weaken_strip b]
  | .exit id => rfl
  | .ret => rfl
  | .keep l c => by simp only [ACode.weaken, ACode.strip, weaken_strip c]
  | .weak c => by simp only [ACode.weaken, ACode.strip, weaken_strip c]
  | .regionW ops => rfl
def AFn.weaken (A : AFn) : AFn := { A with code := .weak A.code.weaken }
theorem cFn.weaken {f : FuncId} {A : AFn} (h : cFn P f A) : cFn P f A.weaken := by
  obtain ⟨fn, code, h1, h2, h3, h4, h5, h6, h7⟩ := h
  exact ⟨fn, code, h1, h2, h3, h4, h5, h6.trans (congrArg some (weaken_strip A.code).symm), h7⟩
/- results -/
def entryS (n : Nat) : SS := ⟨(List.range n).map fun i => (i, .d (.x i)), [], n, []⟩
theorem entry_ev (args : List AV) : ∀ t, stE (entryS args.length) args t = .top ∨ stE (entryS args.length) args t = entryE args t := by
  intro t
  have key : ∀ (n k : Nat), lk ((List.range' k n).map fun i => (i, SV.d (.x i))) t = if k ≤ t ∧ t < k + n then .d (.x t) else .top := by
    intro n
    induction n with
    | zero => intro k; rw [if_neg (by omega)]; rfl
    | succ n ih =>
      intro k
      simp only [List.range'_succ, List.map_cons, lk, ih]
      by_cases h : t = k
      · subst h; simp
      · rw [if_neg h]
        by_cases h2 : k + 1 ≤ t ∧ t < k + 1 + n
        · rw [if_pos h2, if_pos (by omega)]
        · rw [if_neg h2, if_neg (by omega)]
  simp only [stE, entryS, List.range_eq_range']
  rw [key]
  split
  · rename_i h
    refine .inr ?_
    simp only [SV.ev, D.ev, entryE, List.getD]
    have : t < args.length := by omega
    rw [List.getElem?_eq_getElem this]; rfl
  · exact .inl rfl
/-- rows are read as what they hold, one level deep -/
inductive Fin1 (O : List AObj) : AV → AV → Prop
  | refl (a : AV) : a.noref = true → Fin1 O a a
  | row (n t s : Nat) (xs : List AV) : (O[n]? = some (.live t s xs) ∨ (O[n]? = some (.nil t s) ∧ xs = [])) → AV.norefs xs = true → Fin1 O (.row n xs.length) (.sl xs)
  | agg (cs ds : List AV) : cs.length = ds.length → (∀ (i : Nat) c d, cs[i]? = some c → ds[i]? = some d → Fin1 O c d) → Fin1 O (.agg cs) (.agg ds)
  | tup (cs ds : List AV) : cs.length = ds.length → (∀ (i : Nat) c d, cs[i]? = some c → ds[i]? = some d → Fin1 O c d) → Fin1 O (.tup cs) (.tup ds)
theorem Fin1.sound {I : Imm} {L : Nat → Loc} {O : List AObj} {w : World} (hi : Inv I L O w) {a b : AV} (h : Fin1 O a b) : ∀ {x : Value}, R I L O a x → R (allI I L O w) L [] b x := by
  induction h with
  | refl a hn => intro x hr; exact hr.noref (allI_le hi) hn
  | row n t s xs hO hn =>
    intro x hr
    rcases hO with hO | ⟨hO, rfl⟩
    · have := hr.row_live hO rfl
      subst this
      obtain ⟨c, ⟨m0z, h1, hm0z⟩, h2, h3, h4, h5, h6⟩ := hi.obj n t s xs hO
      have hlb : LB L O (L n).blk := .inl ⟨n, t, s, xs, hO, rfl⟩
      by_cases hx : xs = []
      · subst hx; exact .sl0 _ _
      · refine (.sl xs (L n).blk 0 (L n).cap s (fun i j => (c[i * s + j]?).getD undef) h3 hx (fun i x hx => (h6 i x hx).1) (fun i x j d hx hj => ?_) fun i x j d hx hj => ?_)
        · obtain ⟨y, hy, ho, _⟩ := (h6 i x hx).2 j d hj
          unfold allI
          rw [if_pos hlb, Nat.zero_add, cell_cells h1, hy]
          exact ⟨rfl, ho⟩
        · obtain ⟨y, hy, ho, hr'⟩ := (h6 i x hx).2 j d hj
          rw [hy]
          exact hr'.noref (allI_le hi) (noref_cells (norefs_mem hn x (List.mem_of_getElem? hx)) d (List.mem_of_getElem? hj))
    · obtain ⟨rfl, _⟩ := hr.row_nil hO
      exact .sl0 _ _
  | agg cs ds h _ ih =>
    intro x hr
    cases hr with
    | agg _ vs hl hr =>
      refine .agg _ _ (by omega) fun i d v hd hv => ?_
      have hc : cs[i]? = some (cs[i]'(by have := (List.getElem?_eq_some_iff.1 hd).1; omega)) := by simp
      exact ih i _ _ hc hd (hr i _ v hc hv)
  | tup cs ds h _ ih =>
    intro x hr
    cases hr with
    | tup _ vs hl hr =>
      refine .tup _ _ (by omega) fun i d v hd hv => ?_
      have hc : cs[i]? = some (cs[i]'(by have := (List.getElem?_eq_some_iff.1 hd).1; omega)) := by simp
      exact ih i _ _ hc hd (hr i _ v hc hv)
theorem retK_fin {rs : List ARes} {res : AV} {x : AX} (hx : x = .ret ∨ x = .normal) {e : Env} {O : List AObj} (h : resK e O rs [] fun xs => Fin1 O (packR xs) res) : retK 0 rs res [] x e O := by
  have key : ∀ (rs : List ARes) (acc : List AV) (M M' : List AV → Prop), (∀ xs, M xs → M' xs) → resK e O rs acc M → resK e O rs acc M' := by
    intro rs
    induction rs with
    | nil => intro acc M M' hm h; exact hm _ h
    | cons r rs ih =>
      intro acc M M' hm h
      cases r with
      | tmp t => exact ih _ _ _ hm h
      | cell t n =>
        simp only [resK, ARes.get] at h ⊢
        split at h
        · split at h
          · exact ⟨h.1, ih _ _ _ hm h.2⟩
          · exact h.elim
        · exact h.elim
  have : resK e O rs [] fun xs => ∃ e', WK 0 (fun t => if t = 0 then packR xs else .top) O e' [] ∧ e' 0 = res := by
    refine key rs _ _ _ (fun xs hp => ⟨fun t => if t = 0 then res else .top, ?_, rfl⟩) h
    intro I0 L0 O0 w0 I L w f hl hg hr
    obtain rfl : O0 = [] := List.eq_nil_of_length_eq_zero hl
    refine ⟨_, L, hg.all, fun t => ?_⟩
    by_cases ht : t = 0
    · subst ht
      have h0 := hr 0
      simp only [if_true] at h0 ⊢
      exact hp.sound hg.inv h0
    · simp only [if_neg ht]; exact .top _
  rcases hx with rfl | rfl <;> exact this
section
variable {s : SS} {r : List AV}
theorem finV_sound (hl : r.length = s.nv) (hr : AV.norefs r = true) (hc : s.cl = true) {v : SV} {d : D} (h : finV s v = some d) (hv : v.cl s.nv = true) : Fin1 (stO s r) (v.ev r) (d.ev r) := by
  unfold finV at h
  split at h
  · cases h; exact .refl _ (D.ev_noref hr _ (by rw [hl]; exact hv))
  · rename_i n l
    split at h
    · rename_i hcur
      cases h
      obtain ⟨⟨nl, e, sz⟩, hq⟩ := Option.isSome_iff_exists.1 hcur
      have hn := listOf_norefs (D.ev_noref hr l (by rw [hl]; exact hv))
      simp only [SV.ev, D.ev]
      refine .row n e sz _ ?_ hn
      rcases row_cases (cur_sound hq) r with h | ⟨h, h', _⟩
      · exact .inl h
      · exact .inr ⟨h, h'⟩
    · cases h
  · cases h
theorem finVs_sound (hl : r.length = s.nv) (hr : AV.norefs r = true) (hc : s.cl = true) : ∀ {vs : List SV} {ds : List D}, finVs s vs = some ds → SV.cls s.nv vs = true → vs.length = ds.length ∧ ∀ (i : Nat) c d, (SV.evs r vs)[i]? = some c → (D.evs r ds)[i]? = some d → Fin1 (stO s r) c d
  | [], ds, h, _ => by simp only [finVs, Option.some.injEq] at h; subst h; exact ⟨rfl, by simp [SV.evs]⟩
  | v :: vs, ds, h, hcl => by
    simp only [finVs] at h
    split at h
    · rename_i d ds' h1 h2
      cases h
      simp only [SV.cls, Bool.and_eq_true] at hcl
      obtain ⟨k1, k2⟩ := finVs_sound hl hr hc h2 hcl.2
      refine ⟨by simp [k1], fun i c d' hi hi' => ?_⟩
      cases i with
      | zero =>
        simp only [SV.evs, D.evs, List.getElem?_cons_zero, Option.some.injEq] at hi hi'
        subst hi; subst hi'
        exact finV_sound hl hr hc h1 hcl.1
      | succ i => exact k2 i c d' (by simpa [SV.evs] using hi) (by simpa [D.evs] using hi')
    · cases h
theorem finR_sound (hl : r.length = s.nv) (hr : AV.norefs r = true) (hc : s.cl = true) {v : SV} {d : D} (h : finR s v = some d) (hv : v.cl s.nv = true) : Fin1 (stO s r) (v.ev r) (d.ev r) := by
  unfold finR at h
  split at h
  · rename_i cs
    simp only [Option.map_eq_some_iff] at h
    obtain ⟨ds, h1, rfl⟩ := h
    obtain ⟨k1, k2⟩ := finVs_sound hl hr hc h1 hv
    exact .agg _ _ (by simp [SV.evs_eq, D.evs_eq, k1]) k2
  · exact finV_sound hl hr hc h hv
theorem finRs_sound (hl : r.length = s.nv) (hr : AV.norefs r = true) (hc : s.cl = true) : ∀ {rs : List ARes} {ds : List D}, finRs s rs = some ds → ∀ (acc : List AV) (M : List AV → Prop),
    (∀ xs : List AV, xs.length = ds.length → (∀ (i : Nat) c d, xs[i]? = some c → (D.evs r ds)[i]? = some d → Fin1 (stO s r) c d) → M (acc.reverse ++ xs)) → resK (stE s r) (stO s r) rs acc M
  | [], ds, h, acc, M, hM => by
    simp only [finRs, Option.some.injEq] at h
    subst h
    have := hM [] rfl (by simp)
    simpa [resK] using this
  | q :: rs, ds, h, acc, M, hM => by
    simp only [finRs] at h
    split at h
    · rename_i v hv
      split at h
      · rename_i d ds' h1 h2
        cases h
        have cont : ∀ {x : AV}, x = v.ev r → v.cl s.nv = true → resK (stE s r) (stO s r) rs (x :: acc) M := by
          rintro x rfl hcl
          refine finRs_sound hl hr hc h2 _ _ fun xs hlen hx => ?_
          have := hM (v.ev r :: xs) (by simp [hlen]) (fun i c d' hi hi' => ?_)
          · simpa using this
          · cases i with
            | zero =>
              simp only [D.evs, List.getElem?_cons_zero, Option.some.injEq] at hi hi'
              subst hi; subst hi'
              exact finR_sound hl hr hc h1 hcl
            | succ i => exact hx i c d' (by simpa using hi) (by simpa [D.evs] using hi')
        cases q with
        | tmp t =>
          simp only [resOf, Option.some.injEq] at hv
          subst hv
          exact cont rfl (SS.cl_env hc t)
        | cell t n =>
          simp only [resOf] at hv
          split at hv
          · rename_i k hk
            split at hv
            · rename_i e cs hb
              have hob := box_sound hb
              have hcls : SV.cls s.nv cs = true := SS.cl_obj hc (List.mem_of_getElem? hob)
              simp only [resK, ARes.get, stE, hk, SV.ev]
              rw [stO_get hob r]
              simp only [SO.ev]
              split at hv
              · cases hv
              · rename_i m
                split at hv
                · rename_i hm
                  cases hv
                  have hx : mkA (SV.evs r cs) = .agg (SV.evs r cs) := mkA_cells (by rw [SV.evs_eq]; simpa [hm.1] using hm.2)
                  rw [hx]
                  refine ⟨by simp [AV.cells, SV.evs_eq, hm.1], ?_⟩
                  rw [loadC_whole rfl (by simp [AV.cells, SV.evs_eq, hm.1])]
                  exact cont rfl hcls
                · cases hv
            · cases hv
          · cases hv
      · cases h
    · cases h
end
/-- at the end of a function: what is given back -/
def finT (rs : List ARes) (x : AX) (s : SS) : Option T :=
  match x with
  | .exit _ => none
  | _ => if s.cl = true then (finRs s rs).map .ret else none
/-- THE PROGRAM THAT IS LEFT of a function -/
def AFn.left (fl : List Nat) (A : AFn) : Option T :=
  match xC 0 fl A.weaken.code (entryS A.nargs) with
  | some t => t.fill (finT A.res) 0
  | none => none
theorem fin_ret {rs : List ARes} {s : SS} {r : List AV} {ds : List D} (hl : r.length = s.nv) (hr : AV.norefs r = true) (hc : s.cl = true) (h : finRs s rs = some ds) {x : AX} (hx : x = .ret ∨ x = .normal) : retK 0 rs (packR (D.evs r ds)) [] x (stE s r) (stO s r) := by
  refine retK_fin hx (finRs_sound hl hr hc h [] _ fun xs hlen hxs => ?_)
  simp only [List.reverse_nil, List.nil_append]
  by_cases h1 : ds.length = 1
  · obtain ⟨d, rfl⟩ := List.length_eq_one_iff.1 h1
    obtain ⟨a, rfl⟩ := List.length_eq_one_iff.1 (hlen.trans h1)
    exact hxs 0 a (d.ev r) rfl rfl
  · have p1 : packR xs = .tup xs := by
      unfold packR; split
      · simp at hlen; omega
      · rfl
    have p2 : packR (D.evs r ds) = .tup (D.evs r ds) := by
      unfold packR; split
      · rename_i h2
        have := congrArg List.length h2
        rw [D.evs_eq] at this; simp at this; omega
      · rfl
    rw [p1, p2]
    exact .tup _ _ (by rw [D.evs_eq]; simpa using hlen) hxs
/-- FROM THE PROGRAM THAT IS LEFT TO THE CONTRACT of calls that touch nothing. -/
theorem con_of_T {f : FuncId} {A : AFn} {fl : List Nat} {t : T} (hf : cFn P f A) (ht : A.left fl = some t) {args : List AV} (hl : args.length = A.nargs) (hn : AV.norefs args = true) {res : AV}
    (h : wpT P (fun _ _ _ => False) (fun a => a = res) t args []) : PCon P f args res := by
  refine con_of_wp (hf.weaken) hl ?_
  unfold AFn.left at ht
  split at ht
  · rename_i t0 h0
    have hw := fill0 ht h
    have hs := xC_sound (P := P) (fl := fl) (AFn.weaken A).code (s := entryS A.nargs) h0 (r := args) hl hn hw (Q := retK 0 A.res res []) fun x s r hL hm => ?_
    · obtain ⟨e', O', hwk, hc⟩ := hs
      refine ⟨e', O', ?_, hc⟩
      refine WK.trans ?_ hwk
      have he : stO (entryS A.nargs) args = [] := rfl
      rw [he, ← hl]
      exact WK.env (entry_ev args)
    · obtain ⟨t2, e2, w2⟩ := hL
      have key : (x = .ret ∨ x = .normal) ∧ s.cl = true ∧ ∃ ds, finRs s A.res = some ds ∧ t2 = .ret ds := by
        cases x with
        | exit i => cases e2
        | ret =>
          simp only [finT] at e2
          split at e2
          · rename_i hc
            simp only [Option.map_eq_some_iff] at e2
            obtain ⟨ds, h1, h2⟩ := e2
            exact ⟨.inl rfl, hc, ds, h1, h2.symm⟩
          · cases e2
        | normal =>
          simp only [finT] at e2
          split at e2
          · rename_i hc
            simp only [Option.map_eq_some_iff] at e2
            obtain ⟨ds, h1, h2⟩ := e2
            exact ⟨.inr rfl, hc, ds, h1, h2.symm⟩
          · cases e2
      obtain ⟨hx, hc, ds, h1, rfl⟩ := key
      simp only [wpT] at w2
      subst w2
      exact fin_ret hm.len hm.nor hc h1 hx
  · cases ht
/- functions that make a slice of their own -/
end
end Go.Ab
/-
  FUNCTIONS THAT REACH WHAT IS OWNED: their contracts by what is left of them.
-/
namespace Go.Ab
section
variable {P : Program}
end
end Go.Ab
