/-
  THE SYMBOLIC WALK IS SOUND: FROM THE PROGRAM THAT IS LEFT TO THE CONTRACT.
-/
import Derived.Test.YtaaoifpijmbhoaaAbXA
set_option linter.unusedVariables false
set_option linter.unusedSimpArgs false
set_option linter.defProp false
namespace Go.Ab

section
variable {P : Program}

theorem keepS_lk (live : List Nat) (s : SS) (t : Nat) : lk (keepS live s).env t = if live.contains t = true then lk s.env t else .top := by
  have key : ∀ (l : List Nat), lk (l.filterMap fun t => match lk s.env t with | .top => none | v => some (t, v)) t = if l.contains t = true then lk s.env t else .top := by
    intro l
    induction l with
    | nil => rfl
    | cons q l ih =>
      simp only [List.filterMap_cons, List.contains_cons]
      by_cases hq : t = q
      · subst hq
        simp only [BEq.rfl, Bool.true_or, if_true]
        split
        · rename_i h
          split at h
          · rename_i h2
            rw [h2] at ih ⊢
            rw [ih]; simp
          · cases h
        · rename_i p h
          split at h
          · cases h
          · cases h; simp [lk]
      · have hb : (t == q) = false := by simpa using hq
        simp only [hb, Bool.false_or]
        split
        · exact ih
        · rename_i p h
          split at h
          · cases h
          · cases h
            simp only [lk, if_neg hq]
            exact ih
  exact key live
theorem keepS_ev (live : List Nat) (s : SS) (r : List AV) : stE (keepS live s) r = keepE live (stE s r) := by
  funext t
  simp only [stE, keepS_lk, keepE]
  split <;> rfl

theorem headOf_spec {body : SS → Option T} : ∀ (n : Nat) {s h s1 h1 : SS} {t : T}, headOf body n s h = some (s1, h1, t) → Wk 0 s s1 ∧ body h1 = some t
  | 0, s, h, s1, h1, t, hh => by simp [headOf] at hh
  | n + 1, s, h, s1, h1, t, hh => by
    simp only [headOf] at hh
    split at hh
    · cases hh
    · rename_i t0 hb
      split at hh
      · rename_i c hc
        split at hh
        · cases hh
        · obtain ⟨q1, q2⟩ := headOf_spec n hh
          exact ⟨(conv_wk s c).trans q1, q2⟩
      · split at hh
        · cases hh; exact ⟨.refl _ _, hb⟩
        · exact headOf_spec n hh
theorem convLoop_spec {body : SS → Option T} : ∀ (n : Nat) {s s1 : SS} {t : T}, convLoop body n s = some (s1, t) → Wk 0 s s1 ∧ body s1 = some t
  | 0, s, s1, t, hh => by simp [convLoop] at hh
  | n + 1, s, s1, t, hh => by
    simp only [convLoop] at hh
    split at hh
    · cases hh
    · rename_i t0 hb
      split at hh
      · split at hh
        · rename_i c hc
          obtain ⟨q1, q2⟩ := convLoop_spec n hh
          exact ⟨(conv_wk s c).trans q1, q2⟩
        · cases hh; exact ⟨.refl _ _, hb⟩
      · cases hh; exact ⟨.refl _ _, hb⟩

theorem isWeak_eq {b : ACode} (h : b.isWeak = true) : ∃ c, b = .weak c := by
  cases b <;> first | exact ⟨_, rfl⟩ | (simp [ACode.isWeak] at h)

theorem xC_sound {fl : List Nat} (c : ACode) : ∀ {s : SS} {t : T}, xC fl c s = some t → ∀ {r : List AV}, r.length = s.nv → AV.norefs r = true → ∀ {L : AX → SS → List AV → Prop} {R : AV → Prop} {S : List (List AV → Prop)} {Q : AX → Env → List AObj → Prop},
    wpT P L R t r S → (∀ x s' r', L x s' r' → More r r' s'.nv → Q x (stE s' r') (stO s' r')) → wpC P 0 c Q (stE s r) (stO s r) := by
  induction c with
  | skip =>
    intro s t h r hl hr L R S Q hw hq
    simp only [xC, Option.some.injEq] at h
    subst h
    exact hq _ _ _ hw ⟨⟨[], by simp⟩, hl, hr⟩
  | region d ops =>
    intro s t h r hl hr L R S Q hw hq
    exact xOps_sound' ops h hl hr hw fun s' r' hL hm => hq _ _ _ hL hm
  | regionW ops =>
    intro s t h r hl hr L R S Q hw hq
    exact xOps_sound ops h hl hr hw fun s' r' hL hm => hq _ _ _ hL hm
  | exit id =>
    intro s t h r hl hr L R S Q hw hq
    simp only [xC, Option.some.injEq] at h
    subst h
    exact hq _ _ _ hw ⟨⟨[], by simp⟩, hl, hr⟩
  | ret =>
    intro s t h r hl hr L R S Q hw hq
    simp only [xC, Option.some.injEq] at h
    subst h
    exact hq _ _ _ hw ⟨⟨[], by simp⟩, hl, hr⟩
  | seq a b iha ihb =>
    intro s t h r hl hr L R S Q hw hq
    simp only [xC] at h
    split at h
    · cases h
    · rename_i t0 ha
      split at h
      · rename_i hcnd
        obtain ⟨b', rfl⟩ := isWeak_eq hcnd.1
        split at h
        · rename_i t1 t2 h1 h2
          cases h
          simp only [wpT] at hw
          have hf := fill0 h1 hw
          refine iha ha hl hr hf fun x s' r' hL hm => ?_
          obtain ⟨t3, e3, w3⟩ := hL
          have oth : ∀ {x'}, t3 = .esc (.leaf x' s') → x' = x → Q x (stE s' r') (stO s' r') := by
            intro x' h3 hx
            subst h3; subst hx
            simp only [wpT] at w3
            exact hq _ _ _ w3 hm
          cases x with
          | exit i => cases e3; exact oth rfl rfl
          | ret => cases e3; exact oth rfl rfl
          | normal =>
            simp only [Option.map_eq_some_iff] at e3
            obtain ⟨vs, hco, rfl⟩ := e3
            simp only [wpT] at w3
            obtain ⟨m, rfl⟩ := hm.pre
            obtain ⟨c1, c2, c3⟩ := coerce_sound hco hl hm.len hm.nor
            have w4 := w3 (by rw [D.evs_eq, List.length_map, c1])
            obtain ⟨e', O', hwk, hc'⟩ := ihb h2 c2.len c2.nor w4 fun x s2 r2 hL2 hm2 => hq x s2 r2 hL2 (c2.trans hm2)
            exact ⟨e', O', c3.trans hwk, hc'⟩
        · cases h
      · have hf := fill0 h hw
        refine iha ha hl hr hf fun x s' r' hL hm => ?_
        obtain ⟨t3, e3, w3⟩ := hL
        cases x with
        | exit i => cases e3; exact hq _ _ _ w3 hm
        | ret => cases e3; exact hq _ _ _ w3 hm
        | normal => exact ihb e3 hm.len hm.nor w3 fun x s2 r2 hL2 hm2 => hq x s2 r2 hL2 (hm.trans hm2)
  | cond c a b iha ihb =>
    intro s t h r hl hr L R S Q hw hq
    simp only [xC] at h
    simp only [wpC, ← opd_ev]
    split at h
    · rename_i bb hc
      rw [hc]
      simp only [SV.ev, D.ev]
      split at h
      · rename_i hb
        refine ⟨fun _ => iha h hl hr hw hq, fun h => ?_⟩
        rw [hb] at h; cases h
      · rename_i hb
        refine ⟨fun h => (hb h).elim, fun _ => ihb h hl hr hw hq⟩
    · rename_i d _ hc
      split at h
      · rename_i t1 t2 h1 h2
        split at h
        · cases h
          rw [hc]
          simp only [wpT] at hw
          simp only [SV.ev]
          split at hw
          · rename_i bb hb
            rw [hb]
            exact ⟨fun h => iha h1 hl hr (hw.1 h) hq, fun h => ihb h2 hl hr (hw.2 h) hq⟩
          · exact hw.elim
        · cases h
      · cases h
    · cases h
  | block id b ih =>
    intro s t h r hl hr L R S Q hw hq
    simp only [xC] at h
    split at h
    · cases h
    · rename_i t0 hb
      have hf := fill0 h hw
      refine ih hb hl hr hf fun x s' r' hL hm => ?_
      obtain ⟨t3, e3, w3⟩ := hL
      cases x with
      | normal => cases e3; exact hq _ _ _ w3 hm
      | ret => cases e3; exact hq _ _ _ w3 hm
      | exit i =>
        simp only [Option.some.injEq] at e3
        simp only
        split
        · rename_i hi
          rw [if_pos hi] at e3; subst e3; exact hq _ _ _ w3 hm
        · rename_i hi
          rw [if_neg hi] at e3; subst e3; exact hq _ _ _ w3 hm
  | loop b ih =>
    intro s t h r hl hr L R S Q hw hq
    simp only [xC] at h
    split at h
    · cases h
    · rename_i s1 hd t0 hh
      obtain ⟨hwk, hb⟩ := headOf_spec 8 hh
      split at h
      · rename_i init hco
        split at h
        · rename_i t1 h1
          cases h
          obtain ⟨J, n, hJ0, hround⟩ := hw
          have hl1 : r.length = s1.nv := hl.trans hwk.1.symm
          obtain ⟨c1, c2, c3⟩ := coerce_sound (rb := r) (m := []) hco hl1 (by simpa using hl1) (by simpa using hr)
          simp only [List.append_nil] at c1 c2 c3
          refine ⟨fun n e O => ∃ vs, J n vs ∧ vs.length = init.length ∧ More r (r ++ vs) hd.nv ∧ e = stE hd (r ++ vs) ∧ O = stO hd (r ++ vs), n, ⟨_, _, (hwk.2 r hl hr).trans c3, D.evs r init, hJ0, by rw [D.evs_eq, List.length_map], c2, rfl, rfl⟩, ?_⟩
          rintro n e O ⟨vs, hJ, hlen, hm0, rfl, rfl⟩
          have hf := fill0 h1 (hround n vs hJ hlen)
          refine ih hb hm0.len hm0.nor hf fun x s' r' hL hm => ?_
          obtain ⟨t3, e3, w3⟩ := hL
          cases x with
          | exit i => cases e3; simp only [wpT] at w3; exact hq _ _ _ w3 (hm0.trans hm)
          | ret => cases e3; simp only [wpT] at w3; exact hq _ _ _ w3 (hm0.trans hm)
          | normal =>
            simp only [Option.map_eq_some_iff] at e3
            obtain ⟨vs', hco', rfl⟩ := e3
            simp only [wpT] at w3
            obtain ⟨m', hlt, hJ'⟩ := w3
            obtain ⟨m2, rfl⟩ := hm.pre
            have hmn := hm.nor
            have hml := hm.len
            rw [List.append_assoc] at hmn hml hJ' ⊢
            obtain ⟨d1, d2, d3⟩ := coerce_sound (rb := r) (m := vs ++ m2) hco' hl1 hml hmn
            exact ⟨m', _, _, hlt, d3, _, hJ', by rw [D.evs_eq, List.length_map, d1, c1], d2, rfl, rfl⟩
        · cases h
      · cases h
  | keep live c ih =>
    intro s t h r hl hr L R S Q hw hq
    simp only [xC] at h
    split at h
    · cases h
    · rename_i t0 hb
      have hf := fill0 h hw
      refine ih hb hl hr hf fun x s' r' hL hm => ?_
      obtain ⟨t3, e3, w3⟩ := hL
      cases x with
      | exit i => cases e3; exact hq _ _ _ w3 hm
      | ret => cases e3; exact hq _ _ _ w3 hm
      | normal =>
        cases e3
        simp only
        rw [← keepS_ev]
        exact hq _ _ _ w3 hm
  | weak c ih =>
    intro s t h r hl hr L R S Q hw hq
    simp only [xC] at h
    split at h
    · split at h
      · rename_i q hc
        obtain ⟨s1, t1⟩ := q
        cases h
        obtain ⟨hwk, hb⟩ := convLoop_spec 6 hc
        exact ⟨_, _, hwk.2 r hl hr, ih hb (hl.trans hwk.1.symm) hr hw hq⟩
      · cases h
    · exact ⟨_, _, .refl _ _ _, ih h hl hr hw hq⟩

/- the code of a function -/

theorem weaken_strip : ∀ (c : ACode), c.weaken.strip = c.strip
  | .skip => rfl
  | .region none ops => rfl
  | .region (some rows) ops => rfl
  | .seq a b => by simp only [ACode.weaken, ACode.strip, weaken_strip a, weaken_strip b]
  | .cond c t f => by simp only [ACode.weaken, ACode.strip, weaken_strip t, weaken_strip f]
  | .block id b => by simp only [ACode.weaken, ACode.strip, weaken_strip b]
  | .loop b => by simp only [ACode.weaken, ACode.strip, weaken_strip b]
  | .exit id => rfl
  | .ret => rfl
  | .keep l c => by simp only [ACode.weaken, ACode.strip, weaken_strip c]
  | .weak c => by simp only [ACode.weaken, ACode.strip, weaken_strip c]
  | .regionW ops => rfl
theorem weaken_draws : ∀ (c : ACode), c.drawsOk = true → c.weaken.drawsOk = true
  | .skip, _ => rfl
  | .region none ops, _ => rfl
  | .region (some rows) ops, h => h
  | .seq a b, h => by simp only [ACode.drawsOk, Bool.and_eq_true, ACode.weaken] at h ⊢; exact ⟨weaken_draws a h.1, weaken_draws b h.2⟩
  | .cond c t f, h => by simp only [ACode.drawsOk, Bool.and_eq_true, ACode.weaken] at h ⊢; exact ⟨weaken_draws t h.1, weaken_draws f h.2⟩
  | .block id b, h => by simp only [ACode.drawsOk, ACode.weaken] at h ⊢; exact weaken_draws b h
  | .loop b, h => by simp only [ACode.drawsOk, ACode.weaken] at h ⊢; exact weaken_draws b h
  | .exit id, _ => rfl
  | .ret, _ => rfl
  | .keep l c, h => by simp only [ACode.drawsOk, ACode.weaken] at h ⊢; exact weaken_draws c h
  | .weak c, h => by simp only [ACode.drawsOk, ACode.weaken] at h ⊢; exact weaken_draws c h
  | .regionW ops, _ => rfl
def AFn.weaken (A : AFn) : AFn := { A with code := .weak A.code.weaken }
theorem cFn.weaken {f : FuncId} {A : AFn} (h : cFn P f A) : cFn P f A.weaken := by
  obtain ⟨fn, code, h1, h2, h3, h4, h5, h6, h7, h8⟩ := h
  exact ⟨fn, code, h1, h2, h3, h4, h5, h6.trans (congrArg some (weaken_strip A.code).symm), h7, weaken_draws _ h8⟩

/- results -/
def entryS (n : Nat) : SS := ⟨(List.range n).map fun i => (i, .d (.x i)), [], n, []⟩

theorem entry_ev (args : List AV) : ∀ t, stE (entryS args.length) args t = .top ∨ stE (entryS args.length) args t = entryE args t := by
  intro t
  have key : ∀ (n k : Nat), lk ((List.range' k n).map fun i => (i, SV.d (.x i))) t = if k ≤ t ∧ t < k + n then .d (.x t) else .top := by
    intro n
    induction n with
    | zero => intro k; rw [if_neg (by omega)]; rfl
    | succ n ih =>
      intro k
      simp only [List.range'_succ, List.map_cons, lk, ih]
      by_cases h : t = k
      · subst h; simp
      · rw [if_neg h]
        by_cases h2 : k + 1 ≤ t ∧ t < k + 1 + n
        · rw [if_pos h2, if_pos (by omega)]
        · rw [if_neg h2, if_neg (by omega)]
  simp only [stE, entryS, List.range_eq_range']
  rw [key]
  split
  · rename_i h
    refine .inr ?_
    simp only [SV.ev, D.ev, entryE, List.getD]
    have : t < args.length := by omega
    rw [List.getElem?_eq_getElem this]; rfl
  · exact .inl rfl

/-- rows are read as what they hold, one level deep -/
inductive Fin1 (O : List AObj) : AV → AV → Prop
  | refl (a : AV) : a.noref = true → Fin1 O a a
  | row (n t s : Nat) (xs : List AV) : (O[n]? = some (.live t s xs) ∨ (O[n]? = some (.nil t s) ∧ xs = [])) → AV.norefs xs = true → Fin1 O (.row n xs.length) (.sl xs)
  | agg (cs ds : List AV) : cs.length = ds.length → (∀ (i : Nat) c d, cs[i]? = some c → ds[i]? = some d → Fin1 O c d) → Fin1 O (.agg cs) (.agg ds)
  | tup (cs ds : List AV) : cs.length = ds.length → (∀ (i : Nat) c d, cs[i]? = some c → ds[i]? = some d → Fin1 O c d) → Fin1 O (.tup cs) (.tup ds)

theorem Fin1.sound {I : Imm} {L : Nat → Loc} {O : List AObj} {w : World} (hi : Inv I L O w) {a b : AV} (h : Fin1 O a b) : ∀ {x : Value}, R I L O a x → R (allI I L O w) L [] b x := by
  induction h with
  | refl a hn => intro x hr; exact hr.noref (allI_le hi) hn
  | row n t s xs hO hn =>
    intro x hr
    rcases hO with hO | ⟨hO, rfl⟩
    · have := hr.row_live hO rfl
      subst this
      obtain ⟨c, h1, h2, h3, h4, h5, h6⟩ := hi.obj n t s xs hO
      have hlb : LB L O (L n).blk := ⟨n, t, s, xs, hO, rfl⟩
      by_cases hx : xs = []
      · subst hx; exact .sl0 _ _
      · refine (.sl xs (L n).blk 0 (L n).cap s (fun i j => (c[i * s + j]?).getD undef) h3 hx (fun i x hx => (h6 i x hx).1) (fun i x j d hx hj => ?_) fun i x j d hx hj => ?_)
        · obtain ⟨y, hy, ho, _⟩ := (h6 i x hx).2 j d hj
          unfold allI
          rw [if_pos hlb, Nat.zero_add, cell_cells h1, hy]
          exact ⟨rfl, ho⟩
        · obtain ⟨y, hy, ho, hr'⟩ := (h6 i x hx).2 j d hj
          rw [hy]
          exact hr'.noref (allI_le hi) (noref_cells (norefs_mem hn x (List.mem_of_getElem? hx)) d (List.mem_of_getElem? hj))
    · obtain ⟨rfl, _⟩ := hr.row_nil hO
      exact .sl0 _ _
  | agg cs ds h _ ih =>
    intro x hr
    cases hr with
    | agg _ vs hl hr =>
      refine .agg _ _ (by omega) fun i d v hd hv => ?_
      have hc : cs[i]? = some (cs[i]'(by have := (List.getElem?_eq_some_iff.1 hd).1; omega)) := by simp
      exact ih i _ _ hc hd (hr i _ v hc hv)
  | tup cs ds h _ ih =>
    intro x hr
    cases hr with
    | tup _ vs hl hr =>
      refine .tup _ _ (by omega) fun i d v hd hv => ?_
      have hc : cs[i]? = some (cs[i]'(by have := (List.getElem?_eq_some_iff.1 hd).1; omega)) := by simp
      exact ih i _ _ hc hd (hr i _ v hc hv)

theorem retK_fin {rs : List ARes} {res : AV} {x : AX} (hx : x = .ret ∨ x = .normal) {e : Env} {O : List AObj} (h : resK e O rs [] fun xs => Fin1 O (packR xs) res) : retK 0 rs res [] x e O := by
  have key : ∀ (rs : List ARes) (acc : List AV) (M M' : List AV → Prop), (∀ xs, M xs → M' xs) → resK e O rs acc M → resK e O rs acc M' := by
    intro rs
    induction rs with
    | nil => intro acc M M' hm h; exact hm _ h
    | cons r rs ih =>
      intro acc M M' hm h
      cases r with
      | tmp t => exact ih _ _ _ hm h
      | cell t n =>
        simp only [resK, ARes.get] at h ⊢
        split at h
        · split at h
          · exact ⟨h.1, ih _ _ _ hm h.2⟩
          · exact h.elim
        · exact h.elim
  have : resK e O rs [] fun xs => ∃ e', WK 0 (fun t => if t = 0 then packR xs else .top) O e' [] ∧ e' 0 = res := by
    refine key rs _ _ _ (fun xs hp => ⟨fun t => if t = 0 then res else .top, ?_, rfl⟩) h
    intro I0 L0 O0 w0 I L w f hl hg hr
    obtain rfl : O0 = [] := List.eq_nil_of_length_eq_zero hl
    refine ⟨_, L, hg.all, fun t => ?_⟩
    by_cases ht : t = 0
    · subst ht
      have h0 := hr 0
      simp only [if_true] at h0 ⊢
      exact hp.sound hg.inv h0
    · simp only [if_neg ht]; exact .top _
  rcases hx with rfl | rfl <;> exact this

section
variable {s : SS} {r : List AV}

theorem finV_sound (hl : r.length = s.nv) (hr : AV.norefs r = true) (hc : s.cl = true) {v : SV} {d : D} (h : finV s v = some d) (hv : v.cl s.nv = true) : Fin1 (stO s r) (v.ev r) (d.ev r) := by
  unfold finV at h
  split at h
  · cases h; exact .refl _ (D.ev_noref hr _ (by rw [hl]; exact hv))
  · rename_i n l
    split at h
    · rename_i hcur
      cases h
      obtain ⟨⟨nl, e, sz⟩, hq⟩ := Option.isSome_iff_exists.1 hcur
      have hn := listOf_norefs (D.ev_noref hr l (by rw [hl]; exact hv))
      simp only [SV.ev, D.ev]
      refine .row n e sz _ ?_ hn
      rcases row_cases (cur_sound hq) r with h | ⟨h, h', _⟩
      · exact .inl h
      · exact .inr ⟨h, h'⟩
    · cases h
  · cases h
theorem finVs_sound (hl : r.length = s.nv) (hr : AV.norefs r = true) (hc : s.cl = true) : ∀ {vs : List SV} {ds : List D}, finVs s vs = some ds → SV.cls s.nv vs = true → vs.length = ds.length ∧ ∀ (i : Nat) c d, (SV.evs r vs)[i]? = some c → (D.evs r ds)[i]? = some d → Fin1 (stO s r) c d
  | [], ds, h, _ => by simp only [finVs, Option.some.injEq] at h; subst h; exact ⟨rfl, by simp [SV.evs]⟩
  | v :: vs, ds, h, hcl => by
    simp only [finVs] at h
    split at h
    · rename_i d ds' h1 h2
      cases h
      simp only [SV.cls, Bool.and_eq_true] at hcl
      obtain ⟨k1, k2⟩ := finVs_sound hl hr hc h2 hcl.2
      refine ⟨by simp [k1], fun i c d' hi hi' => ?_⟩
      cases i with
      | zero =>
        simp only [SV.evs, D.evs, List.getElem?_cons_zero, Option.some.injEq] at hi hi'
        subst hi; subst hi'
        exact finV_sound hl hr hc h1 hcl.1
      | succ i => exact k2 i c d' (by simpa [SV.evs] using hi) (by simpa [D.evs] using hi')
    · cases h
theorem finR_sound (hl : r.length = s.nv) (hr : AV.norefs r = true) (hc : s.cl = true) {v : SV} {d : D} (h : finR s v = some d) (hv : v.cl s.nv = true) : Fin1 (stO s r) (v.ev r) (d.ev r) := by
  unfold finR at h
  split at h
  · rename_i cs
    simp only [Option.map_eq_some_iff] at h
    obtain ⟨ds, h1, rfl⟩ := h
    obtain ⟨k1, k2⟩ := finVs_sound hl hr hc h1 hv
    exact .agg _ _ (by simp [SV.evs_eq, D.evs_eq, k1]) k2
  · exact finV_sound hl hr hc h hv

theorem finRs_sound (hl : r.length = s.nv) (hr : AV.norefs r = true) (hc : s.cl = true) : ∀ {rs : List ARes} {ds : List D}, finRs s rs = some ds → ∀ (acc : List AV) (M : List AV → Prop),
    (∀ xs : List AV, xs.length = ds.length → (∀ (i : Nat) c d, xs[i]? = some c → (D.evs r ds)[i]? = some d → Fin1 (stO s r) c d) → M (acc.reverse ++ xs)) → resK (stE s r) (stO s r) rs acc M
  | [], ds, h, acc, M, hM => by
    simp only [finRs, Option.some.injEq] at h
    subst h
    have := hM [] rfl (by simp)
    simpa [resK] using this
  | q :: rs, ds, h, acc, M, hM => by
    simp only [finRs] at h
    split at h
    · rename_i v hv
      split at h
      · rename_i d ds' h1 h2
        cases h
        have cont : ∀ {x : AV}, x = v.ev r → v.cl s.nv = true → resK (stE s r) (stO s r) rs (x :: acc) M := by
          rintro x rfl hcl
          refine finRs_sound hl hr hc h2 _ _ fun xs hlen hx => ?_
          have := hM (v.ev r :: xs) (by simp [hlen]) (fun i c d' hi hi' => ?_)
          · simpa using this
          · cases i with
            | zero =>
              simp only [D.evs, List.getElem?_cons_zero, Option.some.injEq] at hi hi'
              subst hi; subst hi'
              exact finR_sound hl hr hc h1 hcl
            | succ i => exact hx i c d' (by simpa using hi) (by simpa [D.evs] using hi')
        cases q with
        | tmp t =>
          simp only [resOf, Option.some.injEq] at hv
          subst hv
          exact cont rfl (SS.cl_env hc t)
        | cell t n =>
          simp only [resOf] at hv
          split at hv
          · rename_i k hk
            split at hv
            · rename_i e cs hb
              have hob := box_sound hb
              have hcls : SV.cls s.nv cs = true := SS.cl_obj hc (List.mem_of_getElem? hob)
              simp only [resK, ARes.get, stE, hk, SV.ev]
              rw [stO_get hob r]
              simp only [SO.ev]
              split at hv
              · cases hv
              · rename_i m
                split at hv
                · rename_i hm
                  cases hv
                  have hx : mkA (SV.evs r cs) = .agg (SV.evs r cs) := mkA_cells (by rw [SV.evs_eq]; simpa [hm.1] using hm.2)
                  rw [hx]
                  refine ⟨by simp [AV.cells, SV.evs_eq, hm.1], ?_⟩
                  rw [loadC_whole rfl (by simp [AV.cells, SV.evs_eq, hm.1])]
                  exact cont rfl hcls
                · cases hv
            · cases hv
          · cases hv
      · cases h
    · cases h
end

/-- at the end of a function: what is given back -/
def finT (rs : List ARes) (x : AX) (s : SS) : Option T :=
  match x with
  | .exit _ => none
  | _ => if s.cl = true then (finRs s rs).map .ret else none

/-- THE PROGRAM THAT IS LEFT of a function -/
def AFn.left (fl : List Nat) (A : AFn) : Option T :=
  match xC fl A.weaken.code (entryS A.nargs) with
  | some t => t.fill (finT A.res) 0
  | none => none

theorem fin_ret {rs : List ARes} {s : SS} {r : List AV} {ds : List D} (hl : r.length = s.nv) (hr : AV.norefs r = true) (hc : s.cl = true) (h : finRs s rs = some ds) {x : AX} (hx : x = .ret ∨ x = .normal) : retK 0 rs (packR (D.evs r ds)) [] x (stE s r) (stO s r) := by
  refine retK_fin hx (finRs_sound hl hr hc h [] _ fun xs hlen hxs => ?_)
  simp only [List.reverse_nil, List.nil_append]
  by_cases h1 : ds.length = 1
  · obtain ⟨d, rfl⟩ := List.length_eq_one_iff.1 h1
    obtain ⟨a, rfl⟩ := List.length_eq_one_iff.1 (hlen.trans h1)
    exact hxs 0 a (d.ev r) rfl rfl
  · have p1 : packR xs = .tup xs := by
      unfold packR; split
      · simp at hlen; omega
      · rfl
    have p2 : packR (D.evs r ds) = .tup (D.evs r ds) := by
      unfold packR; split
      · rename_i h2
        have := congrArg List.length h2
        rw [D.evs_eq] at this; simp at this; omega
      · rfl
    rw [p1, p2]
    exact .tup _ _ (by rw [D.evs_eq]; simpa using hlen) hxs

/-- FROM THE PROGRAM THAT IS LEFT TO THE CONTRACT of calls that touch nothing. -/
theorem con_of_T {f : FuncId} {A : AFn} {fl : List Nat} {t : T} (hf : cFn P f A) (ht : A.left fl = some t) {args : List AV} (hl : args.length = A.nargs) (hn : AV.norefs args = true) {res : AV}
    (h : wpT P (fun _ _ _ => False) (fun a => a = res) t args []) : PCon P f args res := by
  refine con_of_wp (hf.weaken) hl ?_
  unfold AFn.left at ht
  split at ht
  · rename_i t0 h0
    have hw := fill0 ht h
    have hs := xC_sound (P := P) (fl := fl) (AFn.weaken A).code (s := entryS A.nargs) h0 (r := args) hl hn hw (Q := retK 0 A.res res []) fun x s r hL hm => ?_
    · obtain ⟨e', O', hwk, hc⟩ := hs
      refine ⟨e', O', ?_, hc⟩
      refine WK.trans ?_ hwk
      have he : stO (entryS A.nargs) args = [] := rfl
      rw [he, ← hl]
      exact WK.env (entry_ev args)
    · obtain ⟨t2, e2, w2⟩ := hL
      have key : (x = .ret ∨ x = .normal) ∧ s.cl = true ∧ ∃ ds, finRs s A.res = some ds ∧ t2 = .ret ds := by
        cases x with
        | exit i => cases e2
        | ret =>
          simp only [finT] at e2
          split at e2
          · rename_i hc
            simp only [Option.map_eq_some_iff] at e2
            obtain ⟨ds, h1, h2⟩ := e2
            exact ⟨.inl rfl, hc, ds, h1, h2.symm⟩
          · cases e2
        | normal =>
          simp only [finT] at e2
          split at e2
          · rename_i hc
            simp only [Option.map_eq_some_iff] at e2
            obtain ⟨ds, h1, h2⟩ := e2
            exact ⟨.inr rfl, hc, ds, h1, h2.symm⟩
          · cases e2
      obtain ⟨hx, hc, ds, h1, rfl⟩ := key
      simp only [wpT] at w2
      subst w2
      exact fin_ret hm.len hm.nor hc h1 hx
  · cases ht

end
end Go.Ab
