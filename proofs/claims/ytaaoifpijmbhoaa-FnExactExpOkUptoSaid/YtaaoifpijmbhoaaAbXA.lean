/-
  THE SYMBOLIC WALK IS SOUND: regions, control, a function.
-/
import Derived.Test.YtaaoifpijmbhoaaAbX9
set_option linter.unusedVariables false
set_option linter.unusedSimpArgs false
set_option linter.defProp false
namespace Go.Ab

section
variable {P : Program}

theorem More.trans {r r1 r2 : List AV} {n k : Nat} (h : More r r1 n) (k' : More r1 r2 k) : More r r2 k := by
  obtain ⟨m, rfl⟩ := h.pre
  obtain ⟨m', rfl⟩ := k'.pre
  exact ⟨⟨m ++ m', by simp⟩, k'.len, k'.nor⟩

theorem wpT_escN {L : AX → SS → List AV → Prop} {R : AV → Prop} {t : T} {r : List AV} : ∀ (Js S : List (List AV → Prop)), wpT P L R (escN Js.length t) r (Js ++ S) = wpT P L R t r S
  | [], S => rfl
  | J :: Js, S => by simp only [List.length_cons, escN, List.cons_append, wpT, wpT_escN Js S]

inductive Imps : List (List AV → Prop) → List (List AV → Prop) → Prop
  | nil : Imps [] []
  | cons {J J' : List AV → Prop} {S S' : List (List AV → Prop)} : (∀ vs, J vs → J' vs) → Imps S S' → Imps (J :: S) (J' :: S')
theorem Imps.refl : ∀ (S : List (List AV → Prop)), Imps S S
  | [] => .nil
  | _ :: S => .cons (fun _ h => h) (Imps.refl S)

theorem wpT_mono {L L' : AX → SS → List AV → Prop} {R R' : AV → Prop} (hL : ∀ x s r, L x s r → L' x s r) (hR : ∀ a, R a → R' a) : ∀ (t : T) {r : List AV} {S S' : List (List AV → Prop)}, Imps S S' → wpT P L R t r S → wpT P L' R' t r S'
  | .leaf x s, r, S, S', hs, h => hL _ _ _ h
  | .ret d, r, S, S', hs, h => hR _ h
  | .jump vs, r, S, S', hs, h => by
    cases hs with
    | nil => exact h
    | cons hJ _ => exact hJ _ h
  | .esc t, r, S, S', hs, h => by
    cases hs with
    | nil => exact h
    | cons _ hs => exact wpT_mono hL hR t hs h
  | .op o t, r, S, S', hs, h => PO.wp_imp h fun v hv => wpT_mono hL hR t hs hv
  | .chk c t, r, S, S', hs, h => Chk.wp_mono h fun h => wpT_mono hL hR t hs h
  | .ite c t f, r, S, S', hs, h => by
    simp only [wpT] at h ⊢
    split at h
    · exact ⟨fun hb => wpT_mono hL hR t hs (h.1 hb), fun hb => wpT_mono hL hR f hs (h.2 hb)⟩
    · exact h.elim
  | .bind k a b, r, S, S', hs, h => wpT_mono hL hR a (.cons (fun vs hv hk => wpT_mono hL hR b hs (hv hk)) hs) h
  | .loop init b, r, S, S', hs, h => by
    obtain ⟨J, n, h0, h1⟩ := h
    exact ⟨J, n, h0, fun n vs hJ hk => wpT_mono hL hR b (.cons (fun _ h => h) hs) (h1 n vs hJ hk)⟩

/-- what is filled in stands where the open ends were -/
theorem fill_sound {L : AX → SS → List AV → Prop} {R : AV → Prop} {k : AX → SS → Option T} : ∀ (t : T) {d : Nat} {t' : T}, t.fill k d = some t' → ∀ {r : List AV} {Js S : List (List AV → Prop)}, Js.length = d → wpT P L R t' r (Js ++ S) →
    wpT P (fun x s r' => ∃ t2, k x s = some t2 ∧ wpT P L R t2 r' S) R t r (Js ++ S)
  | .leaf x s, d, t', h, r, Js, S, hd, hw => by
    simp only [T.fill, Option.map_eq_some_iff] at h
    obtain ⟨t2, h1, rfl⟩ := h
    subst hd
    rw [wpT_escN] at hw
    exact ⟨t2, h1, hw⟩
  | .ret d', d, t', h, r, Js, S, hd, hw => by cases h; exact hw
  | .jump vs, d, t', h, r, Js, S, hd, hw => by
    simp only [T.fill] at h
    split at h
    · cases h
    · cases h; exact hw
  | .esc t, d, t', h, r, Js, S, hd, hw => by
    cases d with
    | zero => simp [T.fill] at h
    | succ d =>
      simp only [T.fill, Option.map_eq_some_iff] at h
      obtain ⟨t2, h1, rfl⟩ := h
      cases Js with
      | nil => cases hd
      | cons J Js =>
        simp only [List.cons_append, wpT] at hw ⊢
        exact fill_sound t h1 (by simpa using hd) hw
  | .op o t, d, t', h, r, Js, S, hd, hw => by
    simp only [T.fill, Option.map_eq_some_iff] at h
    obtain ⟨t2, h1, rfl⟩ := h
    exact PO.wp_imp (o := o) hw fun v hv => fill_sound t h1 hd hv
  | .chk c t, d, t', h, r, Js, S, hd, hw => by
    simp only [T.fill, Option.map_eq_some_iff] at h
    obtain ⟨t2, h1, rfl⟩ := h
    exact Chk.wp_mono (c := c) hw fun hv => fill_sound t h1 hd hv
  | .ite c t f, d, t', h, r, Js, S, hd, hw => by
    simp only [T.fill] at h
    split at h
    · rename_i t2 f2 h1 h2
      cases h
      simp only [wpT] at hw ⊢
      split at hw
      · exact ⟨fun hb => fill_sound t h1 hd (hw.1 hb), fun hb => fill_sound f h2 hd (hw.2 hb)⟩
      · exact hw.elim
    · cases h
  | .bind m a b, d, t', h, r, Js, S, hd, hw => by
    simp only [T.fill] at h
    split at h
    · rename_i a2 b2 h1 h2
      cases h
      simp only [wpT] at hw ⊢
      have := fill_sound a h1 (Js := _ :: Js) (by simpa using hd) hw
      exact wpT_mono (fun _ _ _ h => h) (fun _ h => h) a (.cons (fun vs hv hk => fill_sound b h2 hd (hv hk)) (.refl _)) this
    · cases h
  | .loop init b, d, t', h, r, Js, S, hd, hw => by
    simp only [T.fill, Option.map_eq_some_iff] at h
    obtain ⟨t2, h1, rfl⟩ := h
    obtain ⟨J, n, h0, h2⟩ := hw
    exact ⟨J, n, h0, fun n vs hJ hk => fill_sound b h1 (Js := _ :: Js) (by simpa using hd) (h2 n vs hJ hk)⟩

theorem fill0 {L : AX → SS → List AV → Prop} {R : AV → Prop} {k : AX → SS → Option T} {t t' : T} (h : t.fill k 0 = some t') {r : List AV} {S : List (List AV → Prop)} (hw : wpT P L R t' r S) :
    wpT P (fun x s r' => ∃ t2, k x s = some t2 ∧ wpT P L R t2 r' S) R t r S := fill_sound t h (Js := []) rfl hw

/- regions -/

theorem xStep_sound {op : AOp} {s : SS} {ns : List Node} {v : SV} {s' : SS} (h : xStep op s = some (ns, v, s')) {r : List AV} (hl : r.length = s.nv) (hr : AV.norefs r = true) {G : List AV → Prop} (hw : wpN P ns r G) {K : KT}
    (hk : ∀ r', G r' → More r r' s'.nv → stE s' r' = stE s r → K (v.ev r') (stO s' r')) : wpOp P op (stE s r) (stO s r) K := by
  unfold xStep at h
  split at h
  · rename_i h1
    split at h
    · rename_i ns2 v2 s2 hx
      split at h
      · rename_i h2
        cases h
        obtain ⟨c1, c2, c3, c4⟩ := h2
        refine xOp_ok h1.2 h1.1 c3 hx r hl h1.1 hr c1 K ?_
        refine wpN_more ns hr (by rw [hl]; exact c1) hw fun r' hm hG he => hk r' hG ⟨hm.pre, ?_, hm.nor⟩ he
        exact (hm.len.trans (by rw [hl])).trans c2
      · cases h
    · cases h
  · cases h

theorem set_same {e : Env} {t : Nat} {a : AV} (h : e t = a) : e.set t a = e := set_self h

theorem xOps_sound {fl : List Nat} {n0 : Nat} {L : AX → SS → List AV → Prop} {R : AV → Prop} {S : List (List AV → Prop)} {K : Env → List AObj → Prop} : ∀ (ops : List AOper) {s : SS} {t : T}, xOps fl true ops s = some t → ∀ {r : List AV}, r.length = s.nv → AV.norefs r = true →
    wpT P L R t r S → (∀ s' r', L .normal s' r' → More r r' s'.nv → K (stE s' r') (stO s' r')) → wpOpsW P n0 ops (stE s r) (stO s r) K
  | [], s, t, h, r, hl, hr, hw, hk => by
    simp only [xOps, Option.some.injEq] at h
    subst h
    exact ⟨_, _, .refl _ _ _, hk s r hw ⟨⟨[], by simp⟩, hl, hr⟩⟩
  | o :: ops, s, t, h, r, hl, hr, hw, hk => by
    have hpre : Wk n0 s (pre fl true o.op s) := pre_wk fl true o.op s
    have hwk := hpre.2 r hl hr
    have hl0 : r.length = (pre fl true o.op s).nv := hl.trans hpre.1.symm
    -- one operation, then the rest
    have step : ∀ {s0 : SS} {ns : List Node} {v : SV} {s' : SS} {t' : T}, xStep o.op s0 = some (ns, v, s') → xOps fl true ops (s'.setD o.dst v) = some t' → r.length = s0.nv → wpT P L R (wrap ns t') r S →
        wpOp P o.op (stE s0 r) (stO s0 r) fun x O' => wpOpsW P n0 ops (setD (stE s0 r) o.dst x) O' K := by
      intro s0 ns v s' t' hx ht hl0 hw
      rw [wpT_wrap] at hw
      refine xStep_sound hx hl0 hr hw fun r' hG hm he => ?_
      rw [← he, ← stE_setD, ← stO_setD s' o.dst v r']
      refine xOps_sound ops ht (by rw [nv_setD]; exact hm.len) hm.nor hG fun s2 r2 hL hm2 => hk s2 r2 hL (hm.trans hm2)
    have skip : ∀ {s0 : SS} {t' : T}, xOps fl true ops (s0.setD o.dst un) = some t' → r.length = s0.nv → wpT P L R t' r S → wpOpsW P n0 ops (setD (stE s0 r) o.dst (.tup [])) (stO s0 r) K := by
      intro s0 t' ht hl0 hw
      have : (un).ev r = .tup [] := rfl
      rw [← this, ← stE_setD, ← stO_setD s0 o.dst un r]
      exact xOps_sound ops ht (by rw [nv_setD]; exact hl0) hr hw hk
    simp only [xOps] at h
    simp only [wpOpsW]
    split at h
    · rename_i hg
      split at h
      · rename_i ns v s' hx
        simp only [Option.map_eq_some_iff] at h
        obtain ⟨t', ht, rfl⟩ := h
        refine ⟨_, _, hwk, ?_⟩
        rw [hg]
        exact step hx ht hl0 hw
      · cases h
    · rename_i g want hg
      split at h
      · rename_i b hb
        have heb : stE s r g = .v (.bool b) := by simp only [stE, hb]; rfl
        split at h
        · rename_i hbw
          split at h
          · rename_i b' hb'
            have heb' : stE (pre fl true o.op s) r g = .v (.bool b') := by simp only [stE, hb']; rfl
            split at h
            · rename_i hbw'
              subst hbw'
              split at h
              · rename_i ns v s' hx
                simp only [Option.map_eq_some_iff] at h
                obtain ⟨t', ht, rfl⟩ := h
                refine ⟨_, _, hwk, ?_⟩
                rw [hg]
                simp only [heb']
                rw [set_same heb']
                refine ⟨fun _ => step hx ht hl0 hw, fun h => ?_⟩
                cases b' <;> simp at h
              · cases h
            · cases h
          · cases h
        · rename_i hbw
          refine ⟨_, _, .refl _ _ _, ?_⟩
          rw [hg]
          simp only [heb]
          have hbn : b = !want := by cases b <;> cases want <;> simp_all
          refine ⟨fun h => (hbw h).elim, fun _ => ?_⟩
          rw [set_same (by rw [heb, hbn])]
          exact skip h hl hw
      · rename_i hb
        have heb : stE s r g = .tup [] := by simp only [stE, hb]; rfl
        refine ⟨_, _, .refl _ _ _, ?_⟩
        rw [hg]
        simp only [heb]
        exact skip h hl hw
      · split at h
        · rename_i c hc
          have hec : stE (pre fl true o.op s) r g = c.ev r := by simp only [stE, hc]; rfl
          split at h
          · rename_i ns v s' hx
            split at h
            · rename_i t1 t2 h1 h2
              simp only [Option.some.injEq] at h
              refine ⟨_, _, hwk, ?_⟩
              rw [hg]
              simp only [hec]
              have key : ∃ b, c.ev r = .v (.bool b) ∧ (b = want → wpT P L R (wrap ns t1) r S) ∧ (b = !want → wpT P L R t2 r S) := by
                subst h
                cases want
                · simp only [Bool.false_eq_true, if_false, wpT] at hw
                  split at hw
                  · rename_i b hb; exact ⟨b, hb, hw.2, fun h => hw.1 (by simpa using h)⟩
                  · exact hw.elim
                · simp only [if_true, wpT] at hw
                  split at hw
                  · rename_i b hb; exact ⟨b, hb, hw.1, fun h => hw.2 (by simpa using h)⟩
                  · exact hw.elim
              obtain ⟨b, hb, k1, k2⟩ := key
              simp only [hb]
              have e1 : ∀ b' : Bool, (stE (pre fl true o.op s) r).set g (.v (.bool b')) = stE ((pre fl true o.op s).set g (.d (.c (.v (.bool b'))))) r := fun b' => by rw [stE_set]; rfl
              refine ⟨fun hbw => ?_, fun hbw => ?_⟩
              · rw [e1]
                exact step hx h1 hl0 (k1 hbw)
              · rw [e1]
                exact skip h2 hl0 (k2 hbw)
            · cases h
          · cases h
        · cases h
      · cases h

/-- the same, where nothing may become less -/
theorem xOps_sound' {fl : List Nat} {L : AX → SS → List AV → Prop} {R : AV → Prop} {S : List (List AV → Prop)} {K : Env → List AObj → Prop} : ∀ (ops : List AOper) {s : SS} {t : T}, xOps fl false ops s = some t → ∀ {r : List AV}, r.length = s.nv → AV.norefs r = true →
    wpT P L R t r S → (∀ s' r', L .normal s' r' → More r r' s'.nv → K (stE s' r') (stO s' r')) → wpOps P ops (stE s r) (stO s r) K
  | [], s, t, h, r, hl, hr, hw, hk => by
    simp only [xOps, Option.some.injEq] at h
    subst h
    exact hk s r hw ⟨⟨[], by simp⟩, hl, hr⟩
  | o :: ops, s, t, h, r, hl, hr, hw, hk => by
    have hpre : pre fl false o.op s = s := rfl
    have step : ∀ {s0 : SS} {ns : List Node} {v : SV} {s' : SS} {t' : T}, xStep o.op s0 = some (ns, v, s') → xOps fl false ops (s'.setD o.dst v) = some t' → r.length = s0.nv → wpT P L R (wrap ns t') r S →
        wpOp P o.op (stE s0 r) (stO s0 r) fun x O' => wpOps P ops (setD (stE s0 r) o.dst x) O' K := by
      intro s0 ns v s' t' hx ht hl0 hw
      rw [wpT_wrap] at hw
      refine xStep_sound hx hl0 hr hw fun r' hG hm he => ?_
      rw [← he, ← stE_setD, ← stO_setD s' o.dst v r']
      refine xOps_sound' ops ht (by rw [nv_setD]; exact hm.len) hm.nor hG fun s2 r2 hL hm2 => hk s2 r2 hL (hm.trans hm2)
    have skip : ∀ {s0 : SS} {t' : T}, xOps fl false ops (s0.setD o.dst un) = some t' → r.length = s0.nv → wpT P L R t' r S → wpOps P ops (setD (stE s0 r) o.dst (.tup [])) (stO s0 r) K := by
      intro s0 t' ht hl0 hw
      have : (un).ev r = .tup [] := rfl
      rw [← this, ← stE_setD, ← stO_setD s0 o.dst un r]
      exact xOps_sound' ops ht (by rw [nv_setD]; exact hl0) hr hw hk
    simp only [xOps, hpre] at h
    simp only [wpOps]
    split at h
    · rename_i hg
      split at h
      · rename_i ns v s' hx
        simp only [Option.map_eq_some_iff] at h
        obtain ⟨t', ht, rfl⟩ := h
        rw [hg]
        exact step hx ht hl hw
      · cases h
    · rename_i g want hg
      split at h
      · rename_i b hb
        have heb : stE s r g = .v (.bool b) := by simp only [stE, hb]; rfl
        rw [hg]
        simp only [heb]
        split at h
        · rename_i hbw
          simp only [hb] at h
          rw [if_pos hbw] at h
          subst hbw
          split at h
          · rename_i ns v s' hx
            simp only [Option.map_eq_some_iff] at h
            obtain ⟨t', ht, rfl⟩ := h
            rw [set_same heb]
            refine ⟨fun _ => step hx ht hl hw, fun h => ?_⟩
            cases b <;> simp at h
          · cases h
        · rename_i hbw
          have hbn : b = !want := by cases b <;> cases want <;> simp_all
          refine ⟨fun h => (hbw h).elim, fun _ => ?_⟩
          rw [set_same (by rw [heb, hbn])]
          exact skip h hl hw
      · rename_i hb
        have heb : stE s r g = .tup [] := by simp only [stE, hb]; rfl
        rw [hg]
        simp only [heb]
        exact skip h hl hw
      · split at h
        · rename_i c hc
          have hec : stE s r g = c.ev r := by simp only [stE, hc]; rfl
          split at h
          · rename_i ns v s' hx
            split at h
            · rename_i t1 t2 h1 h2
              simp only [Option.some.injEq] at h
              rw [hg]
              simp only [hec]
              have key : ∃ b, c.ev r = .v (.bool b) ∧ (b = want → wpT P L R (wrap ns t1) r S) ∧ (b = !want → wpT P L R t2 r S) := by
                subst h
                cases want
                · simp only [Bool.false_eq_true, if_false, wpT] at hw
                  split at hw
                  · rename_i b hb; exact ⟨b, hb, hw.2, fun h => hw.1 (by simpa using h)⟩
                  · exact hw.elim
                · simp only [if_true, wpT] at hw
                  split at hw
                  · rename_i b hb; exact ⟨b, hb, hw.1, fun h => hw.2 (by simpa using h)⟩
                  · exact hw.elim
              obtain ⟨b, hb, k1, k2⟩ := key
              simp only [hb]
              have e1 : ∀ b' : Bool, (stE s r).set g (.v (.bool b')) = stE (s.set g (.d (.c (.v (.bool b'))))) r := fun b' => by rw [stE_set]; rfl
              refine ⟨fun hbw => ?_, fun hbw => ?_⟩
              · rw [e1]
                exact step hx h1 hl (k1 hbw)
              · rw [e1]
                exact skip h2 hl (k2 hbw)
            · cases h
          · cases h
        · cases h
      · cases h

end
end Go.Ab
