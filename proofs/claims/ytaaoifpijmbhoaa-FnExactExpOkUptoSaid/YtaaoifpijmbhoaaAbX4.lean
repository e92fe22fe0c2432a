/-
  THE SYMBOLIC WALK IS SOUND, operation by operation.
-/
import Derived.Test.YtaaoifpijmbhoaaAbX3
set_option linter.unusedVariables false
set_option linter.unusedSimpArgs false
set_option linter.defProp false
namespace Go.Ab

def wpN (P : Program) : List Node → List AV → (List AV → Prop) → Prop
  | [], r, K => K r
  | .op o :: ns, r, K => o.wp P r fun v => wpN P ns (r ++ [v]) K
  | .chk c :: ns, r, K => c.wp r (wpN P ns r K)

section
variable {P : Program}

theorem wpT_wrap {L : AX → SS → List AV → Prop} {R : AV → Prop} {t : T} {S : List (List AV → Prop)} : ∀ (ns : List Node) (r : List AV), wpT P L R (wrap ns t) r S = wpN P ns r fun r' => wpT P L R t r' S
  | [], r => rfl
  | .op o :: ns, r => by simp only [wrap, wpT, wpN, wpT_wrap ns]
  | .chk c :: ns, r => by simp only [wrap, wpT, wpN, wpT_wrap ns]

theorem pickK_imp {c a b : AV} {O O' : List AObj} {K K' : KT} (h : pickK c a b O K) (hk : ∀ x, K x O → K' x O') : pickK c a b O' K' := by
  unfold pickK at *; split at h <;> first | exact hk _ h | exact h.elim
theorem binK_imp {op : BinOp} {a b : AV} {O O' : List AObj} {K K' : KT} (h : binK op a b O K) (hk : ∀ x, (∃ v, x = .v v) → K x O → K' x O') : binK op a b O' K' := by
  unfold binK at *; split at h
  · split at h <;> first | exact hk _ ⟨_, rfl⟩ h | exact h.elim
  · exact h.elim
theorem unK_imp {op : UnOp} {a : AV} {O O' : List AObj} {K K' : KT} (h : unK op a O K) (hk : ∀ x, (∃ v, x = .v v) → K x O → K' x O') : unK op a O' K' := by
  unfold unK at *; split at h
  · split at h <;> first | exact hk _ ⟨_, rfl⟩ h | exact h.elim
  · exact h.elim
theorem convK_imp {k : IntKind} {a : AV} {O O' : List AObj} {K K' : KT} (h : convK k a O K) (hk : ∀ x, (∃ v, x = .v v) → K x O → K' x O') : convK k a O' K' := by
  unfold convK at *; split at h <;> first | exact hk _ ⟨_, rfl⟩ h | exact h.elim
theorem loadC_noref {n : Option Nat} {a : AV} {f : Nat} (h : a.noref = true) : (loadC n a f).noref = true := by
  unfold loadC
  split
  · exact getD_noref (cells_norefs h) f
  · split
    · exact h
    · exact norefs_of fun x hx => norefs_mem (cells_norefs h) x (List.mem_of_mem_drop (List.mem_of_mem_take hx))
theorem fldK_imp {off : Nat} {n : Option Nat} {a : AV} {O O' : List AObj} {K K' : KT} (h : fldK off n a O K) (hk : ∀ x, (a.noref = true → x.noref = true) → K x O → K' x O') : fldK off n a O' K' :=
  ⟨h.1, h.2.1, hk _ loadC_noref h.2.2⟩
theorem idxSK_imp {a i : AV} {O O' : List AObj} {K K' : KT} (h : idxSK a i O K) (hk : ∀ x, (∃ v, x = .v v) → K x O → K' x O') : idxSK a i O' K' := by
  unfold idxSK at *; split at h <;> first | exact ⟨h.1, h.2.1, hk _ ⟨_, rfl⟩ h.2.2⟩ | exact h.elim
theorem lenSK_imp {a : AV} {O O' : List AObj} {K K' : KT} (h : lenSK a O K) (hk : ∀ x, (∃ v, x = .v v) → K x O → K' x O') : lenSK a O' K' := by
  unfold lenSK at *; split at h <;> first | exact hk _ ⟨_, rfl⟩ h | exact h.elim
theorem bnd_imp {d : Int} {x : Option AV} {M M' : Int → Prop} (h : bnd d x M) (hm : ∀ i, M i → M' i) : bnd d x M' := by
  unfold bnd at *; split at h <;> first | exact hm _ h | exact h.elim
theorem sliceSK_imp {a : AV} {lo hi : Option AV} {O O' : List AObj} {K K' : KT} (h : sliceSK a lo hi O K) (hk : ∀ x, (∃ v, x = .v v) → K x O → K' x O') : sliceSK a lo hi O' K' := by
  unfold sliceSK at *; split at h
  · exact bnd_imp h fun l hl => bnd_imp hl fun h' hh => ⟨hh.1, hh.2.1, hh.2.2.1, hk _ ⟨_, rfl⟩ hh.2.2.2⟩
  · exact h.elim
theorem sliceLK_imp {s : Nat} {a : AV} {lo hi : Option AV} {O O' : List AObj} {K K' : KT} (h : sliceLK s a lo hi O K) (hk : ∀ x, (a.noref = true → x.noref = true) → K x O → K' x O') : sliceLK s a lo hi O' K' := by
  unfold sliceLK at *; split at h
  · rename_i xs
    exact bnd_imp h fun l hl => bnd_imp hl fun h' hh => ⟨hh.1, hh.2.1, hh.2.2.1, hh.2.2.2.1, hk _ (fun hn => norefs_of fun x hx => norefs_mem (by exact hn) x (List.mem_of_mem_take (List.mem_of_mem_drop hx))) hh.2.2.2.2⟩
  · exact h.elim
/-- plain: rows are none -/
theorem lenLK_imp {a : AV} {O' : List AObj} {K K' : KT} (h : lenLK a [] K) (hk : ∀ x, (∃ v, x = .v v) → K x [] → K' x O') : lenLK a O' K' := by
  unfold lenLK at *
  split at h
  · exact hk _ ⟨_, rfl⟩ h
  · exact hk _ ⟨_, rfl⟩ h
  · simp [objN] at h
  · exact h.elim
theorem lenLK_mono {a : AV} {K K' : KT} (h : lenLK a [] K) (hk : ∀ x, (∃ v, x = .v v) → K x [] → K' x []) : lenLK a [] K' := lenLK_imp h hk

theorem srcOf_imp {y : AV} {M M' : List AV → Prop} (h : srcOf [] y M) (hm : ∀ ys, (y.noref = true → AV.norefs ys = true) → M ys → M' ys) : srcOf [] y M' := by
  unfold srcOf at *
  split at h
  · exact hm _ (fun _ => rfl) h
  · exact hm _ (fun h => h) h
  · simp [objN] at h
  · exact h.elim

/-- a new value: what it says is kept, and it has no references -/
theorem PO.wp_mono {r : List AV} (hr : AV.norefs r = true) {o : PO} (hc : nodesCl r.length [.op o] = true) {K K' : AV → Prop} (h : o.wp P r K) (hk : ∀ v, v.noref = true → K v → K' v) : o.wp P r K' := by
  have hv : ∀ x : AV, (∃ v, x = .v v) → x.noref = true := by rintro _ ⟨v, rfl⟩; rfl
  cases o <;> simp only [nodesCl, PO.cl, Bool.and_true, Bool.and_eq_true] at hc <;> simp only [PO.wp] at h ⊢
  case val x => exact hk _ (D.ev_noref hr x hc) h
  case pick c a b =>
    refine pickK_imp (K := fun x _ => (x = a.ev r ∨ x = b.ev r) ∧ K x) (K' := fun x _ => K' x) ?_ (fun x hx => hk x ?_ hx.2) (O := [])
    · simp only [pickK] at h ⊢
      split at h
      · rename_i t _; exact ⟨by cases t <;> simp, h⟩
      · exact h.elim
    · rcases hx.1 with rfl | rfl
      · exact D.ev_noref hr a hc.1.2
      · exact D.ev_noref hr b hc.2
  case bin op a b => exact binK_imp (K := fun x _ => K x) (K' := fun x _ => K' x) h fun x hx hK => hk x (hv x hx) hK
  case beq neg a b => simp only [beqP] at h ⊢; split at h <;> first | exact hk _ rfl h | exact h.elim
  case un op a => exact unK_imp (K := fun x _ => K x) (K' := fun x _ => K' x) h fun x hx hK => hk x (hv x hx) hK
  case conv k a => exact convK_imp (K := fun x _ => K x) (K' := fun x _ => K' x) h fun x hx hK => hk x (hv x hx) hK
  case elem s l i =>
    simp only [elemP] at h ⊢
    split at h
    · rename_i xs _ i hl _
      refine ⟨h.1, h.2.1, h.2.2.1, hk _ (getD_noref ?_ _) h.2.2.2⟩
      have := D.ev_noref hr l hc.1
      rw [hl] at this; exact this
    · exact h.elim
  case fld off n a => exact fldK_imp (K := fun x _ => K x) (K' := fun x _ => K' x) h fun x hx hK => hk x (hx (D.ev_noref hr a hc)) hK
  case loadc f m a => exact ⟨h.1, hk _ (loadC_noref (D.ev_noref hr a hc)) h.2⟩
  case idxS a i => exact idxSK_imp (K := fun x _ => K x) (K' := fun x _ => K' x) h fun x hx hK => hk x (hv x hx) hK
  case sliceS a lo hi => exact sliceSK_imp (K := fun x _ => K x) (K' := fun x _ => K' x) h fun x hx hK => hk x (hv x hx) hK
  case sliceL s a lo hi => exact sliceLK_imp (K := fun x _ => K x) (K' := fun x _ => K' x) h fun x hx hK => hk x (hx (D.ev_noref hr a hc)) hK
  case lenS a => exact lenSK_imp (K := fun x _ => K x) (K' := fun x _ => K' x) h fun x hx hK => hk x (hv x hx) hK
  case lenL a => exact lenLK_mono (K := fun x _ => K x) (K' := fun x _ => K' x) h fun x hx hK => hk x (hv x hx) hK
  case mkl z n ps =>
    refine hk _ ?_ h
    have key : ∀ (ps : List (Nat × D)) (z : List AV), AV.norefs z = true → ps.all (fun p => p.2.cl r.length) = true → AV.norefs (setAll z (ps.map fun p => (p.1, p.2.ev r))) = true := by
      intro ps
      induction ps with
      | nil => intro z hz _; exact hz
      | cons p ps ih =>
        intro z hz hp
        simp only [List.all_cons, Bool.and_eq_true] at hp
        simp only [List.map_cons, setAll]
        refine ih _ (norefs_of fun a ha => ?_) hp.2
        rcases List.mem_or_eq_of_mem_set ha with h | rfl
        · exact norefs_mem hz a h
        · exact D.ev_noref hr _ hp.1
    exact key ps _ (norefs_of fun a ha => by rw [List.eq_of_mem_replicate ha]; exact hc.1) hc.2
  case rep bytes z n c =>
    simp only [repP] at h ⊢
    split at h
    · exact ⟨h.1, h.2.1, h.2.2.1, h.2.2.2.1, hk _ (norefs_of fun a ha => by rw [List.eq_of_mem_replicate ha]; exact hc) h.2.2.2.2⟩
    · exact h.elim
  case app s b l y =>
    refine srcOf_imp (M' := fun ys => _ ∧ _ ∧ _ ∧ K' _) h fun ys hys hK => ⟨hK.1, hK.2.1, hK.2.2.1, hk _ ?_ hK.2.2.2⟩
    show AV.norefs _ = true
    rw [norefs_append, listOf_norefs (D.ev_noref hr l hc.1), hys (D.ev_noref hr y hc.2)]; rfl
  case get l i f n => exact ⟨h.1, h.2.1, hk _ (loadC_noref (getD_noref (listOf_norefs (D.ev_noref hr l hc)) _)) h.2.2⟩
  case set l i f m y =>
    obtain ⟨h1, h2, h3, h4, h5⟩ := h
    have hl := listOf_norefs (D.ev_noref hr l hc.1)
    have hy := D.ev_noref hr y hc.2
    refine ⟨h1, h2, h3, h4, hk _ (norefs_of fun a ha => ?_) h5⟩
    rcases List.mem_or_eq_of_mem_set ha with h | rfl
    · exact norefs_mem hl a h
    · have hx := getD_noref hl (idxOf (i.ev r))
      unfold upd
      split
      · exact hy
      · refine norefs_of fun a ha => ?_
        simp only [List.mem_append] at ha
        rcases ha with (ha | ha) | ha
        · exact norefs_mem (cells_norefs hx) a (List.mem_of_mem_take ha)
        · exact norefs_mem (cells_norefs hy) a ha
        · exact norefs_mem (cells_norefs hx) a (List.mem_of_mem_drop ha)
  case call f as b => obtain ⟨res, h1, h2, h3, h4⟩ := h; exact ⟨res, h1, h2, h3, hk _ h2 h4⟩
  case callv g as b =>
    simp only [callvP] at h ⊢
    split at h
    · obtain ⟨res, h1, h2, h3, h4⟩ := h; exact ⟨res, h1, h2, h3, hk _ h2 h4⟩
    · exact h.elim
  case ldp n a =>
    simp only [ldpP] at h ⊢
    split at h
    · rename_i y f hy
      refine ⟨h.1, hk _ (loadC_noref ?_) h.2⟩
      have := D.ev_noref hr a hc
      rw [hy] at this; exact this
    · exact h.elim
  case fap off a =>
    simp only [fapP] at h ⊢
    split at h
    · rename_i y f hy
      refine hk _ ?_ h
      have := D.ev_noref hr a hc
      rw [hy] at this; exact this
    · exact h.elim

theorem Chk.wp_mono {r : List AV} {c : Chk} {K K' : Prop} (h : c.wp r K) (hk : K → K') : c.wp r K' := by
  cases c
  case cells => exact ⟨h.1, h.2.1, h.2.2.1, hk h.2.2.2⟩
  case one => exact ⟨h.1, h.2.1, hk h.2.2⟩
  case lt => exact ⟨h.1, hk h.2⟩
  case tup a j => simp only [Chk.wp, tupP] at h ⊢; split at h <;> first | exact ⟨h.1, hk h.2⟩ | exact h.elim
  case idx l i => simp only [Chk.wp, idxP] at h ⊢; split at h <;> first | exact ⟨h.1, h.2.1, hk h.2.2⟩ | exact h.elim
  case isFn a => simp only [Chk.wp, isFnP] at h ⊢; split at h <;> first | exact hk h | exact h.elim
  case ne => exact ⟨h.1, hk h.2⟩

/-- what is known of the names behind some nodes -/
structure More (r r' : List AV) (n : Nat) : Prop where
  pre : ∃ m, r' = r ++ m
  len : r'.length = n
  nor : AV.norefs r' = true

theorem wpN_more : ∀ (ns : List Node) {r : List AV} {K K' : List AV → Prop}, AV.norefs r = true → nodesCl r.length ns = true → wpN P ns r K → (∀ r', More r r' (nvN r.length ns) → K r' → K' r') → wpN P ns r K'
  | [], r, K, K', hr, _, h, hk => hk r ⟨⟨[], by simp⟩, rfl, hr⟩ h
  | .op o :: ns, r, K, K', hr, hc, h, hk => by
    have hc0 : nodesCl r.length [.op o] = true ∧ nodesCl (r.length + 1) ns = true := by
      simp only [nodesCl, Bool.and_eq_true, Bool.and_true] at hc ⊢
      exact hc
    refine PO.wp_mono hr hc0.1 h fun v hv hK => ?_
    refine wpN_more ns (r := r ++ [v]) (by rw [norefs_append, hr]; simp [AV.norefs, hv]) (by simpa using hc0.2) hK fun r' hm hK' => hk r' ⟨?_, ?_, hm.nor⟩ hK'
    · obtain ⟨m, rfl⟩ := hm.pre
      exact ⟨v :: m, by simp⟩
    · rw [hm.len]; simp [nvN]
  | .chk c :: ns, r, K, K', hr, hc, h, hk => Chk.wp_mono h fun h' => wpN_more ns hr (by simpa [nodesCl] using hc) h' hk

theorem wpN_append : ∀ (a b : List Node) (r : List AV) (K : List AV → Prop), wpN P (a ++ b) r K = wpN P a r fun r' => wpN P b r' K
  | [], b, r, K => rfl
  | .op o :: a, b, r, K => by simp only [List.cons_append, wpN, wpN_append a]
  | .chk c :: a, b, r, K => by simp only [List.cons_append, wpN, wpN_append a]

end
end Go.Ab
