/-
  THE SYMBOLIC WALK IS SOUND: all operations.
-/
import Derived.Test.YtaaoifpijmbhoaaAbX5
set_option linter.unusedVariables false
set_option linter.unusedSimpArgs false
set_option linter.defProp false
namespace Go.Ab

section
variable {P : Program}

theorem PO.wp_imp {r : List AV} {o : PO} {K K' : AV → Prop} (h : o.wp P r K) (hk : ∀ v, K v → K' v) : o.wp P r K' := by
  cases o <;> simp only [PO.wp] at h ⊢
  case val => exact hk _ h
  case pick => exact pickK_imp (K := fun x _ => K x) (K' := fun x _ => K' x) h fun x hx => hk x hx
  case bin => exact binK_imp (K := fun x _ => K x) (K' := fun x _ => K' x) h fun x _ hx => hk x hx
  case beq => simp only [beqP] at h ⊢; split at h <;> first | exact hk _ h | exact h.elim
  case un => exact unK_imp (K := fun x _ => K x) (K' := fun x _ => K' x) h fun x _ hx => hk x hx
  case conv => exact convK_imp (K := fun x _ => K x) (K' := fun x _ => K' x) h fun x _ hx => hk x hx
  case elem => simp only [elemP] at h ⊢; split at h <;> first | exact ⟨h.1, h.2.1, h.2.2.1, hk _ h.2.2.2⟩ | exact h.elim
  case fld => exact fldK_imp (K := fun x _ => K x) (K' := fun x _ => K' x) h fun x _ hx => hk x hx
  case loadc => exact ⟨h.1, hk _ h.2⟩
  case idxS => exact idxSK_imp (K := fun x _ => K x) (K' := fun x _ => K' x) h fun x _ hx => hk x hx
  case sliceS => exact sliceSK_imp (K := fun x _ => K x) (K' := fun x _ => K' x) h fun x _ hx => hk x hx
  case sliceL => exact sliceLK_imp (K := fun x _ => K x) (K' := fun x _ => K' x) h fun x _ hx => hk x hx
  case lenS => exact lenSK_imp (K := fun x _ => K x) (K' := fun x _ => K' x) h fun x _ hx => hk x hx
  case lenL => exact lenLK_mono (K := fun x _ => K x) (K' := fun x _ => K' x) h fun x _ hx => hk x hx
  case mkl => exact hk _ h
  case rep => simp only [repP] at h ⊢; split at h <;> first | exact ⟨h.1, h.2.1, h.2.2.1, h.2.2.2.1, hk _ h.2.2.2.2⟩ | exact h.elim
  case app => exact srcOf_imp (M' := fun ys => _ ∧ _ ∧ _ ∧ K' _) h fun ys _ hK => ⟨hK.1, hK.2.1, hK.2.2.1, hk _ hK.2.2.2⟩
  case get => exact ⟨h.1, h.2.1, hk _ h.2.2⟩
  case set => exact ⟨h.1, h.2.1, h.2.2.1, h.2.2.2.1, hk _ h.2.2.2.2⟩
  case call => obtain ⟨res, h1, h2, h3, h4⟩ := h; exact ⟨res, h1, h2, h3, hk _ h4⟩
  case callv =>
    simp only [callvP] at h ⊢
    split at h
    · obtain ⟨res, h1, h2, h3, h4⟩ := h; exact ⟨res, h1, h2, h3, hk _ h4⟩
    · exact h.elim
  case ldp => simp only [ldpP] at h ⊢; split at h <;> first | exact ⟨h.1, hk _ h.2⟩ | exact h.elim
  case fap => simp only [fapP] at h ⊢; split at h <;> first | exact hk _ h | exact h.elim
theorem wpN_mono : ∀ (ns : List Node) {r : List AV} {G G' : List AV → Prop}, (∀ m, G (r ++ m) → G' (r ++ m)) → wpN P ns r G → wpN P ns r G'
  | [], r, G, G', hg, h => by have := hg []; simp only [List.append_nil] at this; exact this h
  | .op o :: ns, r, G, G', hg, h => PO.wp_imp h fun v hv => wpN_mono ns (fun m hm => by rw [List.append_assoc] at hm ⊢; exact hg _ hm) hv
  | .chk c :: ns, r, G, G', hg, h => Chk.wp_mono h (wpN_mono ns hg)

/-- a step of the symbolic walk says what the operation asks -/
def OpOk (P : Program) (op : AOp) (s : SS) (q : List Node × SV × SS) : Prop :=
  ∀ (r : List AV), r.length = s.nv → s.cl = true → AV.norefs r = true → nodesCl s.nv q.1 = true → ∀ K : KT, wpN P q.1 r (fun r' => stE q.2.2 r' = stE s r → K (q.2.1.ev r') (stO q.2.2 r')) → wpOp P op (stE s r) (stO s r) K

theorem nx_fin {s : SS} {r : List AV} (hl : r.length = s.nv) (hc : s.cl = true) {ns : List Node} (hn : nvN s.nv ns = s.nv) {o : PO} {K : KT} {x : AV} (h : stE (nx s ns o).2.2 (r ++ [x]) = stE s r → K ((nx s ns o).2.1.ev (r ++ [x])) (stO (nx s ns o).2.2 (r ++ [x]))) : K x (stO s r) := by
  have h1 : stE (nx s ns o).2.2 (r ++ [x]) = stE s r := stE_more (s := s) hl hc
  have h2 := h h1
  have h3 : stO (nx s ns o).2.2 (r ++ [x]) = stO s r := stO_more (s := s) hl hc
  rw [h3] at h2
  have h4 : (nx s ns o).2.1.ev (r ++ [x]) = x := by
    simp only [nx, SV.ev, D.ev, hn]
    exact getD_new hl x
  rwa [h4] at h2

theorem nx_hk {s : SS} {r : List AV} (hl : r.length = s.nv) (hc : s.cl = true) {o : PO} {K : KT} (h : wpN P (nx s [] o).1 r (fun r' => stE (nx s [] o).2.2 r' = stE s r → K ((nx s [] o).2.1.ev r') (stO (nx s [] o).2.2 r'))) : o.wp P r fun v => K v (stO s r) :=
  PO.wp_imp (o := o) h fun _ hv => nx_fin (ns := []) (o := o) hl hc rfl hv

theorem mov_ok (s : SS) (a : Opd) : OpOk P (.mov a) s ([], opd s a, s) := by
  intro r hl hc hr hnc K h
  have := h rfl
  rwa [opd_ev] at this

theorem alloc_ok {s : SS} {t n : Nat} {z : AV} {q} (h : xAlloc s t n z = some q) : OpOk P (.alloc t n z) s q := by
  intro r hl hc hr hnc K hk
  unfold xAlloc at h
  split at h
  · rename_i hn
    cases h
    have := hk rfl
    simp only [stO, List.map_append, List.map_cons, List.map_nil, SO.ev, SV.evs, SV.ev, D.ev, mkA] at this
    simp only [wpOp]
    rw [stO_len, hn.1]
    exact this
  · split at h
    · rename_i cs _
      split at h
      · rename_i hn
        cases h
        have := hk rfl
        have he : SV.evs r (cs.map fun a => .d (.c a)) = cs := by
          rw [SV.evs_eq, List.map_map]
          exact List.map_id cs
        simp only [stO, List.map_append, List.map_cons, List.map_nil, SO.ev, he, List.length_map, SV.ev] at this
        rw [mkA_cells (by rw [hn.2]; exact hn.1), hn.2] at this
        simp only [wpOp]
        rw [stO_len]
        exact this
      · cases h
    · cases h

theorem box_ok {s : SS} {t n : Nat} {a : Opd} {q} (ha : (opd s a).cl s.nv = true) (h : xBox s t n (opd s a) = some q) : OpOk P (.box t n a) s q := by
  intro r hl hc hr hnc K hk
  unfold xBox at h
  split at h
  · rename_i ns cs he
    split at h
    · rename_i hcs
      cases h
      obtain ⟨r', ⟨more, rfl⟩, hlen, hG, hE⟩ := expand_sound he hl ha hk
      have hG := hG (stE_more (s := s) hl hc)
      simp only [wpOp, ← opd_ev]
      have hob : stO { s with objs := s.objs ++ [.box t cs], nv := nvN s.nv ns } (r ++ more) = stO s r ++ [.live t n [(opd s a).ev r]] := by
        simp only [stO, List.map_append, List.map_cons, List.map_nil, SO.ev]
        rw [hE.mkA, hcs]
        congr 1
        exact stO_more (s := s) hl hc
      rw [hob] at hG
      rw [stO_len]
      exact ⟨hE.len, hE.sto, hG⟩
    · cases h
  · cases h

theorem bin_ok {s : SS} {o : BinOp} {a b : Opd} {x y : D} (ha : opd s a = .d x) (hb : opd s b = .d y) : OpOk P (.bin o a b) s (nx s [] (.bin o x y)) := by
  intro r hl hc hr hnc K hk
  rw [o_bin, ← opd_ev, ← opd_ev, ha, hb]
  exact binK_imp (O := []) (K := fun x _ => K x (stO s r)) (nx_hk hl hc hk) fun v _ hv => hv
theorem beq_ok {s : SS} {neg : Bool} {a b : Opd} {x y : D} (ha : opd s a = .d x) (hb : opd s b = .d y) : OpOk P (.beq neg a b) s (nx s [] (.beq neg x y)) := by
  intro r hl hc hr hnc K hk
  have h1 := nx_hk (K := K) hl hc hk
  simp only [PO.wp, beqP] at h1
  simp only [wpOp, ← opd_ev, ha, hb, SV.ev]
  split at h1
  · rename_i p q hp hq
    rw [hp, hq]
    exact h1
  · exact h1.elim
theorem un_ok {s : SS} {o : UnOp} {a : Opd} {x : D} (ha : opd s a = .d x) : OpOk P (.un o a) s (nx s [] (.un o x)) := by
  intro r hl hc hr hnc K hk
  rw [o_un, ← opd_ev, ha]
  exact unK_imp (O := []) (K := fun x _ => K x (stO s r)) (nx_hk hl hc hk) fun v _ hv => hv
theorem conv_ok {s : SS} {k : IntKind} {a : Opd} {x : D} (ha : opd s a = .d x) : OpOk P (.convInt k a) s (nx s [] (.conv k x)) := by
  intro r hl hc hr hnc K hk
  rw [o_conv, ← opd_ev, ha]
  exact convK_imp (O := []) (K := fun x _ => K x (stO s r)) (nx_hk hl hc hk) fun v _ hv => hv
theorem idxS_ok {s : SS} {a b : Opd} {x y : D} (ha : opd s a = .d x) (hb : opd s b = .d y) : OpOk P (.idxS a b) s (nx s [] (.idxS x y)) := by
  intro r hl hc hr hnc K hk
  rw [o_idxS, ← opd_ev, ← opd_ev, ha, hb]
  exact idxSK_imp (O := []) (K := fun x _ => K x (stO s r)) (nx_hk hl hc hk) fun v _ hv => hv
theorem lenS_ok {s : SS} {a : Opd} {x : D} (ha : opd s a = .d x) : OpOk P (.lenS a) s (nx s [] (.lenS x)) := by
  intro r hl hc hr hnc K hk
  rw [o_lenS, ← opd_ev, ha]
  exact lenSK_imp (O := []) (K := fun x _ => K x (stO s r)) (nx_hk hl hc hk) fun v _ hv => hv
theorem lenL_ok {s : SS} {a : Opd} {x : D} (ha : opd s a = .d x) : OpOk P (.lenL a) s (nx s [] (.lenL x)) := by
  intro r hl hc hr hnc K hk
  rw [o_lenL, ← opd_ev, ha]
  exact lenLK_imp (K := fun x _ => K x (stO s r)) (nx_hk hl hc hk) fun v _ hv => hv
theorem listOf_sl (xs : List AV) : listOf (.sl xs) = xs := rfl
/-- a row's length, its contents -/
theorem row_cases {s : SS} {n e sz : Nat} {nl : Bool} {l : D} (h : s.objs[n]? = some (.row nl e sz l)) (r : List AV) :
    (stO s r)[n]? = some (.live e sz (listOf (l.ev r))) ∨ ((stO s r)[n]? = some (.nil e sz) ∧ listOf (l.ev r) = [] ∧ nl = true) := by
  have := stO_get h r
  cases nl with
  | false => exact .inl this
  | true =>
    simp only [SO.ev] at this
    split at this
    · rename_i hx; exact .inr ⟨this, hx, rfl⟩
    · exact .inl this
theorem lenLr_ok {s : SS} {a : Opd} {k : Nat} {l : D} (ha : opd s a = .row k l) (hcur : (cur s k l).isSome = true) : OpOk P (.lenL a) s (nx s [] (.lenL (.sl l))) := by
  intro r hl hc hr hnc K hk
  rw [o_lenL, ← opd_ev, ha]
  obtain ⟨⟨nl, e, sz⟩, hq⟩ := Option.isSome_iff_exists.1 hcur
  have ho := cur_sound hq
  have hf := nx_hk hl hc hk
  simp only [PO.wp, D.ev, lenLK_sl, k1] at hf
  simp only [SV.ev, lenLK]
  rcases row_cases ho r with h | ⟨h, hx, _⟩
  · rw [h, objN_live]; exact ⟨rfl, hf⟩
  · rw [hx] at hf ⊢
    rw [h, objN_nil]; exact ⟨rfl, hf⟩
theorem sliceS_ok {s : SS} {a : Opd} {lo hi : Option Opd} {x : D} {dl dh : Option D} (ha : opd s a = .d x) (h1 : xOpt s lo = some dl) (h2 : xOpt s hi = some dh) : OpOk P (.sliceS a lo hi) s (nx s [] (.sliceS x dl dh)) := by
  intro r hl hc hr hnc K hk
  rw [o_sliceS, ← opd_ev, ha, ← D.evo_opt h1, ← D.evo_opt h2]
  exact sliceSK_imp (O := []) (K := fun x _ => K x (stO s r)) (nx_hk hl hc hk) fun v _ hv => hv
theorem sliceL_ok {s : SS} {m : Nat} {a : Opd} {lo hi : Option Opd} {x : D} {dl dh : Option D} (ha : opd s a = .d x) (h1 : xOpt s lo = some dl) (h2 : xOpt s hi = some dh) : OpOk P (.sliceL m a lo hi) s (nx s [] (.sliceL m x dl dh)) := by
  intro r hl hc hr hnc K hk
  rw [o_sliceL, ← opd_ev, ha, ← D.evo_opt h1, ← D.evo_opt h2]
  exact sliceLK_imp (O := []) (K := fun x _ => K x (stO s r)) (nx_hk hl hc hk) fun v _ hv => hv

theorem pick_ok {s : SS} {c a b : Opd} {x : D} {na nb : List Node} {y z : D} (hc' : opd s c = .d x) (ha : asD s.kn (opd s a) = some (na, y)) (hb : asD s.kn (opd s b) = some (nb, z)) : OpOk P (.pick c a b) s (nx s (na ++ nb) (.pick x y z)) := by
  intro r hl hc hr hnc K hk
  have h1 : nvN s.nv (na ++ nb) = s.nv := by rw [nvN_append, asD_nv ha, asD_nv hb]
  simp only [nx, wpN_append] at hk
  obtain ⟨hk, e1⟩ := asD_sound ha hk
  obtain ⟨hk, e2⟩ := asD_sound hb hk
  rw [o_pick, ← opd_ev, ← opd_ev, ← opd_ev, hc', ← e1, ← e2]
  have := PO.wp_imp (o := .pick x y z) hk fun v hv => nx_fin (o := .pick x y z) (K := K) hl hc h1 hv
  exact pickK_imp (O := []) (K := fun x _ => K x (stO s r)) this fun v hv => hv
theorem pickc_ok {s : SS} {c a b : Opd} {t : Bool} (hc' : opd s c = .d (.c (.v (.bool t)))) : OpOk P (.pick c a b) s ([], if t then opd s a else opd s b, s) := by
  intro r hl hc hr hnc K hk
  have := hk rfl
  rw [o_pick, ← opd_ev, hc']
  simp only [SV.ev, D.ev, pickK]
  cases t <;> simpa [opd_ev] using this

theorem norm_fin {s : SS} {r : List AV} (hl : r.length = s.nv) (hc : s.cl = true) {ns : List Node} {cs : List SV} {K : KT}
    (h : wpN P (norm s ns cs).1 r (fun r2 => stE (norm s ns cs).2.2 r2 = stE s r → K ((norm s ns cs).2.1.ev r2) (stO (norm s ns cs).2.2 r2))) : wpN P ns r (fun r2 => K (.agg (SV.evs r2 cs)) (stO s r)) := by
  unfold norm at h
  split at h
  · rename_i ms x hx
    simp only [done, wpN_append] at h
    refine wpN_mono ns (fun m h2 => ?_) h
    obtain ⟨h3, h4⟩ := asD_sound hx h2
    have h5 := h3 (stE_more (s := s) hl hc)
    simp only [SV.ev] at h5 h4
    rw [h4] at h5
    have : stO { s with nv := nvN s.nv (ns ++ ms) } (r ++ m) = stO s r := stO_more (s := s) hl hc
    rwa [this] at h5
  · simp only [done] at h
    refine wpN_mono ns (fun m h2 => ?_) h
    have h5 := h2 (stE_more (s := s) hl hc)
    simp only [SV.ev] at h5
    have : stO { s with nv := nvN s.nv ns } (r ++ m) = stO s r := stO_more (s := s) hl hc
    rwa [this] at h5

end
end Go.Ab
