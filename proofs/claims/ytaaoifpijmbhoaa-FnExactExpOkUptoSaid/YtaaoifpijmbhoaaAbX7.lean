/-
  THE SYMBOLIC WALK IS SOUND: structs, rows, loads, stores, calls.
-/
import Derived.Test.YtaaoifpijmbhoaaAbX6
set_option linter.unusedVariables false
set_option linter.unusedSimpArgs false
set_option linter.defProp false
namespace Go.Ab

section
variable {P : Program}

theorem evs_more' {r m : List AV} {cs : List SV} (h : ∀ c ∈ cs, c.cl r.length = true) : SV.evs (r ++ m) cs = SV.evs r cs := SV.evs_more cs (scls_all.2 h)

theorem expand_cl {nv m : Nat} {v : SV} {ns : List Node} {cs : List SV} (h : expand nv m v = some (ns, cs)) (hv : v.cl nv = true) : ∀ c ∈ cs, c.cl (nvN nv ns) = true := by
  unfold expand at h
  split at h
  · split at h
    · cases h; simpa [SV.cl, nvN] using hv
    · cases h
    · cases h
    · cases h; simpa [nvN] using hv
  · split at h
    · split at h
      · cases h; rw [ones_nv]; exact scls_all.1 hv
      · cases h
    · cases h
      simp only [List.mem_map, nvN]
      rintro c ⟨j, _, rfl⟩
      exact hv
    · split at h
      · cases h
        simp only [List.mem_map, nvN]
        rintro c ⟨d, hd, rfl⟩
        exact cls_all.1 (by simpa [SV.cl, D.cl] using hv) d hd
      · cases h
    · split at h
      · cases h
        simp only [List.mem_map, nvN]
        rintro c ⟨d, hd, rfl⟩
        exact norefs_mem (by simpa [SV.cl, D.cl, AV.noref] using hv) d hd
      · cases h
    · cases h
      simp only [List.mem_map, nvN]
      rintro c ⟨j, _, rfl⟩
      simp [SV.cl, D.cl]
    · cases h

mutual
theorem cl_le {n m : Nat} (h : n ≤ m) : ∀ (d : D), d.cl n = true → d.cl m = true
  | .x i => by simp only [D.cl, decide_eq_true_eq]; omega
  | .c a => id
  | .cell i j => by simp only [D.cl, decide_eq_true_eq]; omega
  | .ext i j => by simp only [D.cl, decide_eq_true_eq]; omega
  | .sl l => by simpa only [D.cl] using cl_le h l
  | .agg l => by simpa only [D.cl] using cls_le h l
  | .fn f l => by simpa only [D.cl] using cls_le h l
  | .ip d f => by simpa only [D.cl] using cl_le h d
theorem cls_le {n m : Nat} (h : n ≤ m) : ∀ (l : List D), D.cls n l = true → D.cls m l = true
  | [] => id
  | d :: l => by
    simp only [D.cls, Bool.and_eq_true]
    exact fun q => ⟨cl_le h d q.1, cls_le h l q.2⟩
end
mutual
theorem scl_le {n m : Nat} (h : n ≤ m) : ∀ (v : SV), v.cl n = true → v.cl m = true
  | .d x => cl_le h x
  | .row k l => cl_le h l
  | .ptr k f => id
  | .rp k l i f => by simp only [SV.cl, Bool.and_eq_true]; exact fun q => ⟨cl_le h l q.1, cl_le h i q.2⟩
  | .ip x f => cl_le h x
  | .agg cs => by simpa only [SV.cl] using scls_le h cs
  | .top => id
theorem scls_le {n m : Nat} (h : n ≤ m) : ∀ (l : List SV), SV.cls n l = true → SV.cls m l = true
  | [] => id
  | d :: l => by
    simp only [SV.cls, Bool.and_eq_true]
    exact fun q => ⟨scl_le h d q.1, scls_le h l q.2⟩
end

theorem nvN_le : ∀ (ns : List Node) (nv : Nat), nv ≤ nvN nv ns
  | [], nv => Nat.le_refl _
  | .op o :: ns, nv => Nat.le_trans (Nat.le_succ _) (nvN_le ns (nv + 1))
  | .chk c :: ns, nv => nvN_le ns nv

theorem opd_cl' {s : SS} (h : s.cl = true) {x : Opd} (hx : opdOk x = true) : (opd s x).cl s.nv = true := by
  cases x with
  | t n => exact SS.cl_env h n
  | c a => exact hx

theorem parts_sound {s : SS} (hc : s.cl = true) : ∀ (ps : List (Nat × Nat × Opd)) (ns : List Node) (cs : List SV) {ns' : List Node} {cs' : List SV}, xParts s ns cs ps = some (ns', cs') → ps.all (fun p => opdOk p.2.2) = true → (∀ c ∈ cs, c.cl (nvN s.nv ns) = true) →
    ∃ ms, ns' = ns ++ ms ∧ ∀ (r : List AV), r.length = s.nv → ∀ (r1 : List AV), (∃ m, r1 = r ++ m) → r1.length = nvN s.nv ns → ∀ {M : AV → Prop} {G : List AV → Prop}, wpN P ms r1 G → (∀ m, G (r1 ++ m) → M (.agg (SV.evs (r1 ++ m) cs'))) → buildK (stE s r) (SV.evs r1 cs) ps M
  | [], ns, cs, ns', cs', h, _, _ => by
    simp only [xParts, Option.some.injEq, Prod.mk.injEq] at h
    obtain ⟨rfl, rfl⟩ := h
    refine ⟨[], by simp, fun r _ r1 _ _ M G hw hG => ?_⟩
    have := hG [] (by rw [List.append_nil]; exact hw)
    simpa [buildK] using this
  | (off, size, x) :: ps, ns, cs, ns', cs', h, ho, hcs => by
    simp only [xParts] at h
    split at h
    · rename_i ms vs he
      split at h
      · rename_i hv
        simp only [List.all_cons, Bool.and_eq_true] at ho
        have hx : (opd s x).cl (nvN s.nv ns) = true := scl_le (nvN_le ns s.nv) _ (opd_cl' hc ho.1)
        have hvc := expand_cl he hx
        obtain ⟨ms', rfl, ih⟩ := parts_sound hc ps _ _ h ho.2 (by
          intro c hm
          rw [nvN_append]
          simp only [List.mem_append] at hm
          have hle := nvN_le ms (nvN s.nv ns)
          rcases hm with (hm | hm) | hm
          · exact scl_le hle c (hcs c (List.mem_of_mem_take hm))
          · exact hvc c hm
          · exact scl_le hle c (hcs c (List.mem_of_mem_drop hm)))
        refine ⟨ms ++ ms', by simp, fun r hl r1 hp hl1 M G hw hG => ?_⟩
        rw [wpN_append] at hw
        obtain ⟨r2, ⟨m, rfl⟩, hl2, hw2, hE⟩ := expand_sound he hl1 hx hw
        have hev : (opd s x).ev r1 = x.ev (stE s r) := by
          obtain ⟨m0, rfl⟩ := hp
          rw [SV.ev_more _ (by rw [hl]; exact opd_cl' hc ho.1), opd_ev]
        rw [hev] at hE
        simp only [buildK]
        refine ⟨hE.len, hE.kind, by rw [SV.evs_eq, List.length_map]; exact hv.2, ?_⟩
        have hcl2 : SV.evs (r1 ++ m) cs = SV.evs r1 cs := evs_more' (by rw [hl1]; exact hcs)
        have h1 : (SV.evs r1 cs).take off ++ (x.ev (stE s r)).cells ++ (SV.evs r1 cs).drop (off + size) = SV.evs (r1 ++ m) (cs.take off ++ vs ++ cs.drop (off + size)) := by
          rw [hE.cells, ← hcl2]
          simp only [SV.evs_eq, List.map_append, List.map_take, List.map_drop]
        rw [h1]
        exact ih r hl (r1 ++ m) (by obtain ⟨m0, rfl⟩ := hp; exact ⟨m0 ++ m, by simp⟩) (by rw [hl2, nvN_append]) hw2 fun m' hm' => by
          rw [List.append_assoc] at hm' ⊢; exact hG _ hm'
      · cases h
    · cases h

theorem build_ok {s : SS} {z : List AV} {ps : List (Nat × Nat × Opd)} {q} (ho : ps.all (fun p => opdOk p.2.2) = true) (hz : AV.norefs z = true) (h : xBuild s z ps = some q) : OpOk P (.build z ps) s q := by
  intro r hl hc hr hnc K hk
  unfold xBuild at h
  split at h
  · rename_i ns cs hp
    cases h
    obtain ⟨ms, rfl, hs⟩ := parts_sound (P := P) hc ps [] _ hp ho (by
      simp only [List.mem_map]; rintro c ⟨a, ha, rfl⟩; exact norefs_mem hz a ha)
    have := norm_fin (K := K) hl hc hk
    have he : SV.evs r (z.map fun a => .d (.c a)) = z := by
      rw [SV.evs_eq, List.map_map]; exact List.map_id z
    have h2 := hs r hl r ⟨[], by simp⟩ (by simp [hl, nvN]) (M := fun a => K a (stO s r)) this (fun m hm => hm)
    rw [he] at h2
    exact h2
  · cases h

theorem chkOf_sound {m : Nat} {d : D} {r : List AV} {G : List AV → Prop} (h : wpN P [chkOf m d] r G) : G r ∧ Exp1 m (d.ev r) (d.ev r).cells := by
  unfold chkOf at h
  split at h
  · rename_i hm
    subst hm
    obtain ⟨h1, h2, h3⟩ := h
    exact ⟨h3, h1, storable_of_cell h2, rfl, by rw [h2]; rfl, fun _ => h2, fun h => (h rfl).elim⟩
  · rename_i hm
    obtain ⟨h1, h2, h3, h4⟩ := h
    exact ⟨h4, h2, h3, rfl, by rw [h1]; simp, fun h => (hm h).elim, fun _ => h1⟩
theorem chkOf_nv (m : Nat) (d : D) (nv : Nat) : nvN nv [chkOf m d] = nv := by unfold chkOf; split <;> rfl

theorem elems_sound {s : SS} {m len : Nat} : ∀ {ps : List (Nat × Opd)} {ns : List Node} {qs : List (Nat × D)}, xElems s m len ps = some (ns, qs) → nvN s.nv ns = s.nv ∧ ∀ {r : List AV} {G : List AV → Prop}, wpN P ns r G → G r ∧
    ∀ (z : List AV) (M : List AV → Prop), z.length = len → M (setAll z (qs.map fun p => (p.1, p.2.ev r))) → rowK (stE s r) m z ps M
  | [], ns, qs, h => by
    simp only [xElems, Option.some.injEq, Prod.mk.injEq] at h
    obtain ⟨rfl, rfl⟩ := h
    exact ⟨rfl, fun hw => ⟨hw, fun z M _ hM => hM⟩⟩
  | (i, x) :: ps, ns, qs, h => by
    simp only [xElems] at h
    split at h
    · rename_i ns1 d ms qs1 h1 h2
      split at h
      · rename_i hi
        cases h
        obtain ⟨h3, ih⟩ := elems_sound h2
        refine ⟨?_, fun {r G} hw => ?_⟩
        · rw [show ns1 ++ chkOf m d :: ms = ns1 ++ ([chkOf m d] ++ ms) by simp, nvN_append, nvN_append, asD_nv h1, chkOf_nv, h3]
        · rw [show ns1 ++ chkOf m d :: ms = ns1 ++ ([chkOf m d] ++ ms) by simp, wpN_append] at hw
          obtain ⟨hw, he⟩ := asD_sound h1 hw
          rw [wpN_append] at hw
          obtain ⟨hw, hE⟩ := chkOf_sound hw
          obtain ⟨hG, hrow⟩ := ih hw
          refine ⟨hG, fun z M hz hM => ?_⟩
          rw [he, opd_ev] at hE
          simp only [rowK]
          refine ⟨hE.len, hE.sto, by omega, hrow _ M (by simpa using hz) ?_⟩
          simp only [List.map_cons, setAll, he, opd_ev] at hM
          exact hM
      · cases h
    · cases h

theorem newRow_fin {s : SS} {t m : Nat} {ns : List Node} {o : PO} {q} (h : newRow s t m (nx s ns o) = some q) (hn : nvN s.nv ns = s.nv) {r : List AV} (hl : r.length = s.nv) (hc : s.cl = true) {K : KT}
    (hk : wpN P q.1 r (fun r' => stE q.2.2 r' = stE s r → K (q.2.1.ev r') (stO q.2.2 r'))) :
    wpN P ns r fun r1 => r1 = r → o.wp P r fun v => K (.row s.objs.length (listOf v).length) (stO s r ++ [.live t m (listOf v)]) := by
  simp only [newRow, nx, Option.some.injEq] at h
  subst h
  simp only [wpN_append] at hk
  refine wpN_mono ns (fun mm hw he => ?_) hk
  rw [he] at hw
  refine PO.wp_imp (o := o) hw fun v hv => ?_
  have h1 : stE { s with objs := s.objs ++ [.row false t m (.x (nvN s.nv ns))], nv := nvN s.nv ns + 1 } (r ++ [v]) = stE s r := stE_more (s := s) hl hc
  have h2 := hv h1
  have h3 : stO { s with objs := s.objs ++ [.row false t m (.x (nvN s.nv ns))], nv := nvN s.nv ns + 1 } (r ++ [v]) = stO s r ++ [.live t m (listOf v)] := by
    simp only [stO, List.map_append, List.map_cons, List.map_nil, SO.ev, D.ev, hn, getD_new hl]
    congr 1
    exact stO_more (s := s) hl hc
  rw [h3] at h2
  simp only [SV.ev, D.ev, hn, getD_new hl] at h2
  exact h2

theorem buildSlice_ok {s : SS} {t m len : Nat} {z : AV} {ps : List (Nat × Opd)} {q} (h : xBuildSlice s t m len z ps = some q) : OpOk P (.buildSlice t m len z ps) s q := by
  intro r hl hc hr hnc K hk
  unfold xBuildSlice at h
  split at h
  · rename_i ns qs hp
    obtain ⟨hn, hs⟩ := elems_sound (P := P) hp
    have h1 := newRow_fin h hn hl hc hk
    obtain ⟨hG, hrow⟩ := hs h1
    have hG := hG rfl
    simp only [PO.wp] at hG
    simp only [wpOp, stO_len]
    refine hrow _ _ (by simp) ?_
    rw [listOf_sl] at hG
    have hlen : (setAll (List.replicate len z) (qs.map fun p => (p.1, p.2.ev r))).length = len := by
      have : ∀ (ps : List (Nat × AV)) (z : List AV), (setAll z ps).length = z.length := by
        intro ps
        induction ps with
        | nil => intro z; rfl
        | cons p ps ih => intro z; simp [setAll, ih]
      rw [this]; simp
    rw [hlen] at hG
    exact hG
  · cases h

theorem mk_ok {s : SS} {t m bytes : Nat} {z : AV} {n c : Opd} {x y : D} {q} (hn : opd s n = .d x) (hc' : opd s c = .d y) (h : newRow s t m (nx s [] (.rep bytes z x y)) = some q) : OpOk P (.mk t m bytes z n c) s q := by
  intro r hl hc hr hnc K hk
  have h1 := newRow_fin h rfl hl hc hk
  have h1 := h1 rfl
  simp only [PO.wp, repP] at h1
  rw [o_mk, ← opd_ev, ← opd_ev, hn, hc']
  simp only [SV.ev]
  split at h1
  · rename_i a b h2 h3
    rw [h2, h3, mkK_eq]
    simp only [listOf_sl, List.length_replicate] at h1
    rw [stO_len]
    exact h1
  · exact h1.elim

theorem getD_mkA {cs : List SV} {r : List AV} {f : Nat} {v : SV} (h : cs[f]? = some v) (hc : cs.length ≠ 1 ∨ (v.ev r).cells = [v.ev r]) : f + 1 ≤ (mkA (SV.evs r cs)).cells.length ∧ (mkA (SV.evs r cs)).cells.getD f .top = v.ev r := by
  have hlt := (List.getElem?_eq_some_iff.1 h).1
  have he : (SV.evs r cs)[f]? = some (v.ev r) := by rw [SV.evs_eq, List.getElem?_map, h]; rfl
  by_cases h1 : cs.length = 1
  · rcases hc with hc | hc
    · exact (hc h1).elim
    · have hf : f = 0 := by omega
      subst hf
      have : SV.evs r cs = [v.ev r] := by
        have hl : (SV.evs r cs).length = 1 := by rw [SV.evs_eq]; simpa using h1
        obtain ⟨a, ha⟩ := List.length_eq_one_iff.1 hl
        rw [ha] at he ⊢
        simp at he; rw [he]
      rw [this]
      simp [mkA, hc]
  · rw [mkA_cells (by rw [SV.evs_eq]; simpa using h1)]
    simp only [AV.cells]
    refine ⟨by rw [SV.evs_eq]; simp; omega, by simp [List.getD, he]⟩

theorem load_box {s : SS} {a : Opd} {k f e : Nat} {cs : List SV} (ha : opd s a = .ptr k f) (hb : boxOf s k = some (e, cs)) {n : Option Nat} {r : List AV} {K : KT}
    (h : f + n.getD 1 ≤ (mkA (SV.evs r cs)).cells.length ∧ K (loadC n (mkA (SV.evs r cs)) f) (stO s r)) : wpOp P (.load n a) (stE s r) (stO s r) K := by
  rw [o_load, ← opd_ev, ha]
  simp only [SV.ev, loadK_ptr]
  rw [stO_get (box_sound hb) r]
  simp only [SO.ev, objK_live, List.getD_cons_zero, k1]
  exact ⟨rfl, Nat.one_pos, h.1, h.2⟩


theorem load_ok {s : SS} {n : Option Nat} {a : Opd} {q} (h : xLoad s n (opd s a) = some q) : OpOk P (.load n a) s q := by
  intro r hl hc hr hnc K hk
  unfold xLoad at h
  split at h
  · rename_i k f ha
    split at h
    · rename_i e cs hb
      split at h
      · split at h
        · rename_i v hv
          split at h
          · rename_i h1
            split at h
            · rename_i ht
              cases h
              obtain ⟨hG, hone⟩ := ones_sound ht hk
              have hcell := AV.cells_cell (hone (v.ev r) (by simp [SV.evs]))
              obtain ⟨q1, q2⟩ := getD_mkA (r := r) hv (.inr hcell)
              refine load_box ha hb ⟨by simpa using q1, ?_⟩
              rw [loadC_none, q2]
              exact hG rfl
            · cases h
          · rename_i h1
            cases h
            obtain ⟨q1, q2⟩ := getD_mkA (r := r) hv (.inl h1)
            refine load_box ha hb ⟨by simpa using q1, ?_⟩
            rw [loadC_none, q2]
            exact hk rfl
        · cases h
      · rename_i m
        split at h
        · rename_i h1
          cases h
          have h2 := norm_fin (K := K) hl hc hk
          have hx : mkA (SV.evs r cs) = .agg (SV.evs r cs) := mkA_cells (by rw [SV.evs_eq]; simpa using h1.1)
          refine load_box ha hb ⟨by rw [hx]; simp only [AV.cells, SV.evs_eq, List.length_map, Option.getD_some]; exact h1.2, ?_⟩
          have h3 : loadC (some m) (mkA (SV.evs r cs)) f = .agg (SV.evs r ((cs.drop f).take m)) := by
            rw [hx]
            unfold loadC
            simp only
            split
            · rename_i h4
              obtain ⟨rfl, _, h5⟩ := h4
              simp only [AV.cells, SV.evs_eq, List.length_map] at h5
              rw [List.drop_zero, List.take_of_length_le (by omega)]
            · simp only [AV.cells, SV.evs_eq, List.map_take, List.map_drop]
          rw [h3]
          exact h2
        · cases h
    · cases h
  · rename_i y f ha
    have hb : ∀ {K : KT}, (f + n.getD 1 ≤ (y.ev r).cells.length ∧ K (loadC n (y.ev r) f) (stO s r)) → wpOp P (.load n a) (stE s r) (stO s r) K := by
      intro K h
      rw [o_load, ← opd_ev, ha]
      simp only [SV.ev, loadK_iptr, k1]
      exact h
    split at h
    · split at h
      · rename_i i
        cases h
        obtain ⟨h1, h2⟩ := hk
        refine hb ⟨Nat.succ_le_of_lt h1, ?_⟩
        rw [loadC_none]
        exact h2 rfl
      · rename_i l
        split at h
        · rename_i d hd
          cases h
          have hlt := (List.getElem?_eq_some_iff.1 hd).1
          refine hb ⟨by simp only [D.ev, AV.cells, D.evs_eq, List.length_map, Option.getD_none]; omega, ?_⟩
          rw [loadC_none]
          simp only [D.ev, AV.cells, D.evs_eq, List.getD, List.getElem?_map, hd]
          exact hk rfl
        · cases h
      · cases h
        simp only [wpN, PO.wp, Chk.wp, D.ev, getD_new hl] at hk
        refine hb ⟨Nat.succ_le_of_lt hk.1, ?_⟩
        rw [loadC_none]
        have h1 : stE { s with nv := s.nv + 1 } (r ++ [y.ev r]) = stE s r := stE_more (s := s) hl hc
        have h2 := hk.2 h1
        have h3 : stO { s with nv := s.nv + 1 } (r ++ [y.ev r]) = stO s r := stO_more (s := s) hl hc
        rw [h3] at h2
        simp only [SV.ev, D.ev, getD_new hl] at h2
        exact h2
    · rename_i m
      split at h
      · rename_i h0
        obtain ⟨h0, _⟩ := h0
        subst h0
        cases h
        obtain ⟨h1, h2, h3, h4⟩ := hk
        refine hb ⟨by simp [h2], ?_⟩
        rw [loadC_whole h1 h2]
        exact h4 rfl
      · cases h
        have h1 := nx_hk (K := K) hl hc hk
        exact hb h1
  · rename_i k l i f ha
    split at h
    · rename_i q' hcur
      obtain ⟨nl, e, sz⟩ := q'
      cases h
      have h1 := nx_hk (K := K) hl hc hk
      obtain ⟨h2, h3, h4⟩ := h1
      rw [o_load, ← opd_ev, ha]
      simp only [SV.ev, loadK_ptr]
      rcases row_cases (cur_sound hcur) r with h5 | ⟨h5, h6, _⟩
      · rw [h5, objK_live]; exact ⟨rfl, h2, h3, h4⟩
      · rw [h6] at h2; simp at h2
    · cases h
  · rename_i y ha
    cases h
    have h1 := nx_hk (K := K) hl hc hk
    simp only [PO.wp, ldpP] at h1
    rw [o_load, ← opd_ev, ha]
    simp only [SV.ev]
    split at h1
    · rename_i z f hy
      rw [hy, loadK_iptr, k1]
      exact h1
    · exact h1.elim
  · cases h

theorem stO_set {s : SS} {k : Nat} {o : SO} {r r' : List AV} {nv : Nat} {env : List (Nat × SV)} (hp : ∃ m, r' = r ++ m) (hl : r.length = s.nv) (hc : s.cl = true) :
    stO { s with env := env, objs := s.objs.set k o, nv := nv } r' = (stO s r).set k (o.ev r') := by
  obtain ⟨m, rfl⟩ := hp
  have := stO_more (s := s) (r' := m) hl hc
  simp only [stO, List.map_set] at this ⊢
  rw [this]

theorem store_ok {s : SS} {m : Nat} {a b : Opd} {q} (hb0 : opdOk b = true) (h : xStore s m (opd s a) (opd s b) = some q) : OpOk P (.store m a b) s q := by
  intro r hl hc hr hnc K hk
  unfold xStore at h
  split at h
  · rename_i k f ha
    split at h
    · rename_i e cs ns vs hb he
      split at h
      · rename_i hcnd
        obtain ⟨g1, g2, g3, g4⟩ := hcnd
        cases h
        rw [wpN_append] at hk
        have hk1 : wpN P ns r (fun r' => stE { s with objs := s.objs.set k (.box e (cs.take f ++ vs ++ cs.drop (f + m))), nv := nvN s.nv ns } r' = stE s r → K .top (stO { s with objs := s.objs.set k (.box e (cs.take f ++ vs ++ cs.drop (f + m))), nv := nvN s.nv ns } r')) ∧
            (cs.length = 1 → ∀ c ∈ SV.evs r cs, c.isCell = true) := by
          by_cases h1 : cs.length = 1
          · rw [if_pos h1] at hk
            obtain ⟨p1, p2⟩ := ones_sound (g4 h1) hk
            exact ⟨p1, fun _ => p2⟩
          · rw [if_neg h1] at hk
            exact ⟨hk, fun h => (h1 h).elim⟩
        obtain ⟨hk, hcell⟩ := hk1
        obtain ⟨r', ⟨more, rfl⟩, hlen, hG, hE⟩ := expand_sound he hl (opd_cl' hc hb0) hk
        have hG := hG (stE_more (s := s) hl hc)
        rw [stO_set ⟨more, rfl⟩ hl hc] at hG
        rw [o_store, ← opd_ev, ← opd_ev, ha]
        simp only [SV.ev, storeK_ptr]
        rw [stO_get (box_sound hb) r]
        simp only [SO.ev, objK_live, List.getD_cons_zero, k1, List.set_cons_zero]
        have hvs : vs.length = m := g1
        have hnl : (cs.take f ++ vs ++ cs.drop (f + m)).length = cs.length := by simp; omega
        have hcl : SV.evs (r ++ more) cs = SV.evs r cs := evs_more' fun c hm => by
          rw [hl]; exact scls_all.1 (SS.cl_obj hc (List.mem_of_getElem? (box_sound hb))) c hm
        have hnew : SV.evs (r ++ more) (cs.take f ++ vs ++ cs.drop (f + m)) = (SV.evs r cs).take f ++ ((opd s b).ev r).cells ++ (SV.evs r cs).drop (f + m) := by
          rw [hE.cells, ← hcl]
          simp only [SV.evs_eq, List.map_append, List.map_take, List.map_drop]
        have hw : f + m ≤ (mkA (SV.evs r cs)).cells.length ∧ mkA (SV.evs (r ++ more) (cs.take f ++ vs ++ cs.drop (f + m))) = upd (mkA (SV.evs r cs)) f ((opd s b).ev r) := by
          by_cases h1 : cs.length = 1
          · have hm1 : m = 1 := by rcases g3 with h | h; exact h; exact (h h1).elim
            have hf : f = 0 := by omega
            subst hm1; subst hf
            obtain ⟨c, hcc⟩ := List.length_eq_one_iff.1 (show (SV.evs r cs).length = 1 by rw [SV.evs_eq]; simpa using h1)
            have hc1 := AV.cells_cell (hcell h1 c (by rw [hcc]; simp))
            rw [hnew, hcc]
            simp only [mkA, hc1, List.length_singleton, List.take_zero, List.nil_append, Nat.zero_add, List.drop_one, List.tail_cons, List.append_nil]
            refine ⟨Nat.le_refl _, ?_⟩
            rw [AV.cells_cell (hE.one rfl)]
            unfold upd
            rw [if_pos ⟨rfl, by rw [hc1, AV.cells_cell (hE.one rfl)]; rfl⟩]
          · have hx : mkA (SV.evs r cs) = .agg (SV.evs r cs) := mkA_cells (by rw [SV.evs_eq]; simpa using h1)
            rw [hx, hnew]
            refine ⟨by simp only [AV.cells, SV.evs_eq, List.length_map]; exact g2, ?_⟩
            rw [mkA_cells (by simp [SV.evs_eq, hE.len]; omega)]
            unfold upd
            have hlc : (AV.agg (SV.evs r cs)).cells.length = cs.length := by simp [AV.cells, SV.evs_eq]
            by_cases h2 : f = 0 ∧ ((opd s b).ev r).cells.length = (AV.agg (SV.evs r cs)).cells.length
            · rw [if_pos h2]
              obtain ⟨rfl, h3⟩ := h2
              rw [hlc, hE.len] at h3
              rw [AV.agg_of (hE.agg (by omega))]
              simp only [AV.cells, List.take_zero, List.nil_append, Nat.zero_add]
              rw [List.drop_eq_nil_of_le (by rw [SV.evs_eq]; simp; omega), List.append_nil]
            · rw [if_neg h2, hE.len]
              rfl
        refine ⟨rfl, Nat.one_pos, hE.len, hE.sto, hw.1, ?_⟩
        simp only [SO.ev, hnl, hw.2] at hG
        exact hG
      · cases h
    · cases h
  · rename_i k l i f ha
    split at h
    · rename_i nl e sz ns d hcur hd
      simp only [Option.some.injEq] at h
      subst h
      have hnv : nvN s.nv (ns ++ [chkOf m d]) = s.nv := by rw [nvN_append, asD_nv hd, chkOf_nv]
      simp only [wpN_append, hnv] at hk
      obtain ⟨hk, hde⟩ := asD_sound hd hk
      obtain ⟨hk, hE⟩ := chkOf_sound hk
      simp only [wpN, PO.wp, setP] at hk
      obtain ⟨q1, q2, q3, q4, q5⟩ := hk
      generalize hxs : listOf (l.ev r) = xs at *
      generalize hv : AV.sl (xs.set (idxOf (i.ev r)) (upd (xs.getD (idxOf (i.ev r)) .top) f (d.ev r))) = v at q5
      have hlv : (listOf v).length = xs.length := by rw [← hv]; simp [listOf]
      have hrow := cur_sound hcur
      have hlcl : l.cl r.length = true := by
        have := SS.cl_obj hc (List.mem_of_getElem? hrow)
        rw [hl]; exact this
      have hst : stE { s with env := s.env.map (fun p => (p.1, p.2.rew k l (.x s.nv))), objs := s.objs.set k (.row nl e sz (.x s.nv)), nv := s.nv + 1 } (r ++ [v]) = stE s r := by
        funext t
        simp only [stE]
        rw [lk_map (f := SV.rew k l (.x s.nv)) rfl]
        have hcl := SS.cl_env hc t
        have hold : (lk s.env t).ev (r ++ [v]) = (lk s.env t).ev r := SV.ev_more _ (by rw [hl]; exact hcl)
        rw [← hold]
        generalize lk s.env t = w
        cases w with
        | row k' l' =>
          simp only [SV.rew]
          split
          · rename_i h1
            have := D.beq_eq _ _ h1.2
            subst this
            simp only [SV.ev, D.ev, getD_new hl, hlv, D.ev_more l' hlcl, hxs]
          · rfl
        | rp k' l' i' f' =>
          simp only [SV.rew]
          split
          · rename_i h1
            have := D.beq_eq _ _ h1.2
            subst this
            simp only [SV.ev, D.ev, getD_new hl, hlv, D.ev_more l' hlcl, hxs]
          · rfl
        | _ => rfl
      have hG := q5 hst
      rw [stO_set ⟨[v], rfl⟩ hl hc] at hG
      rw [o_store, ← opd_ev, ← opd_ev, ha, ← hde]
      simp only [SV.ev, storeK_ptr]
      have hne : xs ≠ [] := by intro h0; rw [h0] at q1; simp at q1
      rcases row_cases hrow r with h5 | ⟨h5, h6, _⟩
      · rw [h5, objK_live, hxs]
        refine ⟨rfl, q1, q2, q3, q4, ?_⟩
        have hne2 : listOf v ≠ [] := by intro h0; rw [h0] at hlv; simp at hlv; exact hne (List.eq_nil_of_length_eq_zero hlv.symm)
        have : SO.ev (r ++ [v]) (.row nl e sz (.x s.nv)) = .live e sz (xs.set (idxOf (i.ev r)) (upd (xs.getD (idxOf (i.ev r)) .top) f (d.ev r))) := by
          cases nl <;> simp only [SO.ev, D.ev, getD_new hl, if_neg hne2] <;> rw [← hv] <;> rfl
        rw [this] at hG
        exact hG
      · rw [hxs] at h6; exact (hne h6).elim
    · cases h
  · cases h

end
end Go.Ab
