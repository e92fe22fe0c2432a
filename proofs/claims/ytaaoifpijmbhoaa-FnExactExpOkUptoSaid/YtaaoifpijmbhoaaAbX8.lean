/-
  THE SYMBOLIC WALK IS SOUND: addresses, appends, calls; all operations.
-/
import Derived.Test.YtaaoifpijmbhoaaAbX7
set_option linter.unusedVariables false
set_option linter.unusedSimpArgs false
set_option linter.defProp false
namespace Go.Ab

section
variable {P : Program}

theorem faddr_ok {s : SS} {off : Nat} {a : Opd} {q} (h : xFaddr s off (opd s a) = some q) : OpOk P (.faddr off a) s q := by
  intro r hl hc hr hnc K hk
  unfold xFaddr at h
  split at h
  · rename_i k f ha
    split at h
    · rename_i q' hb
      cases h
      obtain ⟨e, cs⟩ := q'
      rw [o_faddr, ← opd_ev, ha]
      simp only [SV.ev, faddrK_ptr]
      rw [stO_get (box_sound hb) r]
      simp only [SO.ev, objK_live, k1]
      exact ⟨rfl, hk rfl⟩
    · cases h
  · rename_i k l i f ha
    split at h
    · rename_i q' hcur
      obtain ⟨e, sz⟩ := q'
      cases h
      rw [o_faddr, ← opd_ev, ha]
      simp only [SV.ev, faddrK_ptr]
      have := stO_get (cur_sound hcur) r
      simp only [SO.ev] at this
      rw [this, objK_live, k1]
      exact ⟨rfl, hk rfl⟩
    · rename_i q' hcur
      obtain ⟨e, sz⟩ := q'
      cases h
      rw [o_faddr, ← opd_ev, ha]
      simp only [SV.ev, faddrK_ptr]
      simp only [wpN, Chk.wp, idxP] at hk
      split at hk
      · obtain ⟨h0, h1, hk⟩ := hk
        rcases row_cases (cur_sound hcur) r with h5 | ⟨h5, h6, _⟩
        · rw [h5, objK_live, k1]; exact ⟨rfl, hk trivial⟩
        · rw [h6] at h1; simp at h1; omega
      · exact hk.elim
    · cases h
  · rename_i y f ha
    cases h
    rw [o_faddr, ← opd_ev, ha]
    simp only [SV.ev, faddrK_iptr, k1]
    exact hk rfl
  · rename_i y ha
    cases h
    have h1 := nx_hk (K := K) hl hc hk
    simp only [PO.wp, fapP] at h1
    rw [o_faddr, ← opd_ev, ha]
    simp only [SV.ev]
    split at h1
    · rename_i z f hy
      rw [hy, faddrK_iptr, k1]
      exact h1
    · exact h1.elim
  · cases h

theorem fld_ok {s : SS} {off : Nat} {n : Option Nat} {a : Opd} {q} (h : xFld s off n (opd s a) = some q) : OpOk P (.fld off n a) s q := by
  intro r hl hc hr hnc K hk
  have hb : ∀ {A : AV}, (opd s a).ev r = A → (A.isAgg = true ∧ off + n.getD 1 ≤ A.cells.length ∧ K (loadC n A off) (stO s r)) → wpOp P (.fld off n a) (stE s r) (stO s r) K := by
    intro A hA h
    rw [o_fld, ← opd_ev, hA]
    exact h
  unfold xFld at h
  split at h
  · rename_i cs ha
    split at h
    · split at h
      · rename_i v hv
        cases h
        have hlt := (List.getElem?_eq_some_iff.1 hv).1
        refine hb (A := .agg (SV.evs r cs)) (by rw [ha]; rfl) ⟨rfl, by simp only [AV.cells, SV.evs_eq, List.length_map, Option.getD_none]; omega, ?_⟩
        rw [loadC_none]
        simp only [AV.cells, SV.evs_eq, List.getD, List.getElem?_map, hv]
        exact hk rfl
      · cases h
    · rename_i m
      split at h
      · rename_i h1
        cases h
        have h2 := norm_fin (K := K) hl hc hk
        refine hb (A := .agg (SV.evs r cs)) (by rw [ha]; rfl) ⟨rfl, by simp only [AV.cells, SV.evs_eq, List.length_map, Option.getD_some]; exact h1, ?_⟩
        have h3 : loadC (some m) (.agg (SV.evs r cs)) off = .agg (SV.evs r ((cs.drop off).take m)) := by
          unfold loadC
          simp only
          split
          · rename_i h4
            obtain ⟨rfl, _, h5⟩ := h4
            simp only [AV.cells, SV.evs_eq, List.length_map] at h5
            rw [List.drop_zero, List.take_of_length_le (by omega)]
          · simp only [AV.cells, SV.evs_eq, List.map_take, List.map_drop]
        rw [h3]
        exact h2
      · cases h
  · rename_i l ha
    split at h
    · split at h
      · rename_i d hd
        cases h
        have hlt := (List.getElem?_eq_some_iff.1 hd).1
        refine hb (A := .agg (D.evs r l)) (by rw [ha]; rfl) ⟨rfl, by simp only [AV.cells, D.evs_eq, List.length_map, Option.getD_none]; omega, ?_⟩
        rw [loadC_none]
        simp only [AV.cells, D.evs_eq, List.getD, List.getElem?_map, hd]
        exact hk rfl
      · cases h
    · cases h
      exact hb (A := (D.agg l).ev r) (by rw [ha]; rfl) (nx_hk (K := K) hl hc hk)
  · rename_i x _ ha
    cases h
    exact hb (A := x.ev r) (by rw [ha]; rfl) (nx_hk (K := K) hl hc hk)
  · cases h

theorem iaddr_ok {s : SS} {m : Nat} {a b : Opd} {q} (h : xIaddr s m (opd s a) (opd s b) = some q) : OpOk P (.iaddr m a b) s q := by
  intro r hl hc hr hnc K hk
  unfold xIaddr at h
  split at h
  · rename_i l i ha hb
    cases h
    rw [o_iaddr, ← opd_ev, ← opd_ev, ha, hb]
    simp only [SV.ev]
    simp only [wpN, PO.wp, elemP] at hk
    split at hk
    · rename_i xs _ j h1 h2
      rw [h1, h2, iaddrK_sl, k1]
      obtain ⟨q1, q2, q3, q4⟩ := hk
      refine ⟨q1, q2, q3, ?_⟩
      have h3 : stE { s with nv := s.nv + 1 } (r ++ [xs.getD j.toNat .top]) = stE s r := stE_more (s := s) hl hc
      have h4 := q4 h3
      have h5 : stO { s with nv := s.nv + 1 } (r ++ [xs.getD j.toNat .top]) = stO s r := stO_more (s := s) hl hc
      rw [h5] at h4
      simp only [SV.ev, D.ev, getD_new hl] at h4
      exact h4
    · exact hk.elim
  · rename_i k l i ha hb
    split at h
    · rename_i nl e sz hcur
      split at h
      · rename_i hsz
        subst hsz
        cases h
        rw [o_iaddr, ← opd_ev, ← opd_ev, ha, hb]
        simp only [SV.ev]
        simp only [wpN, Chk.wp, idxP] at hk
        split at hk
        · rename_i j h2
          obtain ⟨q1, q2, q3⟩ := hk
          rw [h2, iaddrK_row]
          have h3 := q3 trivial
          simp only [SV.ev, h2, idxOf] at h3
          rcases row_cases (cur_sound hcur) r with h5 | ⟨h5, h6, _⟩
          · rw [h5, objK_live, k1]; exact ⟨rfl, rfl, q1, q2, h3⟩
          · rw [h6] at q2; simp at q2; omega
        · exact hk.elim
      · cases h
    · cases h
  · cases h

theorem srcOf_plain {O : List AObj} {y : AV} {M : List AV → Prop} (h : srcOf [] y M) : srcOf O y M := by
  unfold srcOf at *
  split at h
  · exact h
  · exact h
  · simp [objN] at h
  · exact h.elim

theorem app_ok {s : SS} {t m bytes k : Nat} {a b : Opd} {l y : D} {nl : Bool} {e sz : Nat} (ha : opd s a = .row k l) (hcur : cur s k l = some (nl, e, sz)) (hesz : e = t ∧ sz = m)
    (hy : opd s b = .d y ∨ ∃ k' l', opd s b = .row k' l' ∧ (cur s k' l').isSome = true ∧ y = .sl l') :
    OpOk P (.app t m bytes a b) s ([.op (.app m bytes l y)], .row k (.x s.nv), { s with objs := s.objs.set k (.row nl e sz (.x s.nv)), nv := s.nv + 1 }) := by
  intro r hl hc hr hnc K hk
  obtain ⟨rfl, rfl⟩ := hesz
  rw [o_app, ← opd_ev, ← opd_ev, ha]
  have hsrc : ∀ {M : List AV → Prop}, srcOf [] (y.ev r) M → srcOf (stO s r) ((opd s b).ev r) M := by
    intro M h
    rcases hy with hy | ⟨k', l', hy, hcu, rfl⟩
    · rw [hy]; exact srcOf_plain h
    · rw [hy]
      obtain ⟨⟨nl', e', sz'⟩, hq⟩ := Option.isSome_iff_exists.1 hcu
      simp only [D.ev, srcOf_sl] at h
      simp only [SV.ev, srcOf_row]
      rcases row_cases (cur_sound hq) r with h5 | ⟨h5, h6, _⟩
      · rw [h5, objN_live]; exact ⟨rfl, h⟩
      · rw [h5, objN_nil, h6]; rw [h6] at h; exact ⟨rfl, h⟩
  refine hsrc ?_
  simp only [wpN, PO.wp, appP] at hk
  refine srcOf_imp hk fun ys _ hK => ⟨hK.1, ?_⟩
  obtain ⟨_, h48, hmx, hK⟩ := hK
  generalize hxs : listOf (l.ev r) = xs at *
  have hst : stE { s with objs := s.objs.set k (.row nl e sz (.x s.nv)), nv := s.nv + 1 } (r ++ [.sl (xs ++ ys)]) = stE s r := stE_more (s := s) hl hc
  have hG := hK hst
  rw [stO_set ⟨_, rfl⟩ hl hc] at hG
  simp only [SV.ev, D.ev, getD_new hl, listOf_sl, List.length_append] at hG
  simp only [SV.ev, hxs, ontoK_row, k1]
  have hrow := cur_sound hcur
  have hlt : k < (stO s r).length := by rw [stO_len]; exact (List.getElem?_eq_some_iff.1 hrow).1
  have hself : ∀ {ob}, (stO s r)[k]? = some ob → (stO s r).set k ob = stO s r := by
    intro ob h
    apply List.ext_getElem?
    intro j
    rw [List.getElem?_set]
    split
    · rename_i hj; subst hj; rw [h]
    · rfl
  rcases row_cases hrow r with h5 | ⟨h5, h6, h7⟩
  · rw [h5, hxs, objN_live]
    refine ⟨rfl, rfl, rfl, h48, hmx, ?_⟩
    cases nl with
    | false => simpa only [SO.ev, D.ev, getD_new hl, listOf_sl] using hG
    | true =>
      have hne : xs ≠ [] := by
        intro h0
        have := stO_get hrow r
        simp only [SO.ev, hxs, h0, if_true] at this
        rw [this] at h5; cases h5
      have hne2 : xs ++ ys ≠ [] := by simp [hne]
      simp only [SO.ev, D.ev, getD_new hl, listOf_sl, if_neg hne2] at hG
      exact hG
  · rw [hxs] at h6
    subst h6
    subst h7
    rw [h5, objN_nil]
    simp only [List.length_nil, Nat.zero_add] at h48 hmx
    refine ⟨rfl, rfl, rfl, h48, hmx, fun h0 => ?_, fun h0 => ?_⟩
    · subst h0
      simp only [SO.ev, D.ev, getD_new hl, listOf_sl, List.append_nil, if_true, List.length_nil, Nat.add_zero] at hG
      rw [hself h5] at hG
      exact hG
    · simp only [SO.ev, D.ev, getD_new hl, listOf_sl, List.nil_append, if_neg h0, List.length_nil, Nat.zero_add] at hG
      exact hG

theorem appn_ok {s : SS} {t m bytes : Nat} {a b : Opd} {y : D} (ha : opd s a = .d (.c .nils))
    (hy : opd s b = .d y ∨ ∃ k' l', opd s b = .row k' l' ∧ (cur s k' l').isSome = true ∧ y = .sl l') :
    OpOk P (.app t m bytes a b) s ([.op (.app m bytes (.c (.sl [])) y), .chk (.ne (.x s.nv))], .row s.objs.length (.x s.nv), { s with objs := s.objs ++ [.row false t m (.x s.nv)], nv := s.nv + 1 }) := by
  intro r hl hc hr hnc K hk
  rw [o_app, ← opd_ev, ← opd_ev, ha]
  have hsrc : ∀ {M : List AV → Prop}, srcOf [] (y.ev r) M → srcOf (stO s r) ((opd s b).ev r) M := by
    intro M h
    rcases hy with hy | ⟨k', l', hy, hcu, rfl⟩
    · rw [hy]; exact srcOf_plain h
    · rw [hy]
      obtain ⟨⟨nl', e', sz'⟩, hq⟩ := Option.isSome_iff_exists.1 hcu
      simp only [D.ev, srcOf_sl] at h
      simp only [SV.ev, srcOf_row]
      rcases row_cases (cur_sound hq) r with h5 | ⟨h5, h6, _⟩
      · rw [h5, objN_live]; exact ⟨rfl, h⟩
      · rw [h5, objN_nil, h6]; rw [h6] at h; exact ⟨rfl, h⟩
  refine hsrc ?_
  simp only [wpN, PO.wp, appP, D.ev, listOf_sl, List.length_nil, Nat.zero_add, List.nil_append] at hk
  refine srcOf_imp hk fun ys _ hK => ⟨hK.1, ?_⟩
  obtain ⟨_, h48, hmx, hne, hK⟩ := hK
  simp only [D.ev, getD_new hl, listOf_sl] at hne
  have hst : stE { s with objs := s.objs ++ [.row false t m (.x s.nv)], nv := s.nv + 1 } (r ++ [.sl ys]) = stE s r := stE_more (s := s) hl hc
  have hG := hK hst
  have hO : stO { s with objs := s.objs ++ [.row false t m (.x s.nv)], nv := s.nv + 1 } (r ++ [.sl ys]) = stO s r ++ [.live t m ys] := by
    simp only [stO, List.map_append, List.map_cons, List.map_nil, SO.ev, D.ev, getD_new hl, listOf_sl]
    congr 1
    exact stO_more (s := s) hl hc
  rw [hO] at hG
  simp only [SV.ev, D.ev, getD_new hl, listOf_sl] at hG
  simp only [SV.ev, D.ev, ontoK_nils, k1, stO_len]
  exact ⟨h48, hmx, fun h0 => (hne h0).elim, fun _ => hG⟩

theorem ext_ok {s : SS} {a : Opd} {i j : Nat} (ha : opd s a = .d (.x j)) : OpOk P (.ext a i) s ([.chk (.tup (.x j) i)], .d (.ext j i), s) := by
  intro r hl hc hr hnc K hk
  rw [o_ext, ← opd_ev, ha]
  simp only [wpN, Chk.wp, tupP] at hk
  simp only [SV.ev]
  split at hk
  · rename_i vs hv
    rw [hv, extK_eq, k1]
    have h2 := hk.2 trivial
    simp only [SV.ev, D.ev] at h2 hv
    rw [hv] at h2
    exact ⟨hk.1, h2⟩
  · exact hk.elim

theorem args_sound {s : SS} : ∀ {xs : List Opd} {ns : List Node} {ds : List D} {b : Bool}, xArgs s xs = some (ns, ds, b) → nvN s.nv ns = s.nv ∧ ∀ {r : List AV} {G : List AV → Prop}, wpN P ns r G → G r ∧
    (AV.norefs (D.evs r ds) = true → D.evs r ds = xs.map (fun x => frz (stO s r) (x.ev (stE s r))) ∧ (b = false → AV.norefs (xs.map (Opd.ev (stE s r))) = true ∧ D.evs r ds = xs.map (Opd.ev (stE s r))))
  | [], ns, ds, b, h => by
    simp only [xArgs, Option.some.injEq, Prod.mk.injEq] at h
    obtain ⟨rfl, rfl, rfl⟩ := h
    exact ⟨rfl, fun hw => ⟨hw, fun _ => ⟨rfl, fun _ => ⟨rfl, rfl⟩⟩⟩⟩
  | x :: xs, ns, ds, b, h => by
    simp only [xArgs] at h
    split at h
    · rename_i ns1 ds1 b1 h1
      obtain ⟨hn, ih⟩ := args_sound h1
      split at h
      · rename_i k l hx
        split at h
        · rename_i q hcur
          obtain ⟨nl, e, sz⟩ := q
          cases h
          refine ⟨hn, fun {r G} hw => ?_⟩
          obtain ⟨h2, h3⟩ := ih hw
          refine ⟨h2, fun hno => ?_⟩
          simp only [D.evs, AV.norefs, Bool.and_eq_true] at hno
          obtain ⟨h3, _⟩ := h3 hno.2
          refine ⟨?_, by simp⟩
          simp only [D.evs, List.map_cons, h3, List.cons.injEq, and_true]
          rw [← opd_ev, hx]
          simp only [SV.ev, D.ev, frz]
          rcases row_cases (cur_sound hcur) r with h5 | ⟨h5, h6, _⟩
          · rw [h5]; simp
          · rw [h5, h6]; simp
        · cases h
      · split at h
        · rename_i ms d hd
          cases h
          refine ⟨by rw [nvN_append, asD_nv hd, hn], fun {r G} hw => ?_⟩
          rw [wpN_append] at hw
          obtain ⟨hw, he⟩ := asD_sound hd hw
          obtain ⟨h2, h3⟩ := ih hw
          rw [opd_ev] at he
          refine ⟨h2, fun hno => ?_⟩
          simp only [D.evs, AV.norefs, Bool.and_eq_true] at hno
          obtain ⟨h3, h4⟩ := h3 hno.2
          rw [he] at hno
          refine ⟨?_, fun hb => ?_⟩
          · simp only [D.evs, List.map_cons, h3, he, frz_noref hno.1]
          · obtain ⟨g1, g2⟩ := h4 hb
            simp only [D.evs, List.map_cons, AV.norefs, g1, g2, he, hno.1, Bool.and_true, and_self]
        · cases h
    · cases h

theorem nodesCl_append : ∀ (a b : List Node) (nv : Nat), nodesCl nv (a ++ b) = (nodesCl nv a && nodesCl (nvN nv a) b)
  | [], b, nv => by simp [nodesCl, nvN]
  | .op o :: a, b, nv => by simp only [List.cons_append, nodesCl, nvN, nodesCl_append a b, Bool.and_assoc]
  | .chk c :: a, b, nv => by simp only [List.cons_append, nodesCl, nvN, nodesCl_append a b]

theorem nx_calls {s : SS} {r : List AV} (hl : r.length = s.nv) (hc : s.cl = true) {ns : List Node} (hn : nvN s.nv ns = s.nv) {o : PO} {K : KT} (h : wpN P (nx s ns o).1 r (fun r' => stE (nx s ns o).2.2 r' = stE s r → K ((nx s ns o).2.1.ev r') (stO (nx s ns o).2.2 r'))) :
    wpN P ns r fun r1 => r1 = r → o.wp P r fun v => K v (stO s r) := by
  simp only [nx, wpN_append] at h
  refine wpN_mono ns (fun m hw he => ?_) h
  rw [he] at hw
  exact PO.wp_imp (o := o) hw fun v hv => nx_fin (ns := ns) (o := o) hl hc hn hv

theorem call_cl {s : SS} {ns : List Node} (hn : nvN s.nv ns = s.nv) {f : FuncId} {ds : List D} {b : Bool} (h : nodesCl s.nv (nx s ns (.call f ds b)).1 = true) : D.cls s.nv ds = true := by
  simp only [nx, nodesCl_append, Bool.and_eq_true] at h
  have := h.2
  simp only [nodesCl, PO.cl, Bool.and_true, hn] at this
  exact this

theorem pcall_fin {s : SS} {r : List AV} {f : FuncId} {args : List Opd} {ds : List D} {b : Bool} {K : KT} (hno : AV.norefs (D.evs r ds) = true)
    (h1 : D.evs r ds = args.map (fun x => frz (stO s r) (x.ev (stE s r)))) (h2 : b = false → AV.norefs (args.map (Opd.ev (stE s r))) = true)
    (h : (PO.call f ds b).wp P r fun v => K v (stO s r)) : pcallK P f (args.map fun x => frz (stO s r) (x.ev (stE s r))) (args.map (Opd.ev (stE s r))) (stO s r) K := by
  obtain ⟨res, q1, q2, q3, q4⟩ := h
  rw [h1] at q1 hno
  refine pcallK_intro res q1 hno ?_
  have : aft (stO s r) (args.map (Opd.ev (stE s r))) res = stO s r := by
    cases b with
    | true => exact aft_flat (q3 rfl)
    | false => exact aft_norefs (h2 rfl)
  rw [this]
  exact q4

theorem pcall_ok {s : SS} {f : FuncId} {args : List Opd} {ns : List Node} {ds : List D} {b : Bool} (h : xArgs s args = some (ns, ds, b)) : OpOk P (.pcall f args) s (nx s ns (.call f ds b)) := by
  intro r hl hc hr hnc K hk
  obtain ⟨hn, hs⟩ := args_sound (P := P) h
  obtain ⟨hG, ha⟩ := hs (nx_calls hl hc hn hk)
  have hno := D.evs_noref hr ds (by rw [hl]; exact call_cl hn hnc)
  obtain ⟨h1, h2⟩ := ha hno
  rw [o_pcall]
  exact pcall_fin hno h1 (fun hb => (h2 hb).1) (hG rfl)

theorem qcall_ok {s : SS} {f : FuncId} {args : List Opd} {ns : List Node} {ds : List D} (h : xArgs s args = some (ns, ds, false)) : OpOk P (.qcall f args) s (nx s ns (.call f ds false)) := by
  intro r hl hc hr hnc K hk
  obtain ⟨hn, hs⟩ := args_sound (P := P) h
  obtain ⟨hG, ha⟩ := hs (nx_calls hl hc hn hk)
  have hno := D.evs_noref hr ds (by rw [hl]; exact call_cl hn hnc)
  obtain ⟨h1, h2⟩ := (ha hno).2 rfl
  obtain ⟨res, q1, q2, q3, q4⟩ := hG rfl
  rw [o_qcall]
  rw [h2] at q1
  exact qcallK_intro res q1 h1 q4

/-- a function value that is known -/
def known (g : D) : Option (FuncId × List D) :=
  match g with
  | .c (.fn f []) => some (f, [])
  | .fn f caps => some (f, caps)
  | _ => none

theorem pcallv_ok {s : SS} {g : Opd} {x : D} {f : FuncId} {caps : List D} {args : List Opd} {ns : List Node} {ds : List D} {b : Bool} (hg : opd s g = .d x) (hx : ∀ r, x.ev r = .fn f (D.evs r caps)) (h : xArgs s args = some (ns, ds, b)) :
    OpOk P (.pcallv g args) s (nx s ns (.call f (ds ++ caps) b)) := by
  intro r hl hc hr hnc K hk
  obtain ⟨hn, hs⟩ := args_sound (P := P) h
  obtain ⟨hG, ha⟩ := hs (nx_calls hl hc hn hk)
  have hno := D.evs_noref hr (ds ++ caps) (by rw [hl]; exact call_cl hn hnc)
  have happ : D.evs r (ds ++ caps) = D.evs r ds ++ D.evs r caps := by simp only [D.evs_eq, List.map_append]
  rw [happ] at hno
  have hno1 := hno
  rw [norefs_append, Bool.and_eq_true] at hno1
  obtain ⟨h1, h2⟩ := ha hno1.1
  obtain ⟨res, q1, q2, q3, q4⟩ := hG rfl
  rw [o_pcallv, ← opd_ev, hg]
  simp only [SV.ev, hx, pcallvK_fn]
  rw [happ, h1] at q1
  rw [h1] at hno
  refine pcallK_intro res q1 hno ?_
  have : aft (stO s r) (args.map (Opd.ev (stE s r))) res = stO s r := by
    cases b with
    | true => exact aft_flat (q3 rfl)
    | false => exact aft_norefs (h2 rfl).1
  rw [this]
  exact q4

theorem callv_cl {s : SS} {ns : List Node} (hn : nvN s.nv ns = s.nv) {g : D} {ds : List D} {b : Bool} (h : nodesCl s.nv (nx s ns (.callv g ds b)).1 = true) : g.cl s.nv = true ∧ D.cls s.nv ds = true := by
  simp only [nx, nodesCl_append, Bool.and_eq_true] at h
  have := h.2
  simp only [nodesCl, PO.cl, Bool.and_true, hn, Bool.and_eq_true] at this
  exact this

theorem pcallv_any {s : SS} {g : Opd} {x : D} {args : List Opd} {ns : List Node} {ds : List D} {b : Bool} (hg : opd s g = .d x) (h : xArgs s args = some (ns, ds, b)) :
    OpOk P (.pcallv g args) s (nx s ns (.callv x ds b)) := by
  intro r hl hc hr hnc K hk
  obtain ⟨hn, hs⟩ := args_sound (P := P) h
  obtain ⟨hG, ha⟩ := hs (nx_calls hl hc hn hk)
  obtain ⟨hx, hds⟩ := callv_cl hn hnc
  have hno1 := D.evs_noref hr ds (by rw [hl]; exact hds)
  have hnx := D.ev_noref hr x (by rw [hl]; exact hx)
  obtain ⟨h1, h2⟩ := ha hno1
  have hG := hG rfl
  rw [o_pcallv, ← opd_ev, hg]
  simp only [PO.wp, callvP] at hG
  simp only [SV.ev]
  split at hG
  · rename_i f caps hf
    rw [hf] at hnx ⊢
    rw [pcallvK_fn]
    obtain ⟨res, q1, q2, q3, q4⟩ := hG
    rw [h1] at q1 hno1
    refine pcallK_intro res q1 (by rw [norefs_append, hno1]; exact hnx) ?_
    have : aft (stO s r) (args.map (Opd.ev (stE s r))) res = stO s r := by
      cases b with
      | true => exact aft_flat (q3 rfl)
      | false => exact aft_norefs (h2 rfl).1
    rw [this]
    exact q4
  · exact hG.elim

theorem qcallv_ok {s : SS} {g : Opd} {x : D} {f : FuncId} {caps : List D} {args : List Opd} {ns : List Node} {ds : List D} (hg : opd s g = .d x) (hx : ∀ r, x.ev r = .fn f (D.evs r caps)) (h : xArgs s args = some (ns, ds, false)) :
    OpOk P (.qcallv g args) s (nx s ns (.call f (ds ++ caps) false)) := by
  intro r hl hc hr hnc K hk
  obtain ⟨hn, hs⟩ := args_sound (P := P) h
  obtain ⟨hG, ha⟩ := hs (nx_calls hl hc hn hk)
  have hno := D.evs_noref hr (ds ++ caps) (by rw [hl]; exact call_cl hn hnc)
  have happ : D.evs r (ds ++ caps) = D.evs r ds ++ D.evs r caps := by simp only [D.evs_eq, List.map_append]
  rw [happ] at hno
  have hno1 := hno
  rw [norefs_append, Bool.and_eq_true] at hno1
  obtain ⟨h1, h2⟩ := (ha hno1.1).2 rfl
  obtain ⟨res, q1, q2, q3, q4⟩ := hG rfl
  rw [o_qcallv, ← opd_ev, hg]
  simp only [SV.ev, hx, qcallvK_fn]
  rw [happ, h2] at q1
  rw [h2] at hno
  exact qcallK_intro res q1 hno q4

theorem qcallv_any {s : SS} {g : Opd} {x : D} {args : List Opd} {ns : List Node} {ds : List D} (hg : opd s g = .d x) (h : xArgs s args = some (ns, ds, false)) :
    OpOk P (.qcallv g args) s (nx s ns (.callv x ds false)) := by
  intro r hl hc hr hnc K hk
  obtain ⟨hn, hs⟩ := args_sound (P := P) h
  obtain ⟨hG, ha⟩ := hs (nx_calls hl hc hn hk)
  obtain ⟨hx, hds⟩ := callv_cl hn hnc
  have hno1 := D.evs_noref hr ds (by rw [hl]; exact hds)
  have hnx := D.ev_noref hr x (by rw [hl]; exact hx)
  obtain ⟨h1, h2⟩ := (ha hno1).2 rfl
  have hG := hG rfl
  rw [o_qcallv, ← opd_ev, hg]
  simp only [PO.wp, callvP] at hG
  simp only [SV.ev]
  split at hG
  · rename_i f caps hf
    rw [hf] at hnx ⊢
    rw [qcallvK_fn]
    obtain ⟨res, q1, q2, q3, q4⟩ := hG
    rw [h2] at q1 hno1
    exact qcallK_intro res q1 (by rw [norefs_append, hno1]; exact hnx) q4
  · exact hG.elim

theorem mkfn_ok {s : SS} {f : FuncId} {caps : List Opd} {ns : List Node} {ds : List D} (hcl : D.cls s.nv ds = true) (h : xArgs s caps = some (ns, ds, false)) : OpOk P (.mkfn f caps) s (done s ns (.d (.fn f ds))) := by
  intro r hl hc hr hnc K hk
  obtain ⟨hn, hs⟩ := args_sound (P := P) h
  obtain ⟨hG, ha⟩ := hs hk
  have hno := D.evs_noref hr ds (by rw [hl]; exact hcl)
  obtain ⟨h1, h2⟩ := (ha hno).2 rfl
  have hG := hG rfl
  rw [o_mkfn, k1, ← h2]
  exact hG

theorem nilc_ok {s : SS} {a : Opd} {q} (h : xOp (.nilc a) s = some q) : OpOk P (.nilc a) s q := by
  intro r hl hc hr hnc K hk
  simp only [xOp] at h
  rw [o_nilc, ← opd_ev]
  split at h
  · rename_i k f ha
    split at h
    · rename_i q' hb
      obtain ⟨e, cs⟩ := q'
      cases h
      rw [ha]
      simp only [SV.ev, nilcK_ptr]
      rw [stO_get (box_sound hb) r]
      simp only [SO.ev, objK_live, k1]
      exact ⟨rfl, hk rfl⟩
    · cases h
  · rename_i y f ha
    cases h
    rw [ha]
    simp only [SV.ev, nilcK_iptr, k1]
    exact hk rfl
  · rename_i f l ha
    cases h
    rw [ha]
    simp only [SV.ev, D.ev, nilcK_fn, k1]
    exact hk rfl
  · rename_i x _ ha
    cases h
    rw [ha]
    simp only [SV.ev]
    simp only [wpN, Chk.wp, isFnP] at hk
    split at hk
    · rename_i f cs hf
      rw [hf, nilcK_fn, k1]
      have := hk trivial
      simp only [SV.ev, hf] at this
      exact this
    · rename_i y f hf
      rw [hf, nilcK_iptr, k1]
      have := hk trivial
      simp only [SV.ev, hf] at this
      exact this
    · exact hk.elim
  · cases h

/-- ALL OPERATIONS. -/
theorem xOp_ok {op : AOp} {s : SS} {q : List Node × SV × SS} (hok : op.okc = true) (hcs : s.cl = true) (hq : q.2.1.cl q.2.2.nv = true) (h : xOp op s = some q) : OpOk P op s q := by
  cases op <;> simp only [xOp] at h
  case mov a => cases h; exact mov_ok s a
  case pick c a b =>
    split at h
    · rename_i t hc; cases h; exact pickc_ok hc
    · rename_i x _ hc
      split at h
      · rename_i na a' nb b' ha hb; cases h; exact pick_ok hc ha hb
      · cases h
    · cases h
  case alloc t n z => exact alloc_ok h
  case box t n a => exact box_ok (opd_cl' hcs hok) h
  case build z ps =>
    simp only [AOp.okc, Bool.and_eq_true] at hok
    exact build_ok hok.2 hok.1 h
  case buildSlice t m len z ps => exact buildSlice_ok h
  case load n a => exact load_ok h
  case store m a b => exact store_ok hok h
  case bin o a b =>
    split at h
    · rename_i x y ha hb; cases h; exact bin_ok ha hb
    · cases h
  case beq neg a b =>
    split at h
    · rename_i x y ha hb; cases h; exact beq_ok ha hb
    · cases h
  case un o a =>
    split at h
    · rename_i x ha; cases h; exact un_ok ha
    · cases h
  case convInt k a =>
    split at h
    · rename_i x ha; cases h; exact conv_ok ha
    · cases h
  case faddr off a => exact faddr_ok h
  case fld off n a => exact fld_ok h
  case iaddr m a i => exact iaddr_ok h
  case idxS a i =>
    split at h
    · rename_i x y ha hb; cases h; exact idxS_ok ha hb
    · cases h
  case sliceS a lo hi =>
    split at h
    · rename_i x dl dh ha h1 h2; cases h; exact sliceS_ok ha h1 h2
    · cases h
  case sliceL m a lo hi =>
    split at h
    · rename_i x dl dh ha h1 h2; cases h; exact sliceL_ok ha h1 h2
    · cases h
  case mk t m bytes z n c =>
    split at h
    · rename_i x y hn hc; exact mk_ok hn hc h
    · cases h
  case lenS a =>
    split at h
    · rename_i x ha; cases h; exact lenS_ok ha
    · cases h
  case lenL a =>
    split at h
    · rename_i x ha; cases h; exact lenL_ok ha
    · rename_i k l ha
      split at h
      · rename_i hcur; cases h; exact lenLr_ok ha (by rw [hcur]; rfl)
      · cases h
    · cases h
  case app t m bytes a b =>
    split at h
    · rename_i k l ha
      split at h
      · rename_i nl e sz hcur
        split at h
        · rename_i hes
          split at h
          · rename_i y hy
            cases h
            refine app_ok ha hcur hes ?_
            split at hy
            · rename_i y' hb; cases hy; exact .inl hb
            · rename_i k' l' hb
              split at hy
              · rename_i hsome; cases hy; exact .inr ⟨k', l', hb, hsome, rfl⟩
              · cases hy
            · cases hy
          · cases h
        · cases h
      · cases h
    · rename_i ha
      split at h
      · rename_i y hy
        cases h
        refine appn_ok ha ?_
        split at hy
        · rename_i y' hb; cases hy; exact .inl hb
        · rename_i k' l' hb
          split at hy
          · rename_i hsome; cases hy; exact .inr ⟨k', l', hb, hsome, rfl⟩
          · cases hy
        · cases hy
      · cases h
    · cases h
  case ext a i =>
    split at h
    · rename_i j ha; cases h; exact ext_ok ha
    · cases h
  case nilc a => exact nilc_ok h
  case mkfn f caps =>
    split at h
    · rename_i ns ds hx
      cases h
      refine mkfn_ok ?_ hx
      have := (args_sound (P := P) hx).1
      simp only [done, SV.cl, D.cl, this] at hq
      exact hq
    · cases h
  case pcall f args =>
    split at h
    · rename_i ns ds b hx; cases h; exact pcall_ok hx
    · cases h
  case pcallv g args =>
    split at h
    · rename_i f ns ds b hg hx; cases h
      have := pcallv_ok (P := P) (f := f) (caps := []) hg (fun r => rfl) hx
      rwa [List.append_nil] at this
    · rename_i f caps ns ds b hg hx; cases h
      exact pcallv_ok hg (fun r => rfl) hx
    · rename_i x ns ds b _ _ hg hx; cases h
      exact pcallv_any hg hx
    · cases h
  case qcall f args =>
    split at h
    · rename_i ns ds hx; cases h; exact qcall_ok hx
    · cases h
  case qcallv g args =>
    split at h
    · rename_i f ns ds hg hx; cases h
      have := qcallv_ok (P := P) (f := f) (caps := []) hg (fun r => rfl) hx
      rwa [List.append_nil] at this
    · rename_i f caps ns ds hg hx; cases h
      exact qcallv_ok hg (fun r => rfl) hx
    · rename_i x ns ds _ _ hg hx; cases h
      exact qcallv_any hg hx
    · cases h
  all_goals cases h

end
end Go.Ab
