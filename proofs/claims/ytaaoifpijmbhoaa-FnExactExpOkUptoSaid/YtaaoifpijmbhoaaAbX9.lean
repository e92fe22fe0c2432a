/-
  THE SYMBOLIC WALK IS SOUND: what becomes plain ahead of an operation; joins.
-/
import Derived.Test.YtaaoifpijmbhoaaAbX8
set_option linter.unusedVariables false
set_option linter.unusedSimpArgs false
set_option linter.defProp false
namespace Go.Ab

/-- a state may go over into another one that knows less -/
def Wk (n0 : Nat) (s s' : SS) : Prop := s'.nv = s.nv ∧ ∀ r : List AV, r.length = s.nv → AV.norefs r = true → WK n0 (stE s r) (stO s r) (stE s' r) (stO s' r)

theorem Wk.refl (n0 : Nat) (s : SS) : Wk n0 s s := ⟨rfl, fun _ _ _ => .refl _ _ _⟩
theorem Wk.trans {n0 : Nat} {s s' s'' : SS} (h : Wk n0 s s') (k : Wk n0 s' s'') : Wk n0 s s'' :=
  ⟨k.1.trans h.1, fun r hl hr => (h.2 r hl hr).trans (k.2 r (hl.trans h.1.symm) hr)⟩

theorem lk_key (k : Nat) (v : SV) : ∀ (l : List (Nat × SV)) (t : Nat), (t ≠ k → lk (l.map fun p => (p.1, if p.1 = k then v else p.2)) t = lk l t) ∧ (lk l k = .top ∨ lk (l.map fun p => (p.1, if p.1 = k then v else p.2)) k = v)
  | [], t => ⟨fun _ => rfl, .inl rfl⟩
  | (q, w) :: l, t => by
    obtain ⟨h1, h2⟩ := lk_key k v l t
    simp only [List.map_cons, lk]
    refine ⟨fun ht => ?_, ?_⟩
    · by_cases hq : t = q
      · subst hq; rw [if_pos rfl, if_pos rfl, if_neg ht]
      · rw [if_neg hq, if_neg hq]; exact h1 ht
    · by_cases hq : k = q
      · subst hq; rw [if_pos rfl, if_pos rfl]; exact .inr (if_pos rfl)
      · rw [if_neg hq, if_neg hq]; exact h2

theorem nilRow_wk {n0 : Nat} {s : SS} {t m k : Nat} (h : lk s.env k = .d (.c .nils)) : Wk n0 s (nilRow s t m k) := by
  refine ⟨rfl, fun r hl hr => ?_⟩
  refine WK.nilrow t m (by simp [stO, nilRow]) (by simp [stO, nilRow, SO.ev, D.ev, listOf]) (fun j hj => .inl ?_) fun q => ?_
  · simp only [stO, nilRow, List.map_append]
    rw [List.getElem?_append_left (by simpa [stO] using hj)]
  · have := lk_key k (.row s.objs.length (.c (.sl []))) s.env q
    by_cases hq : q = k
    · subst hq
      rcases this.2 with h1 | h1
      · rw [h] at h1; cases h1
      · refine .inr ⟨by simp only [stE, h]; rfl, ?_⟩
        simp only [stE, nilRow, h1, SV.ev, D.ev, listOf, stO_len]; rfl
    · exact .inl (by simp only [stE, nilRow, this.1 hq])

theorem nilCell_wk {n0 : Nat} {s : SS} {k j t m e : Nat} {cs : List SV} (hb : boxOf s k = some (e, cs)) (hj : cs[j]? = some (.d (.c .nils))) : Wk n0 s (nilCell s k j t m) := by
  have hob := box_sound hb
  have hk : k < s.objs.length := (List.getElem?_eq_some_iff.1 hob).1
  refine ⟨by simp only [nilCell, hb], fun r hl hr => ?_⟩
  have hO : stO (nilCell s k j t m) r = (stO s r).set k (.live e cs.length [mkA ((SV.evs r cs).set j (.row s.objs.length 0))]) ++ [.nil t m] := by
    simp only [nilCell, hb, stO, List.map_append, List.map_set, List.map_cons, List.map_nil, SO.ev, List.length_set, SV.evs_eq, SV.ev, D.ev, listOf, List.length_nil, if_true]
  have hE : stE (nilCell s k j t m) r = stE s r := by simp only [nilCell, hb]; rfl
  rw [hO, hE]
  refine WK.nilrow t m (by simp) (by rw [List.getElem?_append_right (by simp)]; simp) (fun i hi => ?_) fun q => .inl rfl
  rw [List.getElem?_append_left (by simpa using hi)]
  by_cases hik : i = k
  · subst hik
    refine .inr ⟨e, cs.length, [mkA (SV.evs r cs)], [mkA ((SV.evs r cs).set j (.row s.objs.length 0))], stO_get hob r, by rw [List.getElem?_set_self hi], rfl, fun i' y y' hy hy' => ?_⟩
    cases i' with
    | succ i' => simp at hy
    | zero =>
      simp at hy hy'
      subst hy; subst hy'
      rw [show (stO s r).length = s.objs.length from stO_len s r]
      have hcj : (SV.evs r cs)[j]? = some .nils := by rw [SV.evs_eq, List.getElem?_map, hj]; rfl
      generalize SV.evs r cs = xs at hcj
      have hjl := (List.getElem?_eq_some_iff.1 hcj).1
      by_cases h1 : xs.length = 1
      · obtain ⟨c, rfl⟩ := List.length_eq_one_iff.1 h1
        have hj0 : j = 0 := by simp at hjl; exact hjl
        subst hj0
        simp at hcj; subst hcj
        refine ⟨rfl, fun p c c' hc hc' => ?_⟩
        cases p with
        | zero => simp [mkA, AV.cells] at hc hc'; exact .inr ⟨hc.symm, hc'.symm⟩
        | succ p => simp [mkA, AV.cells] at hc
      · rw [mkA_cells h1, mkA_cells (by simpa using h1)]
        simp only [AV.cells]
        refine ⟨by simp, fun p c c' hc hc' => ?_⟩
        rw [List.getElem?_set] at hc'
        split at hc'
        · rename_i hpj
          subst hpj
          rw [hcj] at hc
          exact .inr ⟨(Option.some.inj hc).symm, (Option.some.inj hc').symm⟩
        · rw [hc] at hc'
          exact .inl (Option.some.inj hc').symm
  · rw [List.getElem?_set_ne (fun h => hik h.symm)]
    exact .inl rfl

theorem Fr.cell {n : Nat} {xs : List AV} {a b : AV} (h : Fr n xs a b) {j : Nat} {c d : AV} (hc : a.cells[j]? = some c) (hd : b.cells[j]? = some d) : Fr n xs c d := by
  cases h with
  | refl => rw [hc] at hd; cases hd; exact .refl _
  | row =>
    cases j with
    | zero => simp [AV.cells] at hc hd; subst hc; subst hd; exact .row
    | succ j => simp [AV.cells] at hc
  | agg cs ds _ h => exact h j c d hc hd
  | ptr a f ha =>
    cases j with
    | zero => simp [AV.cells] at hc hd; subst hc; subst hd; exact .ptr a f ha
    | succ j => simp [AV.cells] at hc

theorem Fr.mkA {n : Nat} {xs : List AV} {cs ds : List AV} (hl : cs.length = ds.length) (h : ∀ (i : Nat) c d, cs[i]? = some c → ds[i]? = some d → Fr n xs c d) : Fr n xs (mkA cs) (mkA ds) := by
  by_cases h1 : cs.length = 1
  · obtain ⟨c, rfl⟩ := List.length_eq_one_iff.1 h1
    obtain ⟨d, rfl⟩ := List.length_eq_one_iff.1 (show ds.length = 1 by omega)
    exact h 0 c d rfl rfl
  · rw [mkA_cells h1, mkA_cells (by omega)]
    exact .agg _ _ hl h

theorem frzRow_wk {n0 : Nat} {s : SS} (n : Nat) : Wk n0 s (frzRow s n) := by
  unfold frzRow
  split
  · rename_i nl e sz l hob
    split
    · rename_i hcl
      refine ⟨rfl, fun r hl hr => ?_⟩
      have hn := listOf_norefs (D.ev_noref hr l (by rw [hl]; exact hcl))
      have fr1 : ∀ v : SV, Fr n (listOf (l.ev r)) (v.ev r) ((v.frz n l).ev r) := by
        intro v
        cases v with
        | row m k =>
          simp only [SV.frz]
          split
          · rename_i h1
            have := D.beq_eq _ _ h1.2
            obtain ⟨rfl, _⟩ := h1
            subst this
            exact .row
          · exact .refl _
        | _ => exact .refl _
      have hpt : ∀ cs : List SV, ∀ (i : Nat) c d, (SV.evs r cs)[i]? = some c → (SV.evs r (cs.map (SV.frz n l)))[i]? = some d → Fr n (listOf (l.ev r)) c d := by
        intro cs i c d hc hd
        rw [SV.evs_eq, List.getElem?_map] at hc hd
        rw [List.getElem?_map] at hd
        cases hi : cs[i]? with
        | none => rw [hi] at hc; simp at hc
        | some v => rw [hi] at hc hd; simp at hc hd; subst hc; subst hd; exact fr1 v
      refine WK.frz (n := n) (t := e) (s := sz) (xs := listOf (l.ev r)) ?_ hn (by simp [stO]) ?_ (fun m hm => ?_) fun t => ?_
      · rcases row_cases hob r with h | ⟨h, h', _⟩
        · exact .inl h
        · exact .inr ⟨h, h'⟩
      · simp only [stO, List.map_set]
        rw [List.getElem?_set_self (by simpa using (List.getElem?_eq_some_iff.1 hob).1)]; rfl
      · simp only [stO, List.map_set]
        rw [List.getElem?_set_ne (fun h => hm h.symm), List.map_map, List.getElem?_map, List.getElem?_map]
        cases ho : s.objs[m]? with
        | none => exact .inl rfl
        | some o =>
          cases o with
          | box e' cs =>
            refine .inr ⟨e', cs.length, [mkA (SV.evs r cs)], [mkA (SV.evs r (cs.map (SV.frz n l)))], rfl, by simp [SO.frz, SO.ev], rfl, fun i y y' hy hy' => ?_⟩
            cases i with
            | succ i => simp at hy
            | zero =>
              simp at hy hy'
              subst hy; subst hy'
              have hf := Fr.mkA (n := n) (xs := listOf (l.ev r)) (cs := SV.evs r cs) (ds := SV.evs r (cs.map (SV.frz n l))) (by simp [SV.evs_eq]) (hpt cs)
              exact ⟨hf.width, fun j c c' hc hc' => hf.cell hc hc'⟩
          | dead => exact .inl rfl
          | row _ _ _ _ => exact .inl rfl
      · simp only [stE]
        rw [lk_map (f := SV.frzs n l) rfl]
        generalize lk s.env t = v
        cases v with
        | agg cs =>
          simp only [SV.frzs, SV.ev]
          exact .agg _ _ (by simp [SV.evs_eq]) (hpt cs)
        | row m k => exact fr1 (.row m k)
        | _ => exact .refl _
    · exact .refl _ _
  · exact .refl _ _

theorem mkD_ev (r : List AV) (ds : List D) : (mkD ds).ev r = mkA (D.evs r ds) := by
  unfold mkD
  split
  · rfl
  · rename_i h
    cases ds with
    | nil => rfl
    | cons a l => cases l with
      | nil => exact (h a rfl).elim
      | cons b l => rfl

theorem frzBox_wk {n0 : Nat} {s : SS} (n : Nat) : Wk n0 s (frzBox s n) := by
  unfold frzBox
  split
  · rename_i e cs hob
    split
    · rename_i ds hd
      split
      · rename_i hcl
        refine ⟨rfl, fun r hl hr => ?_⟩
        have hcs := dsOf_map hd
        have hx : mkA (SV.evs r cs) = (mkD ds).ev r := by rw [hcs, evs_map, mkD_ev]
        have hn : AV.norefs [(mkD ds).ev r] = true := by
          have : (mkD ds).cl r.length = true := by
            rw [hl]
            unfold mkD
            split
            · simpa [D.cls] using hcl
            · exact hcl
          simp only [AV.norefs, D.ev_noref hr _ this]; rfl
        have fr1 : ∀ v : SV, Fr n [(mkD ds).ev r] (v.ev r) ((v.fbx n (mkD ds)).ev r) := by
          intro v
          cases v with
          | ptr m f =>
            simp only [SV.fbx]
            split
            · rename_i h1; subst h1; exact .ptr _ f rfl
            · exact .refl _
          | _ => exact .refl _
        have hpt : ∀ cs : List SV, ∀ (i : Nat) c d, (SV.evs r cs)[i]? = some c → (SV.evs r (cs.map (SV.fbx n (mkD ds))))[i]? = some d → Fr n [(mkD ds).ev r] c d := by
          intro cs i c d hc hd
          rw [SV.evs_eq, List.getElem?_map] at hc hd
          rw [List.getElem?_map] at hd
          cases hi : cs[i]? with
          | none => rw [hi] at hc; simp at hc
          | some v => rw [hi] at hc hd; simp at hc hd; subst hc; subst hd; exact fr1 v
        refine WK.frz (n := n) (t := e) (s := cs.length) (xs := [(mkD ds).ev r]) (.inl ?_) hn (by simp [stO]) ?_ (fun m hm => ?_) fun t => ?_
        · have := stO_get hob r
          rw [this]; simp only [SO.ev, hx]
        · simp only [stO, List.map_set]
          rw [List.getElem?_set_self (by simpa using (List.getElem?_eq_some_iff.1 hob).1)]; rfl
        · simp only [stO, List.map_set]
          rw [List.getElem?_set_ne (fun h => hm h.symm), List.map_map, List.getElem?_map, List.getElem?_map]
          cases ho : s.objs[m]? with
          | none => exact .inl rfl
          | some o =>
            cases o with
            | box e' cs =>
              refine .inr ⟨e', cs.length, [mkA (SV.evs r cs)], [mkA (SV.evs r (cs.map (SV.fbx n (mkD ds))))], rfl, by simp [SO.fbx, SO.ev], rfl, fun i y y' hy hy' => ?_⟩
              cases i with
              | succ i => simp at hy
              | zero =>
                simp at hy hy'
                subst hy; subst hy'
                have hf := Fr.mkA (n := n) (xs := [(mkD ds).ev r]) (cs := SV.evs r cs) (ds := SV.evs r (cs.map (SV.fbx n (mkD ds)))) (by simp [SV.evs_eq]) (hpt cs)
                exact ⟨hf.width, fun j c c' hc hc' => hf.cell hc hc'⟩
            | dead => exact .inl rfl
            | row _ _ _ _ => exact .inl rfl
        · simp only [stE]
          rw [lk_map (f := SV.fbx n (mkD ds)) rfl]
          exact fr1 _
      · exact .refl _ _
    · exact .refl _ _
  · exact .refl _ _

theorem foldl_wk {n0 : Nat} {α : Type} {f : SS → α → SS} (h : ∀ s a, Wk n0 s (f s a)) : ∀ (l : List α) (s : SS), Wk n0 s (l.foldl f s)
  | [], s => .refl _ _
  | a :: l, s => (h s a).trans (foldl_wk h l (f s a))
theorem frzOf_wk {n0 : Nat} (s : SS) (v : SV) : Wk n0 s (frzOf s v) := foldl_wk (fun s n => frzRow_wk n) _ s
theorem frzOps_wk {n0 : Nat} (s : SS) (l : List Opd) : Wk n0 s (frzOps s l) := foldl_wk (fun s x => frzOf_wk s _) l s
theorem frzCap_wk {n0 : Nat} (s : SS) (x : Opd) : Wk n0 s (frzCap s x) := by
  unfold frzCap
  split
  · split
    · exact (foldl_wk (fun s v => frzOf_wk s v) _ s).trans (frzBox_wk _)
    · exact .refl _ _
  · exact frzOf_wk _ _

theorem prep_wk {n0 : Nat} (fl : List Nat) (op : AOp) (s : SS) : Wk n0 s (prep fl op s) := by
  unfold prep
  split
  · split
    · rename_i h; exact nilRow_wk h
    · exact .refl _ _
  · exact frzOf_wk _ _
  · exact frzOps_wk _ _
  · split
    · exact frzOf_wk _ _
    · exact .refl _ _
  · exact foldl_wk (fun s x => frzCap_wk s x) _ s
  · split
    · exact .refl _ _
    · exact frzOps_wk _ _
  · exact frzOps_wk _ _
  · exact frzOps_wk _ _
  · exact .refl _ _

theorem pre_wk {n0 : Nat} (fl : List Nat) (wk : Bool) (op : AOp) (s : SS) : Wk n0 s (pre fl wk op s) := by
  unfold pre; split
  · exact prep_wk _ _ _
  · exact .refl _ _

theorem conv_wk {n0 : Nat} (s : SS) (c : Conv) : Wk n0 s (c.run s) := by
  cases c with
  | slot k t m =>
    simp only [Conv.run]
    split
    · rename_i h; exact nilRow_wk h
    · exact .refl _ _
  | cell k j t m =>
    simp only [Conv.run]
    split
    · rename_i h
      split
      · rename_i h2; exact nilCell_wk h h2
      · exact .refl _ _
    · exact .refl _ _
  | fbx n =>
    simp only [Conv.run]
    split
    · exact (foldl_wk (fun s v => frzOf_wk s v) _ s).trans (frzBox_wk _)
    · exact .refl _ _
  | frow n => exact frzRow_wk n

/- joins -/

theorem WK.kills {n0 : Nat} {e : Env} {O O' : List AObj} (hlen : O'.length = O.length) (h : ∀ m : Nat, O'[m]? = O[m]? ∨ O'[m]? = some .dead) : WK n0 e O e O' := by
  intro I0 L0 O0 w0 I L w f h0 hg hr
  have hget : ∀ {m : Nat} {ob}, O'[m]? = some ob → ob ≠ .dead → O[m]? = some ob := by
    intro m ob ho hne
    rcases h m with h1 | h1
    · rw [← h1]; exact ho
    · rw [h1] at ho; cases ho; exact (hne rfl).elim
  have hext : Ext I L O I L O' := ⟨fun _ _ _ h => h, by omega, fun m _ ee k zs hz => .inl ⟨zs, hget hz (by simp), Nat.le_refl _, fun _ => rfl⟩, fun m _ ee k h => hget h (by simp)⟩
  refine ⟨I, L, hg.turn (by omega) (fun _ _ _ h => h) (fun _ _ _ h => .inl h) (fun m ee k zs hm => ?_) (fun m ee k _ hm => hget hm (by simp)), fun t => (hr t).mono hext⟩
  have h1 := hget hm (by simp)
  exact ⟨zs, h1, rfl, (hg.inv.obj m _ _ _ h1).congr rfl fun _ _ h => h.mono hext, fun o => hg.inv.immSep m _ _ _ o h1⟩

theorem killFor_len (t : List SO) : ∀ (k : Nat) (l : List SO), (killFor t k l).length = l.length
  | _, [] => rfl
  | k, o :: l => by simp [killFor, killFor_len t (k + 1) l]
theorem killFor_get (t : List SO) : ∀ (k : Nat) (l : List SO) (m : Nat), (killFor t k l)[m]? = l[m]? ∨ (killFor t k l)[m]? = some .dead
  | _, [], m => .inl rfl
  | k, o :: l, m => by
    cases m with
    | zero =>
      simp only [killFor, List.getElem?_cons_zero]
      split
      · exact .inr rfl
      · exact .inl rfl
    | succ m => simpa [killFor] using killFor_get t (k + 1) l m

section
variable {rb m : List AV} {vs : List D} {base : Nat}

theorem inst_d (hb : rb.length = base) : ∀ (d e : D), (d.inst base vs).beq e = true → d.ev (rb ++ D.evs (rb ++ m) vs) = e.ev (rb ++ m) := by
  intro d e h
  cases d with
  | x i =>
    simp only [D.inst] at h
    split at h
    · rename_i hi
      have := D.beq_eq _ _ h
      subst this
      simp only [D.ev]
      rw [getD_left (by omega), getD_left (by omega)]
    · rename_i hi
      cases hv : vs[i - base]? with
      | none =>
        rw [List.getD, hv] at h
        simp only [Option.getD_none] at h
        cases e <;> simp [D.beq, AV.ceq] at h
      | some d' =>
        rw [List.getD, hv] at h
        simp only [Option.getD_some] at h
        have := D.beq_eq _ _ h
        subst this
        simp only [D.ev, List.getD]
        rw [List.getElem?_append_right (by omega), hb, D.evs_eq, List.getElem?_map, hv]
        rfl
  | _ =>
    simp only [D.inst] at h
    split at h
    · rename_i hcl
      have := D.beq_eq _ _ h
      subst this
      rw [D.ev_more _ (by rw [hb]; exact hcl), D.ev_more _ (by rw [hb]; exact hcl)]
    · cases e <;> simp [D.beq, AV.ceq] at h

theorem inst_sv (hb : rb.length = base) : ∀ (v w : SV), (v.inst base vs).beq w = true → v.ev (rb ++ D.evs (rb ++ m) vs) = w.ev (rb ++ m) := by
  intro v w h
  cases v with
  | d x => cases w <;> simp only [SV.inst, SV.beq, Bool.false_eq_true] at h; exact (inst_d hb _ _ h)
  | row n l =>
    cases w <;> simp only [SV.inst, SV.beq, Bool.false_eq_true, Bool.and_eq_true, decide_eq_true_eq] at h
    obtain ⟨rfl, h⟩ := h
    exact (by simp only [SV.ev, inst_d hb _ _ h])
  | ptr n f =>
    cases w <;> simp only [SV.inst, SV.beq, Bool.false_eq_true, Bool.and_eq_true, decide_eq_true_eq] at h
    obtain ⟨rfl, rfl⟩ := h
    rfl
  | rp n l i f =>
    cases w <;> simp only [SV.inst, SV.beq, Bool.false_eq_true, Bool.and_eq_true, decide_eq_true_eq] at h
    obtain ⟨⟨⟨rfl, h1⟩, h2⟩, rfl⟩ := h
    exact (by simp only [SV.ev, inst_d hb _ _ h1, inst_d hb _ _ h2])
  | ip x f =>
    cases w <;> simp only [SV.inst, SV.beq, Bool.false_eq_true, Bool.and_eq_true, decide_eq_true_eq] at h
    obtain ⟨h, rfl⟩ := h
    exact (by simp only [SV.ev, inst_d hb _ _ h])
  | agg cs =>
    simp only [SV.inst] at h
    split at h
    · rename_i hcl
      have := SV.beq_eq _ _ h
      subst this
      exact (by simp only [SV.ev]; rw [SV.evs_more cs (by rw [hb]; exact hcl), SV.evs_more cs (by rw [hb]; exact hcl)])
    · cases w <;> simp only [SV.beq, Bool.false_eq_true] at h
      rename_i e; cases e <;> simp [D.beq, AV.ceq] at h
  | top => cases w <;> simp only [SV.inst, SV.beq, Bool.false_eq_true] at h; rfl


theorem inst_svs (hb : rb.length = base) : ∀ (cs ds : List SV), SV.beqs (cs.map (SV.inst base vs)) ds = true → SV.evs (rb ++ D.evs (rb ++ m) vs) cs = SV.evs (rb ++ m) ds
  | [], [], _ => rfl
  | c :: cs, d :: ds, h => by
    simp only [List.map_cons, SV.beqs, Bool.and_eq_true] at h
    simp only [SV.evs, inst_sv hb c d h.1, inst_svs hb cs ds h.2]
  | [], _ :: _, h => by simp [SV.beqs] at h
  | _ :: _, [], h => by simp [SV.beqs] at h
theorem beqs_len : ∀ (cs ds : List SV), SV.beqs cs ds = true → cs.length = ds.length
  | [], [], _ => rfl
  | c :: cs, d :: ds, h => by
    simp only [SV.beqs, Bool.and_eq_true] at h
    simp [beqs_len cs ds h.2]
  | [], _ :: _, h => by simp [SV.beqs] at h
  | _ :: _, [], h => by simp [SV.beqs] at h
theorem inst_so (hb : rb.length = base) : ∀ (a b : SO), (a.inst base vs).beq b = true → a.ev (rb ++ D.evs (rb ++ m) vs) = b.ev (rb ++ m) := by
  intro a b h
  cases a with
  | dead => cases b <;> simp only [SO.inst, SO.beq, Bool.false_eq_true] at h; rfl
  | box e cs =>
    cases b <;> simp only [SO.inst, SO.beq, Bool.false_eq_true, Bool.and_eq_true, decide_eq_true_eq] at h
    obtain ⟨rfl, h⟩ := h
    have h2 := beqs_len _ _ h
    simp only [List.length_map] at h2
    simp only [SO.ev, inst_svs hb _ _ h, h2]
  | row nl e s l =>
    cases b <;> simp only [SO.inst, SO.beq, Bool.false_eq_true, Bool.and_eq_true, decide_eq_true_eq] at h
    obtain ⟨⟨⟨rfl, rfl⟩, rfl⟩, h⟩ := h
    cases nl <;> simp only [SO.ev, inst_d hb _ _ h]
end

mutual
theorem SV.sc_ev {k : Nat} {r : List AV} (hr : AV.norefs r = true) : ∀ (v : SV), v.sc k = true → v.cl r.length = true → (v.ev r).inScope k = true
  | .d x, _, h => noref_scoped _ (D.ev_noref hr x h)
  | .row n l, h, _ => h
  | .ptr n f, h, _ => h
  | .rp n l i f, h, _ => h
  | .ip x f, _, h => noref_scoped (.iptr (x.ev r) f) (D.ev_noref hr x h)
  | .agg cs, h, h' => by
    simp only [SV.sc] at h
    simp only [SV.cl] at h'
    exact SV.scs_ev hr cs h h'
  | .top, _, _ => rfl
theorem SV.scs_ev {k : Nat} {r : List AV} (hr : AV.norefs r = true) : ∀ (l : List SV), SV.scs k l = true → SV.cls r.length l = true → AV.scopeds k (SV.evs r l) = true
  | [], _, _ => rfl
  | v :: l, h, h' => by
    simp only [SV.scs, Bool.and_eq_true] at h
    simp only [SV.cls, Bool.and_eq_true] at h'
    simp only [SV.evs, AV.scopeds, SV.sc_ev hr v h.1 h'.1, SV.scs_ev hr l h.2 h'.2]; rfl
end
theorem mkA_scoped {k : Nat} {l : List AV} (h : AV.scopeds k l = true) : (mkA l).inScope k = true := by
  unfold mkA
  split
  · simpa [AV.scopeds] using h
  · exact h
theorem SO.sc_ev {k : Nat} {r : List AV} (hr : AV.norefs r = true) (o : SO) (h : o.sc k = true) (h' : o.cl r.length = true) : (o.ev r).inScope k = true := by
  cases o with
  | dead => rfl
  | box e cs =>
    simp only [SO.ev, AObj.inScope, AV.scopeds, Bool.and_true]
    exact mkA_scoped (SV.scs_ev hr cs h h')
  | row nl e s l =>
    have := norefs_scopeds (k := k) _ (listOf_norefs (D.ev_noref hr l h'))
    cases nl
    · exact this
    · simp only [SO.ev]
      split
      · rfl
      · exact this

theorem lk_mem {l : List (Nat × SV)} {t : Nat} : lk l t = .top ∨ (t, lk l t) ∈ l := by
  induction l with
  | nil => exact .inl rfl
  | cons p l ih =>
    obtain ⟨k, v⟩ := p
    simp only [lk]
    split
    · rename_i h; subst h; exact .inr (by simp)
    · rcases ih with h | h
      · exact .inl h
      · exact .inr (by simp [h])

/-- WHAT IS HANDED TO A JOIN IS RIGHT. -/
theorem coerce_sound {base : Nat} {s t : SS} {vs : List D} (h : coerce base s t = some vs) {rb m : List AV} (hb : rb.length = base) (hl : (rb ++ m).length = s.nv) (hr : AV.norefs (rb ++ m) = true) :
    vs.length = t.nv - base ∧ More rb (rb ++ D.evs (rb ++ m) vs) t.nv ∧ WK 0 (stE s (rb ++ m)) (stO s (rb ++ m)) (stE t (rb ++ D.evs (rb ++ m) vs)) (stO t (rb ++ D.evs (rb ++ m) vs)) := by
  unfold coerce at h
  simp only at h
  split at h
  · cases h
  · rename_i vs' hvs
    split at h
    · rename_i hcnd
      cases h
      obtain ⟨c1, c2, c3, c4, c5, c6, c7⟩ := hcnd
      have hlen : vs.length = t.nv - base := by
        have := (mapM_some hvs).1
        simpa using this
      have hn : AV.norefs (rb ++ D.evs (rb ++ m) vs) = true := by
        rw [norefs_append, Bool.and_eq_true] at hr ⊢
        exact ⟨hr.1, D.evs_noref (by rw [norefs_append, Bool.and_eq_true]; exact hr) vs (by rw [hl]; exact c4)⟩
      have hl2 : (rb ++ D.evs (rb ++ m) vs).length = t.nv := by
        rw [List.length_append, D.evs_eq, List.length_map, hlen, hb]; omega
      refine ⟨hlen, ⟨⟨_, rfl⟩, hl2, hn⟩, ?_⟩
      have hk1 : WK 0 (stE s (rb ++ m)) (stO s (rb ++ m)) (stE s (rb ++ m)) ((killFor t.objs 0 s.objs).map (SO.ev (rb ++ m))) := by
        refine WK.kills (by simp [stO, killFor_len]) fun j => ?_
        simp only [stO, List.getElem?_map]
        rcases killFor_get t.objs 0 s.objs j with h | h
        · exact .inl (by rw [h])
        · exact .inr (by rw [h]; rfl)
      refine hk1.trans (WK.forget (k := t.objs.length) ?_ (Nat.zero_le _) (by simpa using c3) (fun ob ho => ?_) fun q => ?_)
      · apply List.ext_getElem?
        intro j
        simp only [stO, List.getElem?_take, List.getElem?_map]
        split
        · rename_i hj
          have hj2 : j < (killFor t.objs 0 s.objs).length := by omega
          have h1 : t.objs[j]? = some t.objs[j] := by simp [hj]
          have h2 : (killFor t.objs 0 s.objs)[j]? = some (killFor t.objs 0 s.objs)[j] := by simp [hj2]
          rw [h1, h2]
          have hz : (t.objs[j], (killFor t.objs 0 s.objs)[j]) ∈ t.objs.zip (killFor t.objs 0 s.objs) := by
            apply List.mem_of_getElem? (i := j)
            rw [List.getElem?_zip_eq_some]
            exact ⟨h1, h2⟩
          have := List.all_eq_true.1 c7 _ hz
          simp only [Bool.and_eq_true] at this
          simp only [Option.map_some, inst_so hb _ _ this.1]
        · rename_i hj
          rw [List.getElem?_eq_none (by omega)]; rfl
      · simp only [stO, List.mem_map] at ho
        obtain ⟨o, ho, rfl⟩ := ho
        refine SO.sc_ev hn o ?_ (by rw [hl2]; exact SS.cl_obj c5 ho)
        obtain ⟨j, hj⟩ := List.getElem?_of_mem ho
        have hjl := (List.getElem?_eq_some_iff.1 hj).1
        have h2 : (killFor t.objs 0 s.objs)[j]? = some ((killFor t.objs 0 s.objs)[j]'(by omega)) := by simp [show j < (killFor t.objs 0 s.objs).length by omega]
        have hz : (o, (killFor t.objs 0 s.objs)[j]'(by omega)) ∈ t.objs.zip (killFor t.objs 0 s.objs) := by
          apply List.mem_of_getElem? (i := j)
          rw [List.getElem?_zip_eq_some]
          exact ⟨hj, h2⟩
        have := List.all_eq_true.1 c7 _ hz
        simp only [Bool.and_eq_true] at this
        exact this.2
      · simp only [stE]
        rcases lk_mem (l := t.env) (t := q) with h | h
        · rw [h]; exact .inl rfl
        · have := List.all_eq_true.1 c6 _ h
          simp only [Bool.and_eq_true] at this
          exact .inr ⟨inst_sv hb _ _ this.1, SV.sc_ev hn _ this.2 (by rw [hl2]; exact SS.cl_env c5 q)⟩
    · cases h

end Go.Ab
