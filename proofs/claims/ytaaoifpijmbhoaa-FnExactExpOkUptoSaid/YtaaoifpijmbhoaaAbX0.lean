/-
  LESS MAY BE KNOWN: a slice that is still nil gets an object; rows and boxes that nobody writes any more become plain values.
-/
import Derived.Test.YtaaoifpijmbhoaaAbFrame
set_option linter.unusedVariables false
set_option linter.unusedSimpArgs false
set_option linter.defProp false
namespace Go.Ab

/-- other knowledge of the same memory -/
theorem Good.turn {I0 I I' : Imm} {L0 L : Nat → Loc} {O0 O O' : List AObj} {w0 w : World} (h : Good I0 L0 O0 w0 I L O w) (hlen : O.length ≤ O'.length)
    (hI : ∀ b o x, I b o = some x → I' b o = some x) (hI2 : ∀ b o x, I' b o = some x → I b o = some x ∨ (w.cell? ⟨b, o, none⟩ = some x ∧ LB L O b))
    (hO : ∀ (m : Nat) e s xs', O'[m]? = some (.live e s xs') → ∃ xs, O[m]? = some (.live e s xs) ∧ xs.length = xs'.length ∧ ObjOk I' L O' w (L m) e s xs' ∧ ∀ o, I' (L m).blk o = none)
    (hnil : ∀ (m : Nat) e s, m < O.length → O'[m]? = some (.nil e s) → O[m]? = some (.nil e s)) : Good I0 L0 O0 w0 I' L O' w := by
  refine ⟨⟨fun b o x hx => ?_, fun m e s xs hm => ?_, fun n m e s xs e' s' ys hn hm hb => ?_, fun m e s xs o hm => ?_⟩, ?_, h.frm, ?_, fun b o x hx => ?_⟩
  · rcases hI2 b o x hx with h1 | ⟨h1, _⟩
    · exact h.inv.imm b o x h1
    · exact h1
  · obtain ⟨_, _, _, h3, _⟩ := hO m e s xs hm
    exact h3
  · obtain ⟨_, h1, _⟩ := hO n e s xs hn
    obtain ⟨_, h2, _⟩ := hO m e' s' ys hm
    exact h.inv.sep n m _ _ _ _ _ _ h1 h2 hb
  · obtain ⟨_, _, _, _, h4⟩ := hO m e s xs hm
    exact h4 o
  · refine ⟨fun b o x hx => hI _ _ _ (h.ext.imm _ _ _ hx), Nat.le_trans h.ext.len hlen, fun n hn e s xs hx => ?_, fun n hn e s hx => h.ext.nil n hn e s (hnil n e s (Nat.lt_of_lt_of_le hn h.ext.len) hx)⟩
    obtain ⟨ys, h1, h2, _⟩ := hO n e s xs hx
    rcases h.ext.obj n hn e s ys h1 with ⟨zs, z1, z2, z3⟩ | ⟨z1, z2⟩
    · exact .inl ⟨zs, z1, by omega, fun he => z3 (by omega)⟩
    · exact .inr ⟨z1, fun h0 => z2 (List.eq_nil_of_length_eq_zero (by simp [h2, h0]))⟩
  · rintro b ⟨n, e, s, xs, hn, hb⟩
    obtain ⟨ys, h1, _⟩ := hO n e s xs hn
    exact h.lb b ⟨n, e, s, ys, h1, hb⟩
  · rcases hI2 b o x hx with h1 | ⟨_, h1⟩
    · exact h.immNew b o x h1
    · rcases h.lb b h1 with h2 | h2
      · exact .inr (.inl h2)
      · exact .inr (.inr h2)

theorem ext_snoc {I : Imm} {L : Nat → Loc} {O : List AObj} (ob : AObj) : Ext I L O I L (O ++ [ob]) :=
  ⟨fun _ _ _ h => h, by simp, fun n hn e s xs h => .inl ⟨xs, by rwa [List.getElem?_append_left hn] at h, Nat.le_refl _, fun _ => rfl⟩, fun n hn e s h => by rwa [List.getElem?_append_left hn] at h⟩

/-- a nil slice gets an object -/
theorem WK.nilrow {n0 : Nat} {e e' : Env} {O : List AObj} (t s : Nat) {O' : List AObj} (hO' : O'.length = O.length + 1) (hnew : O'[O.length]? = some (.nil t s))
    (hob : ∀ m, m < O.length → O'[m]? = O[m]? ∨ ∃ ee k ys ys', O[m]? = some (.live ee k ys) ∧ O'[m]? = some (.live ee k ys') ∧ ys'.length = ys.length ∧ ∀ (i : Nat) y y', ys[i]? = some y → ys'[i]? = some y' → y'.cells.length = y.cells.length ∧
      ∀ (j : Nat) c c', y.cells[j]? = some c → y'.cells[j]? = some c' → c' = c ∨ (c = .nils ∧ c' = .row O.length 0))
    (he : ∀ t, e' t = e t ∨ (e t = .nils ∧ e' t = .row O.length 0)) : WK n0 e O e' O' := by
  intro I0 L0 O0 w0 I L w f h0 hg hr
  have hext : Ext I L O I L O' := by
    refine ⟨fun _ _ _ h => h, by omega, fun n hn ee k xs hx => ?_, fun n hn ee k hx => ?_⟩
    · rcases hob n hn with h | ⟨e1, k1, ys, ys', h1, h2, h3, _⟩
      · exact .inl ⟨xs, by rw [← h]; exact hx, Nat.le_refl _, fun _ => rfl⟩
      · rw [h2] at hx; cases hx
        exact .inl ⟨ys, h1, by omega, fun _ => rfl⟩
    · rcases hob n hn with h | ⟨e1, k1, ys, ys', h1, h2, h3, _⟩
      · rwa [h] at hx
      · rw [h2] at hx; cases hx
  have hnils : ∀ {x : Value}, R I L O .nils x → R I L O' (.row O.length 0) x := by
    intro x hx
    cases hx
    exact .rowNil _ t s hnew
  refine ⟨I, L, hg.turn (by omega) (fun _ _ _ h => h) (fun _ _ _ h => .inl h) (fun m ee k xs hm => ?_) (fun m ee k hm hx => hext.nil m hm ee k hx), fun t => ?_⟩
  · have hlt : m < O.length := by
      have := (List.getElem?_eq_some_iff.1 hm).1
      rcases Nat.lt_or_ge m O.length with h | h
      · exact h
      · have : m = O.length := by omega
        subst this; rw [hnew] at hm; cases hm
    rcases hob m hlt with h | ⟨e1, k1, ys, ys', h1, h2, h3, h4⟩
    · rw [h] at hm
      exact ⟨xs, hm, rfl, (hg.inv.obj m _ _ _ hm).congr rfl fun _ _ h => h.mono hext, fun o => hg.inv.immSep m _ _ _ o hm⟩
    · rw [h2] at hm; cases hm
      refine ⟨ys, h1, h3.symm, ?_, fun o => hg.inv.immSep m _ _ _ o h1⟩
      obtain ⟨c, q1, q2, q3, q4, q5, q6⟩ := hg.inv.obj m _ _ _ h1
      refine ⟨c, q1, q2, by omega, q4, q5, fun i y' hy' => ?_⟩
      have hy : ys[i]? = some (ys[i]'(by have := (List.getElem?_eq_some_iff.1 hy').1; omega)) := by simp
      obtain ⟨p1, p2⟩ := h4 i _ _ hy hy'
      obtain ⟨r1, r2⟩ := q6 i _ hy
      refine ⟨by rw [p1, r1], fun j a ha => ?_⟩
      have hc := List.getElem?_eq_getElem (l := (ys[i]'(by have := (List.getElem?_eq_some_iff.1 hy').1; omega)).cells) (i := j) (by have := (List.getElem?_eq_some_iff.1 ha).1; omega)
      obtain ⟨v, hv, ho, hrv⟩ := r2 j _ hc
      refine ⟨v, hv, ho, ?_⟩
      rcases p2 j _ _ hc ha with h | ⟨h, h'⟩
      · rw [h]; exact hrv.mono hext
      · rw [h'] ; rw [h] at hrv; exact hnils hrv
  · rcases he t with h | ⟨h, h'⟩
    · rw [h]; exact (hr t).mono hext
    · rw [h']; have := hr t; rw [h] at this; exact hnils this

/-- what is owned, read as what nobody writes any more -/
inductive Fr (n : Nat) (xs : List AV) : AV → AV → Prop
  | refl (a : AV) : Fr n xs a a
  | row : Fr n xs (.row n xs.length) (.sl xs)
  | agg (cs ds : List AV) : cs.length = ds.length → (∀ (i : Nat) c d, cs[i]? = some c → ds[i]? = some d → Fr n xs c d) → Fr n xs (.agg cs) (.agg ds)
  | ptr (a : AV) (f : Nat) : xs = [a] → Fr n xs (.ptr n 1 0 f) (.iptr a f)

theorem Fr.width {n : Nat} {xs : List AV} {a b : AV} (h : Fr n xs a b) : b.cells.length = a.cells.length := by
  cases h with
  | refl => rfl
  | row => rfl
  | agg cs ds h _ => simp [AV.cells, h]
  | ptr => rfl

open Classical in
noncomputable def frI (I : Imm) (L : Nat → Loc) (O : List AObj) (w : World) (n : Nat) : Imm := fun b o =>
  if (∃ e s xs, O[n]? = some (.live e s xs)) ∧ (L n).blk = b then w.cell? ⟨b, o, none⟩ else I b o

theorem Fr.sound {I : Imm} {L : Nat → Loc} {O O' : List AObj} {w : World} (hi : Inv I L O w) {n t s : Nat} {xs : List AV} (hO : O[n]? = some (.live t s xs) ∨ (O[n]? = some (.nil t s) ∧ xs = [])) (hn : AV.norefs xs = true)
    (hext : Ext I L O (frI I L O w n) L O') {a b : AV} (h : Fr n xs a b) : ∀ {x : Value}, R I L O a x → R (frI I L O w n) L O' b x := by
  induction h with
  | refl a => intro x hr; exact hr.mono hext
  | row =>
    intro x hr
    rcases hO with hO | ⟨hO, rfl⟩
    · have := hr.row_live hO rfl
      subst this
      obtain ⟨c, h1, h2, h3, h4, h5, h6⟩ := hi.obj n t s xs hO
      by_cases hx : xs = []
      · subst hx; exact .sl0 _ _
      · refine (.sl xs (L n).blk 0 (L n).cap s (fun i j => (c[i * s + j]?).getD undef) h3 hx (fun i x hx => (h6 i x hx).1) (fun i x j d hx hj => ?_) fun i x j d hx hj => ?_)
        · obtain ⟨y, hy, ho, _⟩ := (h6 i x hx).2 j d hj
          unfold frI
          rw [if_pos ⟨⟨t, s, xs, hO⟩, rfl⟩, Nat.zero_add, cell_cells h1, hy]
          exact ⟨rfl, ho⟩
        · obtain ⟨y, hy, ho, hr'⟩ := (h6 i x hx).2 j d hj
          rw [hy]
          exact hr'.noref hext.imm (noref_cells (norefs_mem hn x (List.mem_of_getElem? hx)) d (List.mem_of_getElem? hj))
    · obtain ⟨rfl, _⟩ := hr.row_nil hO
      exact .sl0 _ _
  | agg cs ds h _ ih =>
    intro x hr
    cases hr with
    | agg _ vs hl hr =>
      refine .agg _ _ (by omega) fun i d v hd hv => ?_
      have hc : cs[i]? = some (cs[i]'(by have := (List.getElem?_eq_some_iff.1 hd).1; omega)) := by simp
      exact ih i _ _ hc hd (hr i _ v hc hv)
  | ptr a f ha =>
    subst ha
    intro x hr
    rcases hO with hO | ⟨_, h⟩
    · have := hr.ptr_live hO rfl
      subst this
      obtain ⟨c, h1, h2, h3, h4, h5, h6⟩ := hi.obj n t s _ hO
      obtain ⟨q1, q2⟩ := h6 0 a rfl
      simp only [Nat.zero_mul]
      refine .iptr a f (L n).blk 0 (fun j => (c[j]?).getD undef) (fun j d hj => ?_) fun j d hj => ?_
      · obtain ⟨y, hy, ho, _⟩ := q2 j d hj
        rw [Nat.zero_mul, Nat.zero_add] at hy
        unfold frI
        rw [if_pos ⟨⟨t, s, _, hO⟩, rfl⟩, Nat.zero_add, cell_cells h1, hy]
        exact ⟨rfl, ho⟩
      · obtain ⟨y, hy, ho, hr'⟩ := q2 j d hj
        rw [Nat.zero_mul, Nat.zero_add] at hy
        rw [hy]
        exact hr'.noref hext.imm (noref_cells (norefs_mem hn a (by simp)) d (List.mem_of_getElem? hj))
    · cases h

theorem frI_le {I : Imm} {L : Nat → Loc} {O : List AObj} {w : World} (hi : Inv I L O w) (n : Nat) : ∀ b o x, I b o = some x → frI I L O w n b o = some x := by
  intro b o x hx
  unfold frI
  split
  · exact hi.imm b o x hx
  · exact hx

/-- what an object holds is not written any more: it is no object now -/
theorem WK.frz {n0 : Nat} {e e' : Env} {O O' : List AObj} {n t s : Nat} {xs : List AV} (hO : O[n]? = some (.live t s xs) ∨ (O[n]? = some (.nil t s) ∧ xs = [])) (hn : AV.norefs xs = true) (hlen : O'.length = O.length) (hd : O'[n]? = some .dead)
    (hob : ∀ m, m ≠ n → O'[m]? = O[m]? ∨ ∃ ee k ys ys', O[m]? = some (.live ee k ys) ∧ O'[m]? = some (.live ee k ys') ∧ ys'.length = ys.length ∧ ∀ (i : Nat) y y', ys[i]? = some y → ys'[i]? = some y' → y'.cells.length = y.cells.length ∧
      ∀ (j : Nat) c c', y.cells[j]? = some c → y'.cells[j]? = some c' → Fr n xs c c')
    (he : ∀ t, Fr n xs (e t) (e' t)) : WK n0 e O e' O' := by
  intro I0 L0 O0 w0 I L w f h0 hg hr
  have hle := frI_le hg.inv n
  have hlive : ∀ {m ee k ys'}, O'[m]? = some (.live ee k ys') → m ≠ n ∧ ∃ ys, O[m]? = some (.live ee k ys) ∧ ys.length = ys'.length := by
    intro m ee k ys' hm
    have hmn : m ≠ n := by rintro rfl; rw [hd] at hm; cases hm
    refine ⟨hmn, ?_⟩
    rcases hob m hmn with h | ⟨e1, k1, ys, zs, h1, h2, h3, _⟩
    · exact ⟨ys', by rw [← h]; exact hm, rfl⟩
    · rw [h2] at hm; cases hm; exact ⟨ys, h1, h3.symm⟩
  have hnil : ∀ (m ee k : Nat), O'[m]? = some (AObj.nil ee k) → O[m]? = some (AObj.nil ee k) := by
    intro m ee k hm
    have hmn : m ≠ n := by rintro rfl; rw [hd] at hm; cases hm
    rcases hob m hmn with h | ⟨e1, k1, ys, zs, h1, h2, h3, _⟩
    · rwa [h] at hm
    · rw [h2] at hm; cases hm
  have hext : Ext I L O (frI I L O w n) L O' := by
    refine ⟨hle, by omega, fun m hm ee k zs hz => ?_, fun m _ ee k h => hnil m ee k h⟩
    obtain ⟨_, ys, h1, h2⟩ := hlive hz
    exact .inl ⟨ys, h1, by omega, fun _ => rfl⟩
  have hs : ∀ {a b : AV} {x : Value}, Fr n xs a b → R I L O a x → R (frI I L O w n) L O' b x := fun h hr => h.sound hg.inv hO hn hext hr
  refine ⟨frI I L O w n, L, hg.turn (by omega) hle (fun b o x hx => ?_) (fun m ee k zs hm => ?_) (fun m ee k _ hm => hnil m ee k hm), fun t => hs (he t) (hr t)⟩
  · unfold frI at hx
    split at hx
    · rename_i h
      obtain ⟨⟨e1, s1, x1, h1⟩, h2⟩ := h
      exact .inr ⟨hx, ⟨n, e1, s1, x1, h1, h2⟩⟩
    · exact .inl hx
  · obtain ⟨hmn, ys, h1, h2⟩ := hlive hm
    refine ⟨ys, h1, h2, ?_, fun o => ?_⟩
    · obtain ⟨c, q1, q2, q3, q4, q5, q6⟩ := hg.inv.obj m _ _ _ h1
      refine ⟨c, q1, q2, by omega, q4, q5, fun i y' hy' => ?_⟩
      have hy : ys[i]? = some (ys[i]'(by have := (List.getElem?_eq_some_iff.1 hy').1; omega)) := by simp
      obtain ⟨r1, r2⟩ := q6 i _ hy
      rcases hob m hmn with h | ⟨e1, k1, us, us', g1, g2, g3, g4⟩
      · rw [h, h1] at hm; cases hm
        have hyy := hy'
        rw [hy] at hyy
        have hyy := Option.some.inj hyy
        rw [← hyy]
        refine ⟨r1, fun j a ha => ?_⟩
        obtain ⟨v, hv, ho, hrv⟩ := r2 j _ ha
        exact ⟨v, hv, ho, hrv.mono hext⟩
      · rw [g2] at hm; cases hm
        rw [h1] at g1; cases g1
        obtain ⟨p1, p2⟩ := g4 i _ _ hy hy'
        refine ⟨by rw [p1, r1], fun j a ha => ?_⟩
        have hc := List.getElem?_eq_getElem (l := (ys[i]'(by have := (List.getElem?_eq_some_iff.1 hy').1; omega)).cells) (i := j) (by have := (List.getElem?_eq_some_iff.1 ha).1; omega)
        obtain ⟨v, hv, ho, hrv⟩ := r2 j _ hc
        exact ⟨v, hv, ho, hs (p2 j _ _ hc ha) hrv⟩
    · cases hx : frI I L O w n (L m).blk o with
      | none => rfl
      | some x =>
        unfold frI at hx
        split at hx
        · rename_i h
          obtain ⟨⟨e1, s1, x1, g1⟩, g2⟩ := h
          exact (hmn (hg.inv.sep n m _ _ _ _ _ _ g1 h1 g2).symm).elim
        · rw [hg.inv.immSep m _ _ _ o h1] at hx; cases hx

/-- an object is forgotten -/
theorem WK.kill {n0 : Nat} {e : Env} {O : List AObj} (n : Nat) : WK n0 e O e (O.set n .dead) := by
  intro I0 L0 O0 w0 I L w f h0 hg hr
  have hget : ∀ {m : Nat} {ob}, (O.set n .dead)[m]? = some ob → ob ≠ .dead → O[m]? = some ob := by
    intro m ob h hne
    rw [List.getElem?_set] at h
    split at h
    · split at h
      · cases h; exact (hne rfl).elim
      · cases h
    · exact h
  have hext : Ext I L O I L (O.set n .dead) := ⟨fun _ _ _ h => h, by simp, fun m _ ee k zs hz => .inl ⟨zs, hget hz (by simp), Nat.le_refl _, fun _ => rfl⟩, fun m _ ee k h => hget h (by simp)⟩
  refine ⟨I, L, hg.turn (by simp) (fun _ _ _ h => h) (fun _ _ _ h => .inl h) (fun m ee k zs hm => ?_) (fun m ee k _ hm => hget hm (by simp)), fun t => (hr t).mono hext⟩
  have h1 := hget hm (by simp)
  exact ⟨zs, h1, rfl, (hg.inv.obj m _ _ _ h1).congr rfl fun _ _ h => h.mono hext, fun o => hg.inv.immSep m _ _ _ o h1⟩

/-- slots are forgotten -/
theorem WK.env {n0 : Nat} {e e' : Env} {O : List AObj} (h : ∀ t, e' t = .top ∨ e' t = e t) : WK n0 e O e' O := by
  intro I0 L0 O0 w0 I L w f h0 hg hr
  refine ⟨I, L, hg, fun t => ?_⟩
  rcases h t with h | h
  · rw [h]; exact .top _
  · rw [h]; exact hr t

end Go.Ab
