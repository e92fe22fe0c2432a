/- Part of a proof: the functions that the law reaches, walked by the abstract logic of the texts Ab. -/
import Derived.Test.YtaefihlbielllaaDoorAbM2
set_option linter.unusedVariables false
set_option linter.unusedSimpArgs false
set_option linter.defProp false
/-
  AT THE END OF A CALL THAT TOUCHES NOTHING: what it made is not written any more: rows are read as slices.
-/
namespace Go.Ab
/-- rows as what they read, k levels deep; nil slices as empty ones -/
def fz (O : List AObj) : Nat → AV → AV
  | 0, a => a
  | k + 1, .row n len => match O[n]? with
    | some (.live _ _ xs) => if xs.length = len then .sl (xs.map (fz O k)) else .row n len
    | some (.nil _ _) => if len = 0 then .sl [] else .row n len
    | _ => .row n len
  | _ + 1, .nils => .sl []
  | k + 1, .agg cs => .agg (cs.map (fz O k))
  | k + 1, .tup vs => .tup (vs.map (fz O k))
  | _ + 1, a => a
open Classical in
noncomputable def allI (I : Imm) (L : Nat → Loc) (O : List AObj) (w : World) : Imm := fun b o => if LB L O b then w.cell? ⟨b, o, none⟩ else I b o
theorem allI_le {I : Imm} {L : Nat → Loc} {O : List AObj} {w : World} (hi : Inv I L O w) : ∀ b o x, I b o = some x → allI I L O w b o = some x := by
  intro b o x hx
  unfold allI
  split
  · exact hi.imm b o x hx
  · exact hx
theorem Good.all {I0 I : Imm} {L0 L : Nat → Loc} {O : List AObj} {w0 w : World} (h : Good I0 L0 [] w0 I L O w) : Good I0 L0 [] w0 (allI I L O w) L [] w := by
  refine ⟨⟨fun b o x hx => ?_, by simp, by simp, by simp, fun p hp => allI_le h.inv _ _ _ (h.inv.fix p hp), h.inv.blk_imm (allI_le h.inv), .no (by simp)⟩, ⟨fun b o x hx => allI_le h.inv _ _ _ (h.ext.imm _ _ _ hx), by simp, by simp, by simp, by simp⟩, h.frm, ?_, fun b o x hx => ?_⟩
  · unfold allI at hx
    split at hx
    · exact hx
    · exact h.inv.imm b o x hx
  · exact fun b hb => (LB_nil hb).elim
  · unfold allI at hx
    split at hx
    · rename_i hlb
      rcases h.lb b hlb with h1 | h1
      · exact (LB_nil h1).elim
      · exact .inr (.inr h1)
    · exact h.immNew b o x hx
theorem resK_nil (e : Env) (O : List AObj) (acc : List AV) (M : List AV → Prop) : resK e O [] acc M = M acc.reverse := nr rfl
theorem resK_tmp (e : Env) (O : List AObj) (t : Nat) (rs : List ARes) (acc : List AV) (M : List AV → Prop) : resK e O (.tmp t :: rs) acc M = resK e O rs (e t :: acc) M := nr rfl
def cellOK (o : Option AObj) (n : Option Nat) (K : AV → Prop) : Prop := match o with
  | some (.live _ _ [x]) => n.getD 1 ≤ x.cells.length ∧ K (loadC n x 0)
  | _ => False
def cellK (a : AV) (O : List AObj) (n : Option Nat) (K : AV → Prop) : Prop := match a with
  | .ptr k 1 0 0 => cellOK O[k]? n K
  | _ => False
theorem resK_cell (e : Env) (O : List AObj) (t : Nat) (n : Option Nat) (rs : List ARes) (acc : List AV) (M : List AV → Prop) : resK e O (.cell t n :: rs) acc M = cellK (e t) O n fun x => resK e O rs (x :: acc) M := nr rfl
theorem cellK_ptr (k : Nat) (O : List AObj) (n : Option Nat) (K : AV → Prop) : cellK (.ptr k 1 0 0) O n K = cellOK O[k]? n K := nr rfl
theorem cellOK_live (t s : Nat) (x : AV) (n : Option Nat) (K : AV → Prop) : cellOK (some (.live t s [x])) n K = (n.getD 1 ≤ x.cells.length ∧ K (loadC n x 0)) := nr rfl
theorem packR_one (x : AV) : packR [x] = x := nr rfl
theorem packR_more (x y : AV) (l : List AV) : packR (x :: y :: l) = .tup (x :: y :: l) := nr rfl
theorem frz_v (O : List AObj) (x : Value) : frz O (.v x) = .v x := nr rfl
theorem frz_sl (O : List AObj) (xs : List AV) : frz O (.sl xs) = .sl xs := nr rfl
theorem frz_nils (O : List AObj) : frz O .nils = .nils := nr rfl
theorem frz_agg (O : List AObj) (xs : List AV) : frz O (.agg xs) = .agg xs := nr rfl
theorem frz_fn (O : List AObj) (f : FuncId) (xs : List AV) : frz O (.fn f xs) = .fn f xs := nr rfl
theorem upd_one {a b y : AV} {cs : List AV} {i : Nat} (hy : y.cells = [y]) (h : i < (a :: b :: cs).length) : upd (.agg (a :: b :: cs)) i y = .agg ((a :: b :: cs).set i y) := by
  unfold upd
  rw [hy, if_neg (by simp [AV.cells])]
  simp only [AV.cells, List.length_singleton, List.append_assoc, List.singleton_append]
  rw [List.set_eq_take_append_cons_drop, if_pos h]
theorem upd_v {a b : AV} {cs : List AV} {i : Nat} (x : Value) (h : i < (a :: b :: cs).length) : upd (.agg (a :: b :: cs)) i (.v x) = .agg ((a :: b :: cs).set i (.v x)) := upd_one rfl h
theorem upd_sl {a b : AV} {cs : List AV} {i : Nat} (x : List AV) (h : i < (a :: b :: cs).length) : upd (.agg (a :: b :: cs)) i (.sl x) = .agg ((a :: b :: cs).set i (.sl x)) := upd_one rfl h
theorem upd_nils {a b : AV} {cs : List AV} {i : Nat} (h : i < (a :: b :: cs).length) : upd (.agg (a :: b :: cs)) i .nils = .agg ((a :: b :: cs).set i .nils) := upd_one rfl h
theorem upd_row {a b : AV} {cs : List AV} {i : Nat} (n l : Nat) (h : i < (a :: b :: cs).length) : upd (.agg (a :: b :: cs)) i (.row n l) = .agg ((a :: b :: cs).set i (.row n l)) := upd_one rfl h
theorem upd_ptr {a b : AV} {cs : List AV} {i : Nat} (n l j f : Nat) (h : i < (a :: b :: cs).length) : upd (.agg (a :: b :: cs)) i (.ptr n l j f) = .agg ((a :: b :: cs).set i (.ptr n l j f)) := upd_one rfl h
theorem upd_fn {a b : AV} {cs : List AV} {i : Nat} (f : FuncId) (l : List AV) (h : i < (a :: b :: cs).length) : upd (.agg (a :: b :: cs)) i (.fn f l) = .agg ((a :: b :: cs).set i (.fn f l)) := upd_one rfl h
theorem upd_agg {cs ds : List AV} {i : Nat} (h : i ≠ 0) : upd (.agg cs) i (.agg ds) = .agg (cs.take i ++ (ds ++ cs.drop (i + ds.length))) := by
  unfold upd
  rw [if_neg (by simp [h])]
  simp [AV.cells]
theorem upd_agg0 {cs ds : List AV} (h : ds.length < cs.length) : upd (.agg cs) 0 (.agg ds) = .agg (ds ++ cs.drop ds.length) := by
  unfold upd
  rw [if_neg (by simp [AV.cells]; omega)]
  simp [AV.cells]
/-- the same slots; the objects from k on are forgotten -/
theorem WK.forgetE {n0 : Nat} {O O' : List AObj} (k : Nat) {l l' : List (Nat × AV)} (h : envL l' = envL l) (hO : O.take k = O') (h0 : n0 ≤ k) (hk : k ≤ O.length) (hb : O'.all (fun ob => ob.inScope k) = true)
    (hs : l.all (fun p => p.2.inScope k) = true) : WK n0 (envL l') O (envL l) O' := by
  rw [h]
  refine .forget hO h0 hk (fun ob ho => List.all_eq_true.1 hb ob ho) fun t => ?_
  have key : envL l t = .top ∨ (envL l t).inScope k = true := by
    clear h
    induction l with
    | nil => exact .inl rfl
    | cons p l ih =>
      obtain ⟨q, a⟩ := p
      simp only [List.all_cons, Bool.and_eq_true] at hs
      simp only [envL_cons]
      split
      · exact .inr hs.1
      · exact ih hs.2
  exact key.imp id fun h => ⟨rfl, h⟩
theorem dlt0 (n : Nat) : decide ((n : Int) < 0) = false := by simp
end Go.Ab
/-
  OBJECTS BEHIND A CALL: some are kept, under new names.
-/
namespace Go.Ab
/-- of the objects some are kept, under new names -/
theorem WK.select {e e' : Env} {O O1 : List AObj} (s : Nat → Nat) (hg : ∀ i, i < O1.length → O[s i]? = (O1[i]?).map (AObj.ren s)) (hinj : ∀ i j, i < O1.length → j < O1.length → s i = s j → i = j)
    (hsO : ∀ ob ∈ O1, ob.inScope O1.length = true) (he : ∀ t, e' t = .top ∨ (e t = (e' t).ren s ∧ (e' t).inScope O1.length = true)) : WK 0 e O e' O1 := by
  intro I0 L0 O0 w0 I L w f hl hgd hr
  obtain rfl : O0 = [] := List.eq_nil_of_length_eq_zero hl
  have hi := hgd.inv
  have live1 : ∀ {n e k ys}, O1[n]? = some (.live e k ys) → O[s n]? = some (.live e k (ys.map (AV.ren s))) := by
    intro n e k ys hn
    rw [hg n (List.getElem?_eq_some_iff.1 hn).1, hn]; rfl
  have own1 : ∀ {n : Nat} {a : AV}, O1[n]? = some (.own a) → O[s n]? = some (.own a) := by
    intro n a hn
    rw [hg n (List.getElem?_eq_some_iff.1 hn).1, hn]; rfl
  have un : ∀ {a : AV} {x : Value}, R I L O (a.ren s) x → a.inScope O1.length = true → R I (fun n => L (s n)) O1 a x := fun hr hsc => R.unren hg (fun _ _ => rfl) hr _ rfl hsc
  refine ⟨I, fun n => L (s n), ⟨⟨hi.imm, fun n e k ys hn => ?_, fun n n' e k ys e' k' ys' hn hn' hb => ?_, fun n e k ys o hn => hi.immSep _ _ _ _ o (live1 hn), hi.fix, hi.blk,
    ⟨fun n a hn => hi.ow.tree _ a (own1 hn), fun n a hn => hi.ow.cell _ a (own1 hn), fun n a hn => hi.ow.imm _ a (own1 hn), fun n a hn b o v hv m e k xs hm => hi.ow.live _ a (own1 hn) b o v hv _ _ _ _ (live1 hm),
      fun n m a c hn hm b o o' v v' hv hv' => hinj _ _ (List.getElem?_eq_some_iff.1 hn).1 (List.getElem?_eq_some_iff.1 hm).1 (hi.ow.sep _ _ a c (own1 hn) (own1 hm) b o o' v v' hv hv'), fun n a hn => hi.ow.deep _ a (own1 hn)⟩⟩, ⟨hgd.ext.imm, by simp, by simp, by simp, by simp⟩, hgd.frm, ?_, hgd.immNew⟩, fun t => ?_⟩
  · obtain ⟨c, q1, q2, q3, q4, q5, q6⟩ := hi.obj _ _ _ _ (live1 hn)
    refine ⟨c, q1, q2, by simpa using q3, q4, q5, fun i x hx => ?_⟩
    have hmx : (ys.map (AV.ren s))[i]? = some (x.ren s) := by rw [List.getElem?_map, hx]; rfl
    obtain ⟨r1, r2⟩ := q6 i _ hmx
    rw [cells_ren, List.length_map] at r1
    refine ⟨r1, fun j a ha => ?_⟩
    obtain ⟨y, hy, ho, hr'⟩ := r2 j (a.ren s) (by rw [cells_ren, List.getElem?_map, ha]; rfl)
    have hbo := hsO _ (List.mem_of_getElem? hn)
    exact ⟨y, hy, ho, un hr' (scoped_cells (scopeds_mem hbo x (List.mem_of_getElem? hx)) a (List.mem_of_getElem? ha))⟩
  · exact hinj _ _ (List.getElem?_eq_some_iff.1 hn).1 (List.getElem?_eq_some_iff.1 hn').1 (hi.sep _ _ _ _ _ _ _ _ (live1 hn) (live1 hn') hb)
  · rintro b (⟨n, e, k, xs, hn, hb⟩ | ⟨n, a, o, v, hn, hb⟩)
    · exact hgd.lb b (.inl ⟨s n, _, _, _, live1 hn, hb⟩)
    · exact hgd.lb b (.inr ⟨s n, a, o, v, own1 hn, hb⟩)
  · rcases he t with h | ⟨h, h'⟩
    · rw [h]; exact .top _
    · have := hr t
      rw [h] at this
      exact un this h'
end Go.Ab
/-
  TREES OF ONE's OWN, made and opened: a row whose elements' slices are trees of one's own is such a tree (closes), and the other way (open).
-/
namespace Go.Ab
/-- cells of an element: its slices get names from n on -/
def sp (n : Nat) : List AV → List AV × List AObj
  | [] => ([], [])
  | .v x :: r => (.v x :: (sp n r).1, (sp n r).2)
  | a :: r => (.own n :: (sp (n + 1) r).1, .own a :: (sp (n + 1) r).2)
def spx (n : Nat) : AV → AV × List AObj
  | .agg cs => (.agg (sp n cs).1, (sp n cs).2)
  | .v x => (.v x, [])
  | a => (.own n, [.own a])
/-- a place among the cells: the same value, or the name of a tree -/
def Half (O : List AObj) (c d : AV) : Prop := (c = d ∧ ∃ v, d = .v v) ∨ ∃ k, c = .own k ∧ O[k]? = some (.own d)
structure Split (O : List AObj) (ys xs : List AV) : Prop where
  len : ys.length = xs.length
  cells : ∀ (i : Nat) y x, ys[i]? = some y → xs[i]? = some x → y.cells.length = x.cells.length
  half : ∀ (i : Nat) y x (j : Nat) c d, ys[i]? = some y → xs[i]? = some x → y.cells[j]? = some c → x.cells[j]? = some d → Half O c d
  inj : ∀ (i : Nat) y (j : Nat) i' y' j' k, ys[i]? = some y → y.cells[j]? = some (.own k) → ys[i']? = some y' → y'.cells[j']? = some (.own k) → i = i' ∧ j = j'
section
variable {P : Program} {I : Imm} {L : Nat → Loc} {O : List AObj} {w : World}
theorem own_tree (hi : Inv I L O w) {k : Nat} {d : AV} (hk : O[k]? = some (.own d)) {y : Value} (hr : R I L O (.own k) y) : y = (L k).val := by
  cases hr with
  | ownLive => rfl
  | ownDead _ _ _ h => exact (h _ hk).elim
open Classical in
/-- A ROW WHOSE SLICES ARE TREES OF ONE's OWN IS ONE ITSELF -/
theorem Inv.closes (hi : Inv I L O w) {k e s : Nat} {ys xs : List AV} (hk : O[k]? = some (.live e s ys)) (hs : Split O ys xs) :
    ∃ S : Nat → Prop, OT w (.sl xs) (.slice (some ⟨(L k).blk, 0, none⟩) xs.length (L k).cap) S ∧ ∀ b, S b → LB L O b := by
  obtain ⟨c, h1, h2, h3, h4, h5, h6⟩ := hi.obj k e s ys hk
  by_cases hx : xs = []
  · subst hx; exact ⟨_, .sl0 _ _, fun b h => h.elim⟩
  let vals : Nat → Nat → Value := fun i j => (c[i * s + j]?).getD undef
  let nm : Nat → Nat → Option Nat := fun i j => match ys[i]? with
    | some y => match y.cells[j]? with
      | some (.own m) => some m
      | _ => none
    | none => none
  let S : Nat → Nat → Nat → Prop := fun i j b => ∃ m, nm i j = some m ∧ ∃ o v, (L m).mem b o = some v
  have nm1 : ∀ {i j m : Nat}, nm i j = some m → ∃ y, ys[i]? = some y ∧ y.cells[j]? = some (.own m) := by
    intro i j m h
    simp only [nm] at h
    cases hy : ys[i]? with
    | none => simp [hy] at h
    | some y =>
      simp only [hy] at h
      cases hc : y.cells[j]? with
      | none => simp [hc] at h
      | some a =>
        simp only [hc] at h
        cases a <;> simp at h
        subst h
        exact ⟨y, rfl, hc⟩
  have pair : ∀ {i : Nat} {x : AV}, xs[i]? = some x → ∃ y, ys[i]? = some y := by
    intro i x h
    have := (List.getElem?_eq_some_iff.1 h).1
    exact ⟨ys[i]'(by rw [hs.len]; exact this), by simp [hs.len, this]⟩
  have pairc : ∀ {i : Nat} {x y : AV} {j : Nat} {a : AV}, xs[i]? = some x → ys[i]? = some y → x.cells[j]? = some a → ∃ b, y.cells[j]? = some b := by
    intro i x y j a h h' ha
    have := (List.getElem?_eq_some_iff.1 ha).1
    have hl := hs.cells i y x h' h
    exact ⟨y.cells[j]'(by rw [hl]; exact this), by simp [hl, this]⟩
  have pair' : ∀ {i : Nat} {y : AV}, ys[i]? = some y → ∃ x, xs[i]? = some x := by
    intro i x h
    have := (List.getElem?_eq_some_iff.1 h).1
    exact ⟨xs[i]'(by rw [← hs.len]; exact this), by simp [← hs.len, this]⟩
  have pairc' : ∀ {i : Nat} {x y : AV} {j : Nat} {a : AV}, xs[i]? = some x → ys[i]? = some y → y.cells[j]? = some a → ∃ b, x.cells[j]? = some b := by
    intro i x y j a h h' ha
    have := (List.getElem?_eq_some_iff.1 ha).1
    have hl := hs.cells i y x h' h
    exact ⟨x.cells[j]'(by rw [← hl]; exact this), by simp [← hl, this]⟩
  have half : ∀ {i : Nat} {x : AV} {j : Nat} {a : AV}, xs[i]? = some x → x.cells[j]? = some a → c[i * s + j]? = some (vals i j) ∧ (vals i j).oneCell' = true ∧
      ((nm i j = none ∧ ∃ v, a = .v v ∧ v = vals i j) ∨ ∃ m, nm i j = some m ∧ O[m]? = some (.own a) ∧ vals i j = (L m).val) := by
    intro i x j a hxi ha
    obtain ⟨y, hy⟩ := pair hxi
    obtain ⟨b, hb⟩ := pairc hxi hy ha
    obtain ⟨z, hz, ho, hr⟩ := (h6 i y hy).2 j b hb
    have hv : vals i j = z := by simp [vals, hz]
    rw [hv]
    refine ⟨hz, ho, ?_⟩
    rcases hs.half i y x j b a hy hxi hb ha with ⟨rfl, v, rfl⟩ | ⟨m, rfl, hm⟩
    · refine .inl ⟨by simp only [nm, hy, hb], v, rfl, ?_⟩
      cases hr; rfl
    · exact .inr ⟨m, by simp only [nm, hy, hb], hm, own_tree hi hm hr⟩
  have sep : ∀ {i j m : Nat} {x a : AV}, xs[i]? = some x → x.cells[j]? = some a → nm i j = some m → O[m]? = some (.own a) := by
    intro i j m x a hxi ha hm
    rcases (half hxi ha).2.2 with ⟨h, _⟩ | ⟨m', h, h', _⟩
    · rw [hm] at h; cases h
    · rw [hm] at h; cases h; exact h'
  have deep : ∀ {i j m : Nat}, nm i j = some m → ∃ x a : AV, xs[i]? = some x ∧ x.cells[j]? = some a ∧ O[m]? = some (.own a) := by
    intro i j m hm
    obtain ⟨y, hy, hc⟩ := nm1 hm
    obtain ⟨x, hx⟩ := pair' hy
    obtain ⟨a, ha⟩ := pairc' hx hy hc
    exact ⟨x, a, hx, ha, sep hx ha hm⟩
  refine ⟨fun b => b = (L k).blk ∨ ∃ i j, S i j b, .sl xs (L k).blk (L k).cap s e c vals S h1 h2 (by rw [← hs.len]; exact h3) h4 h5 hx (fun i x hxi => ?_) (fun i x j a hxi ha => ⟨(half hxi ha).1, (half hxi ha).2.1⟩) (fun i x j a hxi ha => ?_)
    (fun i j b hb => ?_) (fun i j hb => ?_) (fun i j i' j' b hb hb' => ?_), ?_⟩
  · obtain ⟨y, hy⟩ := pair hxi
    rw [← hs.cells i y x hy hxi]
    exact (h6 i y hy).1
  · rcases (half hxi ha).2.2 with ⟨hn, v, rfl, hv⟩ | ⟨m, hm, hO, hv⟩
    · have : S i j = fun _ => False := by
        funext b; simp only [S, hn]; simp
      rw [this, ← hv]
      exact .v v (by have := (half hxi ha).2.1; rw [← hv] at this; exact this)
    · obtain ⟨T, t1, t2⟩ := hi.ow.deep m a hO
      have : S i j = T := by
        funext b
        simp only [S, hm, Option.some.injEq, exists_eq_left']
        exact propext (t2 b).symm
      rw [this, hv]
      exact t1
  · obtain ⟨m, hm, _⟩ := hb
    obtain ⟨x, a, h1, h2, _⟩ := deep hm
    exact ⟨x, a, h1, h2⟩
  · obtain ⟨m, hm, o, v, hv⟩ := hb
    obtain ⟨x, a, _, _, hO⟩ := deep hm
    exact hi.ow.live m a hO _ o v hv k _ _ _ hk rfl
  · obtain ⟨m, hm, o, v, hv⟩ := hb
    obtain ⟨m', hm', o', v', hv'⟩ := hb'
    obtain ⟨x, a, _, _, hO⟩ := deep hm
    obtain ⟨x', a', _, _, hO'⟩ := deep hm'
    have := hi.ow.sep m m' a a' hO hO' b o o' v v' hv hv'
    subst this
    obtain ⟨y, hy, hc⟩ := nm1 hm
    obtain ⟨y', hy', hc'⟩ := nm1 hm'
    exact hs.inj i y j i' y' j' m hy hc hy' hc'
  · rintro b (rfl | ⟨i, j, m, hm, o, v, hv⟩)
    · exact .inl ⟨k, e, s, ys, hk, rfl⟩
    · obtain ⟨x, a, _, _, hO⟩ := deep hm
      exact .inr ⟨m, a, o, v, hO, hv⟩
open Classical in
/-- a tree of one's own alone -/
theorem Inv.one_own (hi : Inv I L O w) {a : AV} {x : Value} {S : Nat → Prop} (h : OT w a x S) (hS : ∀ b, S b → LB L O b) :
    Inv I (fun _ => ⟨0, 0, x, fun b o => if S b then w.cell? ⟨b, o, none⟩ else none⟩) [.own a] w := by
  have one : ∀ {n : Nat} {c : AV}, [AObj.own a][n]? = some (.own c) → n = 0 ∧ c = a := by
    intro n c hn
    cases n with
    | zero => simp at hn; exact ⟨rfl, hn.symm⟩
    | succ n => simp at hn
  have nol : ∀ {n e s : Nat} {xs : List AV}, [AObj.own a][n]? ≠ some (.live e s xs) := by
    intro n e s xs hn
    cases n <;> simp at hn
  have sp : ∀ {b o : Nat} {v : Value}, (if S b then w.cell? ⟨b, o, none⟩ else none) = some v → S b ∧ w.cell? ⟨b, o, none⟩ = some v := by
    intro b o v hv
    split at hv
    · rename_i hb; exact ⟨hb, hv⟩
    · cases hv
  refine ⟨hi.imm, fun n e s xs hn => (nol hn).elim, fun n m e s xs e' s' ys hn => (nol hn).elim, fun n e s xs o hn => (nol hn).elim, hi.fix, hi.blk,
    ⟨fun n c hn L' O' => ?_, fun n c hn b o v hv => (sp hv).2, fun n c hn b o v hv o' => ?_, fun n c hn b o v hv m e s xs hm => (nol hm).elim, fun n m c d hn hm b o o' v v' _ _ => ?_, fun n c hn => ?_⟩⟩
  · obtain ⟨rfl, rfl⟩ := one hn
    exact h.read _ _ _ fun b o v hb hv => by show (if S b then _ else _) = _; rw [if_pos hb]; exact hv
  · rcases hS b (sp hv).1 with ⟨n, e, s, xs, h1, h2⟩ | ⟨n, d, o2, v2, h1, h2⟩
    · rw [← h2]; exact hi.immSep n e s xs o' h1
    · exact hi.ow.imm n d h1 b o2 v2 h2 o'
  · rw [(one hn).1, (one hm).1]
  · obtain ⟨rfl, rfl⟩ := one hn
    refine ⟨S, h, fun b => ⟨fun hb => ?_, fun ⟨o, v, hv⟩ => (sp hv).1⟩⟩
    obtain ⟨v, hv⟩ := (h.block b hb).2
    exact ⟨0, v, by show (if S b then _ else _) = _; rw [if_pos hb]; exact hv⟩
end
end Go.Ab
/-
  WHAT IS OWNED IS LENT TO A CALL: it is read there as it stands, and is one's own again behind the call. What the call gives is plain, or new.
-/
namespace Go.Ab
/-- an argument, and as what the call reads it -/
inductive Frz (O : List AObj) : AV → AV → Prop
  | same (a : AV) : a.noref = true → Frz O a a
  | own (n : Nat) (b : AV) : O[n]? = some (.own b) → Frz O (.own n) b
  | row (n len e s : Nat) (xs : List AV) : O[n]? = some (.live e s xs) → xs.length = len → AV.norefs xs = true → Frz O (.row n len) (.sl xs)
  | nil (n e s : Nat) : O[n]? = some (.nil e s) → Frz O (.row n 0) (.sl [])
  | deep (n len e s : Nat) (ys xs : List AV) : O[n]? = some (.live e s ys) → ys.length = len → Split O ys xs → Frz O (.row n len) (.sl xs)
  | agg (as bs : List AV) : as.length = bs.length → (∀ (i : Nat) a b, as[i]? = some a → bs[i]? = some b → Frz O a b) → Frz O (.agg as) (.agg bs)
mutual
/-- what is said without memory that nobody writes -/
def AV.memless : AV → Bool
  | .top | .v _ | .nils | .row _ _ | .ptr _ _ _ _ | .own _ | .ifc => true
  | .sl _ | .iptr _ _ => false
  | .fn _ cs => AV.memlesses cs
  | .agg cs => AV.memlesses cs
  | .tup cs => AV.memlesses cs
def AV.memlesses : List AV → Bool
  | [] => true
  | x :: xs => x.memless && AV.memlesses xs
end
theorem memlesses_mem : ∀ {xs : List AV}, AV.memlesses xs = true → ∀ x ∈ xs, x.memless = true
  | [], _, x, h => by simp at h
  | y :: ys, h, x, hx => by
    simp only [AV.memlesses, Bool.and_eq_true] at h
    rcases List.mem_cons.1 hx with rfl | hx
    · exact h.1
    · exact memlesses_mem h.2 x hx
theorem memless_cells {x : AV} (h : x.memless = true) : ∀ c ∈ x.cells, c.memless = true := by
  cases x <;> simp only [AV.cells] <;> intro c hc
  case agg cs => exact memlesses_mem (by simpa [AV.memless] using h) c hc
  all_goals (simp at hc; subst hc; exact h)
def AObj.memless : AObj → Bool
  | .live _ _ xs => AV.memlesses xs
  | _ => true
section
variable {P : Program} {I J : Imm} {L : Nat → Loc} {O : List AObj} {w : World}
theorem R.memless {a : AV} {x : Value} (hr : R I L O a x) : a.memless = true → R J L O a x := by
  induction hr with
  | top x => intro _; exact .top x
  | v x h => intro _; exact .v x h
  | nils => intro _; exact .nils
  | ifc t x => intro _; exact .ifc t x
  | sl0 => intro h; simp [AV.memless] at h
  | sl => intro h; simp [AV.memless] at h
  | iptr => intro h; simp [AV.memless] at h
  | rowLive n len e s xs h1 h2 => intro _; exact .rowLive n len e s xs h1 h2
  | rowNil n e s h1 => intro _; exact .rowNil n e s h1
  | rowDead n len x h1 h2 h3 h4 => intro _; exact .rowDead n len x h1 h2 h3 h4
  | ptrLive n len i f e s xs h1 h2 => intro _; exact .ptrLive n len i f e s xs h1 h2
  | ptrDead n len i f x h1 h2 h3 h4 => intro _; exact .ptrDead n len i f x h1 h2 h3 h4
  | fn f caps vs h1 _ ih => intro h; exact .fn f caps vs h1 fun i c x hc hx => ih i c x hc hx (memlesses_mem (by simpa [AV.memless] using h) c (List.mem_of_getElem? hc))
  | agg cs vs h1 _ ih => intro h; exact .agg cs vs h1 fun i c x hc hx => ih i c x hc hx (memlesses_mem (by simpa [AV.memless] using h) c (List.mem_of_getElem? hc))
  | tup cs vs h1 _ ih => intro h; exact .tup cs vs h1 fun i c x hc hx => ih i c x hc hx (memlesses_mem (by simpa [AV.memless] using h) c (List.mem_of_getElem? hc))
  | ownLive n a h1 h2 => intro _; exact .ownLive n a h1 h2
  | ownDead n x h1 h2 h3 => intro _; exact .ownDead n x h1 h2 h3
theorem R.imm_mono (h : ∀ b o x, I b o = some x → J b o = some x) {a : AV} {x : Value} (hr : R I L O a x) : R J L O a x :=
  R.mono ⟨h, Nat.le_refl _, fun _ _ _ _ xs h => .inl ⟨xs, h, Nat.le_refl _, fun _ => rfl⟩, fun _ _ _ _ h => h, fun _ _ a h => ⟨⟨a, h⟩, rfl⟩⟩ hr
open Classical in
/-- all that is owned is lent -/
noncomputable def lentA (I : Imm) (L : Nat → Loc) (O : List AObj) (w : World) : Imm := fun b o => if LB L O b then w.cell? ⟨b, o, none⟩ else I b o
theorem lentA_le (hi : Inv I L O w) : ∀ b o x, I b o = some x → lentA I L O w b o = some x := by
  intro b o x hx
  unfold lentA
  split
  · exact hi.imm b o x hx
  · exact hx
theorem lentA_in {b o : Nat} {v : Value} (hb : LB L O b) (hv : w.cell? ⟨b, o, none⟩ = some v) : lentA I L O w b o = some v := by
  unfold lentA; rw [if_pos hb]; exact hv
theorem lentA_inv (hi : Inv I L O w) : Inv (lentA I L O w) L [] w := by
  refine ⟨fun b o x hx => ?_, by simp, by simp, by simp, fun p hp => lentA_le hi _ _ _ (hi.fix p hp), hi.blk_imm (lentA_le hi), .no (by simp)⟩
  unfold lentA at hx
  split at hx
  · exact hx
  · exact hi.imm b o x hx
theorem Frz.sound (hi : Inv I L O w) {a b : AV} (hf : Frz O a b) : ∀ {x : Value}, R I L O a x → R (lentA I L O w) L [] b x := by
  have hle := lentA_le hi
  induction hf with
  | same a hn => intro x hr; exact hr.noref hle hn
  | own n b hO =>
    intro x hr
    rw [own_tree hi hO hr]
    exact (hi.ow.tree n b hO L []).imm_mono fun p o v hv => lentA_in (.inr ⟨n, b, o, v, hO, hv⟩) (hi.ow.cell n b hO p o v hv)
  | row n len e s xs hO hl hn =>
    intro x hr
    have := hr.row_live hO hl
    subst this
    obtain ⟨c, h1, h2, h3, h4, h5, h6⟩ := hi.obj n e s xs hO
    by_cases hx : xs = []
    · subst hx; simp at hl; subst hl; exact .sl0 _ _
    · subst hl
      refine (.sl xs (L n).blk 0 (L n).cap s (fun i j => (c[i * s + j]?).getD undef) h3 hx (fun i x hx => (h6 i x hx).1) (fun i x j d hx hj => ?_) fun i x j d hx hj => ?_)
      · obtain ⟨y, hy, ho, _⟩ := (h6 i x hx).2 j d hj
        refine ⟨?_, by rw [hy]; exact ho⟩
        rw [hy, Nat.zero_add]
        exact lentA_in (.inl ⟨n, e, s, xs, hO, rfl⟩) (by rw [cell_cells h1, hy]; rfl)
      · obtain ⟨y, hy, ho, hr'⟩ := (h6 i x hx).2 j d hj
        rw [hy]
        exact hr'.noref hle (noref_cells (norefs_mem hn x (List.mem_of_getElem? hx)) d (List.mem_of_getElem? hj))
  | nil n e s hO =>
    intro x hr
    obtain ⟨rfl, _⟩ := hr.row_nil hO
    exact .sl0 _ _
  | deep n len e s ys xs hO hl hs =>
    intro x hr
    have := hr.row_live hO hl
    subst this
    obtain ⟨S, h1, h2⟩ := hi.closes hO hs
    rw [← hl, hs.len]
    exact h1.read _ _ _ fun b o v hb hv => lentA_in (h2 b hb) hv
  | agg as bs hl h ih =>
    intro x hr
    cases hr with
    | agg _ vs hv hr =>
      refine .agg bs vs (by omega) fun i c y hc hy => ?_
      have hlt := (List.getElem?_eq_some_iff.1 hc).1
      obtain ⟨a, ha⟩ : ∃ a, as[i]? = some a := ⟨as[i]'(by omega), by simp <;> omega⟩
      exact ih i a c ha hc (hr i a y ha hy)
end
/-- THE CALL -/
theorem Con.lend {P : Program} {f : FuncId} {args fargs : List AV} {res : AV} {O O1 : List AObj} (h : Con P f fargs [] res O1) (hl : args.length = fargs.length) (hf : ∀ (i : Nat) a b, args[i]? = some a → fargs[i]? = some b → Frz O a b)
    (hres : res.memless = true) (hO1 : O1.all AObj.memless = true) : Con P f args O (res.ren fun n => O.length + n) (O ++ O1.map (AObj.ren fun n => O.length + n)) := by
  refine ⟨h.1, fun I L w vs hi hr => ?_⟩
  have hargs : RL (lentA I L O w) L [] fargs vs := by
    refine ⟨by rw [← hl]; exact hr.1, fun i b x hb hx => ?_⟩
    have hlt := (List.getElem?_eq_some_iff.1 hb).1
    obtain ⟨a, ha⟩ : ∃ a, args[i]? = some a := ⟨args[i]'(by omega), by simp <;> omega⟩
    exact (hf i a b ha hb).sound hi (hr.2 i a x ha hx)
  refine (h.2 _ _ _ _ (lentA_inv hi) hargs).mono ?_
  rintro z w' ⟨y, I', L', rfl, hy, hg⟩
  have hblk : ∀ b, b < w.heap.size → w'.heap[b]? = w.heap[b]? := fun b hb => hg.frm.block b hb LB_nil
  have notlb : ∀ {b o x}, I b o = some x → ¬ LB L O b := by
    rintro b o x hx (⟨n, e, s, xs, hn, hb⟩ | ⟨n, a, o', v, hn, hv⟩)
    · rw [← hb, hi.immSep n e s xs o hn] at hx; cases hx
    · rw [hi.ow.imm n a hn b o' v hv o] at hx; cases hx
  have lbold : ∀ {b}, LB L O b → b < w.heap.size := by
    rintro b (⟨n, e, s, xs, hn, hb⟩ | ⟨n, a, o', v, hn, hv⟩)
    · obtain ⟨c, h1, _⟩ := hi.obj n e s xs hn
      rw [← hb]; exact (Array.getElem?_eq_some_iff.1 h1).1
    · exact cell_block (hi.ow.cell n a hn b o' v hv)
  have lbnew : ∀ {b}, LB L' O1 b → w.heap.size ≤ b := fun hb => by
    rcases hg.lb _ hb with h1 | h1
    · exact (LB_nil h1).elim
    · exact h1
  open Classical in
  let J : Imm := fun b o => if LB L O b then none else I' b o
  have hJ' : ∀ b o x, J b o = some x → I' b o = some x ∧ ¬ LB L O b := by
    intro b o x hx
    simp only [J] at hx
    split at hx
    · cases hx
    · exact ⟨hx, by assumption⟩
  have hIJ : ∀ b o x, I b o = some x → J b o = some x := by
    intro b o x hx
    simp only [J]
    rw [if_neg (notlb hx)]
    exact hg.ext.imm b o x (lentA_le hi b o x hx)
  let s : Nat → Nat := fun n => O.length + n
  let O2 := O ++ O1.map (AObj.ren s)
  let L2 : Nat → Loc := fun n => if n < O.length then L n else L' (n - O.length)
  have L2o : ∀ {n}, n < O.length → L2 n = L n := fun h => if_pos h
  have L2n : ∀ n, L2 (s n) = L' n := fun n => by
    show (if O.length + n < O.length then _ else L' (O.length + n - O.length)) = _
    rw [if_neg (by omega), Nat.add_sub_cancel_left]
  have O2o : ∀ {n}, n < O.length → O2[n]? = O[n]? := fun h => List.getElem?_append_left h
  have O2n : ∀ n, O2[s n]? = (O1[n]?).map (AObj.ren s) := fun n => by
    show (O ++ O1.map (AObj.ren s))[O.length + n]? = _
    rw [List.getElem?_append_right (by omega), Nat.add_sub_cancel_left, List.getElem?_map]
  have cls : ∀ n, (n < O.length) ∨ ∃ m, n = s m := fun n => by
    by_cases h : n < O.length
    · exact .inl h
    · exact .inr ⟨n - O.length, by show n = O.length + (n - O.length); omega⟩
  have hext : Ext I L O J L2 O2 := by
    refine ⟨hIJ, by simp [O2], fun n hn e k xs hx => ?_, fun n hn e k hx => ?_, fun n hn a hx => ?_⟩
    · rw [O2o hn] at hx; exact .inl ⟨xs, hx, Nat.le_refl _, fun _ => L2o hn⟩
    · rw [O2o hn] at hx; exact hx
    · rw [O2o hn] at hx; exact ⟨⟨a, hx⟩, by rw [L2o hn]⟩
  have fwd : ∀ {a : AV} {x : Value}, a.memless = true → R I' L' O1 a x → R J L2 O2 (a.ren s) x := fun hm hr =>
    (hr.memless (J := J) hm).ren (fun n hn => by show O.length + n < (O ++ _).length; simp; exact hn) (fun n hn => O2n n) fun n hn => L2n n
  have liven : ∀ {m e k : Nat} {xs : List AV}, O2[s m]? = some (.live e k xs) → ∃ ys, O1[m]? = some (.live e k ys) ∧ xs = ys.map (AV.ren s) := by
    intro m e k xs hx
    rw [O2n, Option.map_eq_some_iff] at hx
    obtain ⟨ob, q1, q2⟩ := hx
    cases ob <;> simp [AObj.ren] at q2
    obtain ⟨rfl, rfl, rfl⟩ := q2
    exact ⟨_, q1, rfl⟩
  have ownn : ∀ {m : Nat} {a : AV}, O2[s m]? = some (.own a) → O1[m]? = some (.own a) := by
    intro m a hx
    rw [O2n, Option.map_eq_some_iff] at hx
    obtain ⟨ob, q1, q2⟩ := hx
    cases ob <;> simp [AObj.ren] at q2
    subst q2; exact q1
  have hlive : ∀ {n e k : Nat} {xs : List AV}, O[n]? = some (.live e k xs) → (L n).blk < w.heap.size := fun hn => lbold (.inl ⟨_, _, _, _, hn, rfl⟩)
  have hmem : ∀ {n : Nat} {a : AV} {b o : Nat} {v : Value}, O[n]? = some (.own a) → (L n).mem b o = some v → b < w.heap.size := fun hn hv => lbold (.inr ⟨_, _, _, _, hn, hv⟩)
  have nlive : ∀ {n e k : Nat} {xs : List AV}, O1[n]? = some (.live e k xs) → w.heap.size ≤ (L' n).blk := fun hn => lbnew (.inl ⟨_, _, _, _, hn, rfl⟩)
  have nmem : ∀ {n : Nat} {a : AV} {b o : Nat} {v : Value}, O1[n]? = some (.own a) → (L' n).mem b o = some v → w.heap.size ≤ b := fun hn hv => lbnew (.inr ⟨_, _, _, _, hn, hv⟩)
  have how : Own J L2 O2 w' := by
    refine ⟨fun n a hn => ?_, fun n a hn b o v hv => ?_, fun n a hn b o v hv o' => ?_, fun n a hn b o v hv m e k xs hm hb => ?_, fun n m a c hn hm b o o' v v' hv hv' => ?_, fun n a hn => ?_⟩
    · rcases cls n with hlt | ⟨m, rfl⟩
      · rw [O2o hlt] at hn; rw [L2o hlt]; exact hi.ow.tree n a hn
      · rw [L2n]; exact hg.inv.ow.tree m a (ownn hn)
    · rcases cls n with hlt | ⟨m, rfl⟩
      · rw [O2o hlt] at hn; rw [L2o hlt] at hv
        rw [← hi.ow.cell n a hn b o v hv]
        exact World.cell?_of_block (a := ⟨b, o, none⟩) (hblk b (hmem hn hv))
      · rw [L2n] at hv; exact hg.inv.ow.cell m a (ownn hn) b o v hv
    · rcases cls n with hlt | ⟨m, rfl⟩
      · rw [O2o hlt] at hn; rw [L2o hlt] at hv
        simp only [J]
        rw [if_pos (.inr ⟨n, a, o, v, hn, hv⟩)]
      · rw [L2n] at hv
        simp only [J]
        split
        · rfl
        · exact hg.inv.ow.imm m a (ownn hn) b o v hv o'
    · rcases cls n with hlt | ⟨n', rfl⟩ <;> rcases cls m with hlt' | ⟨m', rfl⟩
      · rw [O2o hlt] at hn; rw [L2o hlt] at hv; rw [O2o hlt'] at hm; rw [L2o hlt'] at hb
        exact hi.ow.live n a hn b o v hv m e k xs hm hb
      · rw [O2o hlt] at hn; rw [L2o hlt] at hv; rw [L2n] at hb
        obtain ⟨ys, q1, _⟩ := liven hm
        have := nlive q1
        have := hmem hn hv
        omega
      · rw [L2n] at hv; rw [O2o hlt'] at hm; rw [L2o hlt'] at hb
        have := nmem (ownn hn) hv
        have := hlive hm
        omega
      · rw [L2n] at hv hb
        obtain ⟨ys, q1, _⟩ := liven hm
        exact hg.inv.ow.live n' a (ownn hn) b o v hv m' _ _ _ q1 hb
    · rcases cls n with hlt | ⟨n', rfl⟩ <;> rcases cls m with hlt' | ⟨m', rfl⟩
      · rw [O2o hlt] at hn; rw [L2o hlt] at hv; rw [O2o hlt'] at hm; rw [L2o hlt'] at hv'
        exact hi.ow.sep n m a c hn hm b o o' v v' hv hv'
      · rw [O2o hlt] at hn; rw [L2o hlt] at hv; rw [L2n] at hv'
        have := nmem (ownn hm) hv'
        have := hmem hn hv
        omega
      · rw [L2n] at hv; rw [O2o hlt'] at hm; rw [L2o hlt'] at hv'
        have := nmem (ownn hn) hv
        have := hmem hm hv'
        omega
      · rw [L2n] at hv hv'
        rw [hg.inv.ow.sep n' m' a c (ownn hn) (ownn hm) b o o' v v' hv hv']
    · rcases cls n with hlt | ⟨m, rfl⟩
      · rw [O2o hlt] at hn; rw [L2o hlt]
        obtain ⟨S, p1, p2⟩ := hi.ow.deep n a hn
        refine ⟨S, p1.congr fun b hb => hblk b ?_, p2⟩
        obtain ⟨o, v, hv⟩ := (p2 b).1 hb
        exact hmem hn hv
      · rw [L2n]; exact hg.inv.ow.deep m a (ownn hn)
  refine ⟨y, J, L2, rfl, fwd hres hy, ⟨fun b o x hx => hg.inv.imm b o x (hJ' b o x hx).1, fun n e k xs hn => ?_, fun n m e k xs e' k' ys hn hm hb => ?_, fun n e k xs o hn => ?_, fun p hp => hIJ _ _ _ (hi.fix p hp), hi.blk_frm (fun b hb _ => hblk b hb) hIJ, how⟩, hext,
    ⟨hg.frm.os, hg.frm.tape, hg.frm.output, hg.frm.size, fun b hb _ => hblk b hb⟩, fun b hb => ?_, fun b o x hx => ?_⟩
  · rcases cls n with hlt | ⟨m, rfl⟩
    · rw [O2o hlt] at hn; rw [L2o hlt]
      exact (hi.obj n e k xs hn).congr (hblk _ (hlive hn)) fun _ _ h => h.mono hext
    · obtain ⟨ys, q1, rfl⟩ := liven hn
      rw [L2n]
      obtain ⟨c, r1, r2, r3, r4, r5, r6⟩ := hg.inv.obj m _ _ _ q1
      refine ⟨c, r1, r2, by simpa using r3, r4, r5, fun i x hx => ?_⟩
      obtain ⟨z, hz, rfl⟩ := map_get hx
      rw [cells_ren]
      refine ⟨by rw [List.length_map]; exact (r6 i z hz).1, fun j a ha => ?_⟩
      obtain ⟨b, hb, rfl⟩ := map_get ha
      obtain ⟨v, hv, ho, hr'⟩ := (r6 i z hz).2 j b hb
      have hm : AV.memlesses ys = true := by have := List.all_eq_true.1 hO1 _ (List.mem_of_getElem? q1); simpa [AObj.memless] using this
      exact ⟨v, hv, ho, fwd (memless_cells (memlesses_mem hm z (List.mem_of_getElem? hz)) b (List.mem_of_getElem? hb)) hr'⟩
  · rcases cls n with hlt | ⟨n', rfl⟩ <;> rcases cls m with hlt' | ⟨m', rfl⟩
    · rw [O2o hlt] at hn; rw [L2o hlt, L2o hlt'] at hb; rw [O2o hlt'] at hm
      exact hi.sep n m _ _ _ _ _ _ hn hm hb
    · rw [O2o hlt] at hn; rw [L2o hlt, L2n] at hb
      obtain ⟨ys, q1, _⟩ := liven hm
      have := nlive q1
      have := hlive hn
      omega
    · rw [O2o hlt'] at hm; rw [L2o hlt', L2n] at hb
      obtain ⟨ys, q1, _⟩ := liven hn
      have := nlive q1
      have := hlive hm
      omega
    · rw [L2n, L2n] at hb
      obtain ⟨ys, q1, _⟩ := liven hn
      obtain ⟨ys', q1', _⟩ := liven hm
      rw [hg.inv.sep n' m' _ _ _ _ _ _ q1 q1' hb]
  · rcases cls n with hlt | ⟨m, rfl⟩
    · rw [O2o hlt] at hn; rw [L2o hlt]
      simp only [J]
      rw [if_pos (.inl ⟨n, e, k, xs, hn, rfl⟩)]
    · rw [L2n]
      obtain ⟨ys, q1, _⟩ := liven hn
      simp only [J]
      split
      · rfl
      · exact hg.inv.immSep m _ _ _ o q1
  · rcases hb with ⟨n, e, k, xs, hn, hb⟩ | ⟨n, a, o, v, hn, hv⟩
    · rcases cls n with hlt | ⟨m, rfl⟩
      · rw [O2o hlt] at hn; rw [L2o hlt] at hb; exact .inl (.inl ⟨n, e, k, xs, hn, hb⟩)
      · rw [L2n] at hb
        obtain ⟨ys, q1, _⟩ := liven hn
        exact .inr (lbnew (.inl ⟨m, _, _, _, q1, hb⟩))
    · rcases cls n with hlt | ⟨m, rfl⟩
      · rw [O2o hlt] at hn; rw [L2o hlt] at hv; exact .inl (.inr ⟨n, a, o, v, hn, hv⟩)
      · rw [L2n] at hv
        exact .inr (lbnew (.inr ⟨m, a, o, v, ownn hn, hv⟩))
  · obtain ⟨h1, h2⟩ := hJ' b o x hx
    rcases hg.immNew b o x h1 with h3 | h3 | h3
    · unfold lentA at h3
      rw [if_neg h2] at h3
      exact .inl h3
    · exact (LB_nil h3).elim
    · exact .inr (.inr h3)
end Go.Ab
/-
  LESS MAY BE KNOWN: a slice that is still nil gets an object; rows and boxes that nobody writes any more become plain values.
-/
namespace Go.Ab
/-- other knowledge of the same memory -/
theorem Good.turn {I0 I I' : Imm} {L0 L : Nat → Loc} {O0 O O' : List AObj} {w0 w : World} (h : Good I0 L0 O0 w0 I L O w) (hlen : O.length ≤ O'.length)
    (hI : ∀ b o x, I b o = some x → I' b o = some x) (hI2 : ∀ b o x, I' b o = some x → I b o = some x ∨ (w.cell? ⟨b, o, none⟩ = some x ∧ LV L O b))
    (hO : ∀ (m : Nat) e s xs', O'[m]? = some (.live e s xs') → ∃ xs, O[m]? = some (.live e s xs) ∧ xs.length = xs'.length ∧ ObjOk I' L O' w (L m) e s xs' ∧ ∀ o, I' (L m).blk o = none)
    (hnil : ∀ (m : Nat) e s, m < O.length → O'[m]? = some (.nil e s) → O[m]? = some (.nil e s))
    (hown : ∀ (m : Nat) a, O'[m]? = some (.own a) → O[m]? = some (.own a)) : Good I0 L0 O0 w0 I' L O' w := by
  refine ⟨⟨fun b o x hx => ?_, fun m e s xs hm => ?_, fun n m e s xs e' s' ys hn hm hb => ?_, fun m e s xs o hm => ?_, fun p hp => hI _ _ _ (h.inv.fix p hp), h.inv.blk_imm hI, h.inv.ow.same (fun m a hm => ⟨hown m a hm, rfl⟩) (fun b o v hv => by
    rcases hI2 b o v hv with h1 | ⟨_, h1⟩
    · exact .inl ⟨o, v, h1⟩
    · exact .inr (.inl h1)) (fun m e s xs hm => by
    obtain ⟨ys, h1, _⟩ := hO m e s xs hm
    exact .inl ⟨m, _, _, _, h1, rfl⟩) rfl⟩, ?_, h.frm, ?_, fun b o x hx => ?_⟩
  · rcases hI2 b o x hx with h1 | ⟨h1, _⟩
    · exact h.inv.imm b o x h1
    · exact h1
  · obtain ⟨_, _, _, h3, _⟩ := hO m e s xs hm
    exact h3
  · obtain ⟨_, h1, _⟩ := hO n e s xs hn
    obtain ⟨_, h2, _⟩ := hO m e' s' ys hm
    exact h.inv.sep n m _ _ _ _ _ _ h1 h2 hb
  · obtain ⟨_, _, _, _, h4⟩ := hO m e s xs hm
    exact h4 o
  · refine ⟨fun b o x hx => hI _ _ _ (h.ext.imm _ _ _ hx), Nat.le_trans h.ext.len hlen, fun n hn e s xs hx => ?_, fun n hn e s hx => h.ext.nil n hn e s (hnil n e s (Nat.lt_of_lt_of_le hn h.ext.len) hx), fun n hn a hx => h.ext.own n hn a (hown n a hx)⟩
    obtain ⟨ys, h1, h2, _⟩ := hO n e s xs hx
    rcases h.ext.obj n hn e s ys h1 with ⟨zs, z1, z2, z3⟩ | ⟨z1, z2⟩
    · exact .inl ⟨zs, z1, by omega, fun he => z3 (by omega)⟩
    · exact .inr ⟨z1, fun h0 => z2 (List.eq_nil_of_length_eq_zero (by simp [h2, h0]))⟩
  · rintro b (⟨n, e, s, xs, hn, hb⟩ | ⟨n, a, o, v, hn, hb⟩)
    · obtain ⟨ys, h1, _⟩ := hO n e s xs hn
      exact h.lb b (.inl ⟨n, e, s, ys, h1, hb⟩)
    · exact h.lb b (.inr ⟨n, a, o, v, hown n a hn, hb⟩)
  · rcases hI2 b o x hx with h1 | ⟨_, h1⟩
    · exact h.immNew b o x h1
    · rcases h.lb b (.inl h1) with h2 | h2
      · exact .inr (.inl h2)
      · exact .inr (.inr h2)
/-- a nil slice gets an object -/
theorem WK.nilrow {n0 : Nat} {e e' : Env} {O : List AObj} (t s : Nat) {O' : List AObj} (hO' : O'.length = O.length + 1) (hnew : O'[O.length]? = some (.nil t s))
    (hob : ∀ m, m < O.length → O'[m]? = O[m]? ∨ ∃ ee k ys ys', O[m]? = some (.live ee k ys) ∧ O'[m]? = some (.live ee k ys') ∧ ys'.length = ys.length ∧ ∀ (i : Nat) y y', ys[i]? = some y → ys'[i]? = some y' → y'.cells.length = y.cells.length ∧
      ∀ (j : Nat) c c', y.cells[j]? = some c → y'.cells[j]? = some c' → c' = c ∨ (c = .nils ∧ c' = .row O.length 0))
    (he : ∀ t, e' t = e t ∨ (e t = .nils ∧ e' t = .row O.length 0)) : WK n0 e O e' O' := by
  intro I0 L0 O0 w0 I L w f h0 hg hr
  have hext : Ext I L O I L O' := by
    refine ⟨fun _ _ _ h => h, by omega, fun n hn ee k xs hx => ?_, fun n hn ee k hx => ?_, fun n hn a hx => ?_⟩
    rotate_left 2
    · rcases hob n hn with h | ⟨e1, k1, ys, ys', h1, h2, h3, _⟩
      · rw [h] at hx; exact ⟨⟨a, hx⟩, rfl⟩
      · rw [h2] at hx; cases hx
    · rcases hob n hn with h | ⟨e1, k1, ys, ys', h1, h2, h3, _⟩
      · exact .inl ⟨xs, by rw [← h]; exact hx, Nat.le_refl _, fun _ => rfl⟩
      · rw [h2] at hx; cases hx
        exact .inl ⟨ys, h1, by omega, fun _ => rfl⟩
    · rcases hob n hn with h | ⟨e1, k1, ys, ys', h1, h2, h3, _⟩
      · rwa [h] at hx
      · rw [h2] at hx; cases hx
  have hnils : ∀ {x : Value}, R I L O .nils x → R I L O' (.row O.length 0) x := by
    intro x hx
    cases hx
    exact .rowNil _ t s hnew
  refine ⟨I, L, hg.turn (by omega) (fun _ _ _ h => h) (fun _ _ _ h => .inl h) (fun m ee k xs hm => ?_) (fun m ee k hm hx => hext.nil m hm ee k hx) (fun m a hm => ?_), fun t => ?_⟩
  rotate_left
  · by_cases hml : m < O.length
    · rcases hob m hml with h | ⟨e1, k1, ys, ys', h1, h2, _⟩
      · rwa [h] at hm
      · rw [h2] at hm; cases hm
    · have hl := (List.getElem?_eq_some_iff.1 hm).1
      rw [show m = O.length by omega, hnew] at hm; cases hm
  rotate_left
  · have hlt : m < O.length := by
      have := (List.getElem?_eq_some_iff.1 hm).1
      rcases Nat.lt_or_ge m O.length with h | h
      · exact h
      · have : m = O.length := by omega
        subst this; rw [hnew] at hm; cases hm
    rcases hob m hlt with h | ⟨e1, k1, ys, ys', h1, h2, h3, h4⟩
    · rw [h] at hm
      exact ⟨xs, hm, rfl, (hg.inv.obj m _ _ _ hm).congr rfl fun _ _ h => h.mono hext, fun o => hg.inv.immSep m _ _ _ o hm⟩
    · rw [h2] at hm; cases hm
      refine ⟨ys, h1, h3.symm, ?_, fun o => hg.inv.immSep m _ _ _ o h1⟩
      obtain ⟨c, q1, q2, q3, q4, q5, q6⟩ := hg.inv.obj m _ _ _ h1
      refine ⟨c, q1, q2, by omega, q4, q5, fun i y' hy' => ?_⟩
      have hy : ys[i]? = some (ys[i]'(by have := (List.getElem?_eq_some_iff.1 hy').1; omega)) := by simp
      obtain ⟨p1, p2⟩ := h4 i _ _ hy hy'
      obtain ⟨r1, r2⟩ := q6 i _ hy
      refine ⟨by rw [p1, r1], fun j a ha => ?_⟩
      have hc := List.getElem?_eq_getElem (l := (ys[i]'(by have := (List.getElem?_eq_some_iff.1 hy').1; omega)).cells) (i := j) (by have := (List.getElem?_eq_some_iff.1 ha).1; omega)
      obtain ⟨v, hv, ho, hrv⟩ := r2 j _ hc
      refine ⟨v, hv, ho, ?_⟩
      rcases p2 j _ _ hc ha with h | ⟨h, h'⟩
      · rw [h]; exact hrv.mono hext
      · rw [h'] ; rw [h] at hrv; exact hnils hrv
  · rcases he t with h | ⟨h, h'⟩
    · rw [h]; exact (hr t).mono hext
    · rw [h']; have := hr t; rw [h] at this; exact hnils this
/-- what is owned, read as what nobody writes any more -/
inductive Fr (n : Nat) (xs : List AV) : AV → AV → Prop
  | refl (a : AV) : Fr n xs a a
  | row : Fr n xs (.row n xs.length) (.sl xs)
  | agg (cs ds : List AV) : cs.length = ds.length → (∀ (i : Nat) c d, cs[i]? = some c → ds[i]? = some d → Fr n xs c d) → Fr n xs (.agg cs) (.agg ds)
  | ptr (a : AV) (f : Nat) : xs = [a] → Fr n xs (.ptr n 1 0 f) (.iptr a f)
theorem Fr.width {n : Nat} {xs : List AV} {a b : AV} (h : Fr n xs a b) : b.cells.length = a.cells.length := by
  cases h with
  | refl => rfl
  | row => rfl
  | agg cs ds h _ => simp [AV.cells, h]
  | ptr => rfl
open Classical in
noncomputable def frI (I : Imm) (L : Nat → Loc) (O : List AObj) (w : World) (n : Nat) : Imm := fun b o =>
  if (∃ e s xs, O[n]? = some (.live e s xs)) ∧ (L n).blk = b then w.cell? ⟨b, o, none⟩ else I b o
theorem Fr.sound {I : Imm} {L : Nat → Loc} {O O' : List AObj} {w : World} (hi : Inv I L O w) {n t s : Nat} {xs : List AV} (hO : O[n]? = some (.live t s xs) ∨ (O[n]? = some (.nil t s) ∧ xs = [])) (hn : AV.norefs xs = true)
    (hext : Ext I L O (frI I L O w n) L O') {a b : AV} (h : Fr n xs a b) : ∀ {x : Value}, R I L O a x → R (frI I L O w n) L O' b x := by
  induction h with
  | refl a => intro x hr; exact hr.mono hext
  | row =>
    intro x hr
    rcases hO with hO | ⟨hO, rfl⟩
    · have := hr.row_live hO rfl
      subst this
      obtain ⟨c, h1, h2, h3, h4, h5, h6⟩ := hi.obj n t s xs hO
      by_cases hx : xs = []
      · subst hx; exact .sl0 _ _
      · refine (.sl xs (L n).blk 0 (L n).cap s (fun i j => (c[i * s + j]?).getD undef) h3 hx (fun i x hx => (h6 i x hx).1) (fun i x j d hx hj => ?_) fun i x j d hx hj => ?_)
        · obtain ⟨y, hy, ho, _⟩ := (h6 i x hx).2 j d hj
          unfold frI
          rw [if_pos ⟨⟨t, s, xs, hO⟩, rfl⟩, Nat.zero_add, cell_cells h1, hy]
          exact ⟨rfl, ho⟩
        · obtain ⟨y, hy, ho, hr'⟩ := (h6 i x hx).2 j d hj
          rw [hy]
          exact hr'.noref hext.imm (noref_cells (norefs_mem hn x (List.mem_of_getElem? hx)) d (List.mem_of_getElem? hj))
    · obtain ⟨rfl, _⟩ := hr.row_nil hO
      exact .sl0 _ _
  | agg cs ds h _ ih =>
    intro x hr
    cases hr with
    | agg _ vs hl hr =>
      refine .agg _ _ (by omega) fun i d v hd hv => ?_
      have hc : cs[i]? = some (cs[i]'(by have := (List.getElem?_eq_some_iff.1 hd).1; omega)) := by simp
      exact ih i _ _ hc hd (hr i _ v hc hv)
  | ptr a f ha =>
    subst ha
    intro x hr
    rcases hO with hO | ⟨_, h⟩
    · have := hr.ptr_live hO rfl
      subst this
      obtain ⟨c, h1, h2, h3, h4, h5, h6⟩ := hi.obj n t s _ hO
      obtain ⟨q1, q2⟩ := h6 0 a rfl
      simp only [Nat.zero_mul]
      refine .iptr a f (L n).blk 0 (fun j => (c[j]?).getD undef) (fun j d hj => ?_) fun j d hj => ?_
      · obtain ⟨y, hy, ho, _⟩ := q2 j d hj
        rw [Nat.zero_mul, Nat.zero_add] at hy
        unfold frI
        rw [if_pos ⟨⟨t, s, _, hO⟩, rfl⟩, Nat.zero_add, cell_cells h1, hy]
        exact ⟨rfl, ho⟩
      · obtain ⟨y, hy, ho, hr'⟩ := q2 j d hj
        rw [Nat.zero_mul, Nat.zero_add] at hy
        rw [hy]
        exact hr'.noref hext.imm (noref_cells (norefs_mem hn a (by simp)) d (List.mem_of_getElem? hj))
    · cases h
theorem frI_le {I : Imm} {L : Nat → Loc} {O : List AObj} {w : World} (hi : Inv I L O w) (n : Nat) : ∀ b o x, I b o = some x → frI I L O w n b o = some x := by
  intro b o x hx
  unfold frI
  split
  · exact hi.imm b o x hx
  · exact hx
/-- what an object holds is not written any more: it is no object now -/
theorem WK.frz {n0 : Nat} {e e' : Env} {O O' : List AObj} {n t s : Nat} {xs : List AV} (hO : O[n]? = some (.live t s xs) ∨ (O[n]? = some (.nil t s) ∧ xs = [])) (hn : AV.norefs xs = true) (hlen : O'.length = O.length) (hd : O'[n]? = some .dead)
    (hob : ∀ m, m ≠ n → O'[m]? = O[m]? ∨ ∃ ee k ys ys', O[m]? = some (.live ee k ys) ∧ O'[m]? = some (.live ee k ys') ∧ ys'.length = ys.length ∧ ∀ (i : Nat) y y', ys[i]? = some y → ys'[i]? = some y' → y'.cells.length = y.cells.length ∧
      ∀ (j : Nat) c c', y.cells[j]? = some c → y'.cells[j]? = some c' → Fr n xs c c')
    (he : ∀ t, Fr n xs (e t) (e' t)) : WK n0 e O e' O' := by
  intro I0 L0 O0 w0 I L w f h0 hg hr
  have hle := frI_le hg.inv n
  have hlive : ∀ {m ee k ys'}, O'[m]? = some (.live ee k ys') → m ≠ n ∧ ∃ ys, O[m]? = some (.live ee k ys) ∧ ys.length = ys'.length := by
    intro m ee k ys' hm
    have hmn : m ≠ n := by rintro rfl; rw [hd] at hm; cases hm
    refine ⟨hmn, ?_⟩
    rcases hob m hmn with h | ⟨e1, k1, ys, zs, h1, h2, h3, _⟩
    · exact ⟨ys', by rw [← h]; exact hm, rfl⟩
    · rw [h2] at hm; cases hm; exact ⟨ys, h1, h3.symm⟩
  have hnil : ∀ (m ee k : Nat), O'[m]? = some (AObj.nil ee k) → O[m]? = some (AObj.nil ee k) := by
    intro m ee k hm
    have hmn : m ≠ n := by rintro rfl; rw [hd] at hm; cases hm
    rcases hob m hmn with h | ⟨e1, k1, ys, zs, h1, h2, h3, _⟩
    · rwa [h] at hm
    · rw [h2] at hm; cases hm
  have howno : ∀ (m : Nat) (a : AV), O'[m]? = some (AObj.own a) → O[m]? = some (AObj.own a) := by
    intro m a hm
    have hmn : m ≠ n := by rintro rfl; rw [hd] at hm; cases hm
    rcases hob m hmn with h | ⟨e1, k1, ys, zs, h1, h2, _⟩
    · rwa [h] at hm
    · rw [h2] at hm; cases hm
  have hext : Ext I L O (frI I L O w n) L O' := by
    refine ⟨hle, by omega, fun m hm ee k zs hz => ?_, fun m _ ee k h => hnil m ee k h, fun m _ a h => ⟨⟨a, howno m a h⟩, rfl⟩⟩
    obtain ⟨_, ys, h1, h2⟩ := hlive hz
    exact .inl ⟨ys, h1, by omega, fun _ => rfl⟩
  have hs : ∀ {a b : AV} {x : Value}, Fr n xs a b → R I L O a x → R (frI I L O w n) L O' b x := fun h hr => h.sound hg.inv hO hn hext hr
  refine ⟨frI I L O w n, L, hg.turn (by omega) hle (fun b o x hx => ?_) (fun m ee k zs hm => ?_) (fun m ee k _ hm => hnil m ee k hm) (fun m a hm => by
    have hmn : m ≠ n := by rintro rfl; rw [hd] at hm; cases hm
    rcases hob m hmn with h | ⟨e1, k1, ys, zs, h1, h2, _⟩
    · rwa [h] at hm
    · rw [h2] at hm; cases hm), fun t => hs (he t) (hr t)⟩
  · unfold frI at hx
    split at hx
    · rename_i h
      obtain ⟨⟨e1, s1, x1, h1⟩, h2⟩ := h
      exact .inr ⟨hx, ⟨n, e1, s1, x1, h1, h2⟩⟩
    · exact .inl hx
  · obtain ⟨hmn, ys, h1, h2⟩ := hlive hm
    refine ⟨ys, h1, h2, ?_, fun o => ?_⟩
    · obtain ⟨c, q1, q2, q3, q4, q5, q6⟩ := hg.inv.obj m _ _ _ h1
      refine ⟨c, q1, q2, by omega, q4, q5, fun i y' hy' => ?_⟩
      have hy : ys[i]? = some (ys[i]'(by have := (List.getElem?_eq_some_iff.1 hy').1; omega)) := by simp
      obtain ⟨r1, r2⟩ := q6 i _ hy
      rcases hob m hmn with h | ⟨e1, k1, us, us', g1, g2, g3, g4⟩
      · rw [h, h1] at hm; cases hm
        have hyy := hy'
        rw [hy] at hyy
        have hyy := Option.some.inj hyy
        rw [← hyy]
        refine ⟨r1, fun j a ha => ?_⟩
        obtain ⟨v, hv, ho, hrv⟩ := r2 j _ ha
        exact ⟨v, hv, ho, hrv.mono hext⟩
      · rw [g2] at hm; cases hm
        rw [h1] at g1; cases g1
        obtain ⟨p1, p2⟩ := g4 i _ _ hy hy'
        refine ⟨by rw [p1, r1], fun j a ha => ?_⟩
        have hc := List.getElem?_eq_getElem (l := (ys[i]'(by have := (List.getElem?_eq_some_iff.1 hy').1; omega)).cells) (i := j) (by have := (List.getElem?_eq_some_iff.1 ha).1; omega)
        obtain ⟨v, hv, ho, hrv⟩ := r2 j _ hc
        exact ⟨v, hv, ho, hs (p2 j _ _ hc ha) hrv⟩
    · cases hx : frI I L O w n (L m).blk o with
      | none => rfl
      | some x =>
        unfold frI at hx
        split at hx
        · rename_i h
          obtain ⟨⟨e1, s1, x1, g1⟩, g2⟩ := h
          exact (hmn (hg.inv.sep n m _ _ _ _ _ _ g1 h1 g2).symm).elim
        · rw [hg.inv.immSep m _ _ _ o h1] at hx; cases hx
/-- slots are forgotten -/
theorem WK.env {n0 : Nat} {e e' : Env} {O : List AObj} (h : ∀ t, e' t = .top ∨ e' t = e t) : WK n0 e O e' O := by
  intro I0 L0 O0 w0 I L w f h0 hg hr
  refine ⟨I, L, hg, fun t => ?_⟩
  rcases h t with h | h
  · rw [h]; exact .top _
  · rw [h]; exact hr t
end Go.Ab
/-
  A SYMBOLIC WALK: code is run once, on values that have names only; what is left over is a small program T on plain values: no slots, no boxes, no rows.
-/
namespace Go.Ab
def listOf : AV → List AV
  | .sl xs => xs
  | _ => []
def idxOf : AV → Nat
  | .v (.int _ k) => k.toNat
  | _ => 0
def tupD (a : AV) (j : Nat) : AV :=
  match a with
  | .tup vs => vs.getD j .top
  | _ => .top
mutual
def D.ev (r : List AV) : D → AV
  | .x i => r.getD i .top
  | .c a => a
  | .cell i j => (r.getD i .top).cells.getD j .top
  | .ext i j => tupD (r.getD i .top) j
  | .sl l => .sl (listOf (l.ev r))
  | .agg l => .agg (D.evs r l)
  | .fn f l => .fn f (D.evs r l)
  | .ip d f => .iptr (d.ev r) f
def D.evs (r : List AV) : List D → List AV
  | [] => []
  | d :: l => d.ev r :: D.evs r l
end
mutual
def D.cl (n : Nat) : D → Bool
  | .x i => decide (i < n)
  | .c a => a.noref
  | .cell i _ => decide (i < n)
  | .ext i _ => decide (i < n)
  | .sl l => l.cl n
  | .agg l => D.cls n l
  | .fn _ l => D.cls n l
  | .ip d _ => d.cl n
def D.cls (n : Nat) : List D → Bool
  | [] => true
  | d :: l => d.cl n && D.cls n l
end
def AV.ceq : AV → AV → Bool
  | .v (.int k a), .v (.int k' b) => decide (k = k') && decide (a = b)
  | .v (.bool a), .v (.bool b) => decide (a = b)
  | .v (.string a), .v (.string b) => decide (a = b)
  | .nils, .nils => true
  | .sl [], .sl [] => true
  | .tup [], .tup [] => true
  | .fn f [], .fn g [] => decide (f = g)
  | _, _ => false
mutual
def D.beq : D → D → Bool
  | .x i, .x j => decide (i = j)
  | .c a, .c b => a.ceq b
  | .cell i j, .cell k l => decide (i = k) && decide (j = l)
  | .ext i j, .ext k l => decide (i = k) && decide (j = l)
  | .sl a, .sl b => a.beq b
  | .agg a, .agg b => D.beqs a b
  | .fn f a, .fn g b => decide (f = g) && D.beqs a b
  | .ip a f, .ip b g => a.beq b && decide (f = g)
  | _, _ => false
def D.beqs : List D → List D → Bool
  | [], [] => true
  | a :: as, b :: bs => a.beq b && D.beqs as bs
  | _, _ => false
end
def mkA : List AV → AV
  | [c] => c
  | cs => .agg cs
mutual
def SV.ev (r : List AV) : SV → AV
  | .d x => x.ev r
  | .row n l => .row n (listOf (l.ev r)).length
  | .ptr n f => .ptr n 1 0 f
  | .rp n l i f => .ptr n (listOf (l.ev r)).length (idxOf (i.ev r)) f
  | .ip x f => .iptr (x.ev r) f
  | .agg cs => .agg (SV.evs r cs)
  | .tup cs => .tup (SV.evs r cs)
  | .top => .top
def SV.evs (r : List AV) : List SV → List AV
  | [] => []
  | v :: l => v.ev r :: SV.evs r l
end
def SO.ev (r : List AV) : SO → AObj
  | .dead => .dead
  | .box e cs => .live e cs.length [mkA (SV.evs r cs)]
  | .row true e s l => if listOf (l.ev r) = [] then .nil e s else .live e s (listOf (l.ev r))
  | .row false e s l => .live e s (listOf (l.ev r))
mutual
def SV.cl (n : Nat) : SV → Bool
  | .d x => x.cl n
  | .row _ l => l.cl n
  | .ptr _ _ => true
  | .rp _ l i _ => l.cl n && i.cl n
  | .ip x _ => x.cl n
  | .agg cs => SV.cls n cs
  | .tup cs => SV.cls n cs
  | .top => true
def SV.cls (n : Nat) : List SV → Bool
  | [] => true
  | v :: l => v.cl n && SV.cls n l
end
def SO.cl (n : Nat) : SO → Bool
  | .dead => true
  | .box _ cs => SV.cls n cs
  | .row _ _ _ l => l.cl n
mutual
def SV.beq : SV → SV → Bool
  | .d x, .d y => x.beq y
  | .row n l, .row m k => decide (n = m) && l.beq k
  | .ptr n f, .ptr m g => decide (n = m) && decide (f = g)
  | .rp n l i f, .rp m k j g => decide (n = m) && l.beq k && i.beq j && decide (f = g)
  | .ip x f, .ip y g => x.beq y && decide (f = g)
  | .agg a, .agg b => SV.beqs a b
  | .tup a, .tup b => SV.beqs a b
  | .top, .top => true
  | _, _ => false
def SV.beqs : List SV → List SV → Bool
  | [], [] => true
  | a :: as, b :: bs => a.beq b && SV.beqs as bs
  | _, _ => false
end
def SO.beq : SO → SO → Bool
  | .dead, .dead => true
  | .box e cs, .box e' cs' => decide (e = e') && SV.beqs cs cs'
  | .row n e s l, .row n' e' s' l' => decide (n = n') && decide (e = e') && decide (s = s') && l.beq l'
  | _, _ => false
mutual
/-- only objects below k are named -/
def SV.sc (k : Nat) : SV → Bool
  | .d _ => true
  | .row n _ => decide (n < k)
  | .ptr n _ => decide (n < k)
  | .rp n _ _ _ => decide (n < k)
  | .ip _ _ => true
  | .agg cs => SV.scs k cs
  | .tup cs => SV.scs k cs
  | .top => true
def SV.scs (k : Nat) : List SV → Bool
  | [] => true
  | v :: l => v.sc k && SV.scs k l
end
def SO.sc (k : Nat) : SO → Bool
  | .dead => true
  | .box _ cs => SV.scs k cs
  | .row _ _ _ _ => true
def lk : List (Nat × SV) → Nat → SV
  | [], _ => .top
  | (k, v) :: l, t => if t = k then v else lk l t
structure SS where
  env : List (Nat × SV)
  objs : List SO
  nv : Nat
  /-- names that are aggregates of so many cells (nothing leans on it) -/
  kn : List (Nat × Nat)
instance : Inhabited SS := ⟨⟨[], [], 0, []⟩⟩
def SS.cl (s : SS) : Bool := s.env.all (fun p => p.2.cl s.nv) && s.objs.all (fun o => o.cl s.nv)
def stE (s : SS) (r : List AV) : Env := fun t => (lk s.env t).ev r
def stO (s : SS) (r : List AV) : List AObj := s.objs.map (SO.ev r)
def SS.set (s : SS) (t : Nat) (v : SV) : SS := { s with env := (t, v) :: s.env.filter (fun p => p.1 != t) }
def SS.setD (s : SS) (d : Option Nat) (v : SV) : SS :=
  match d with
  | some t => s.set t v
  | none => s
def un : SV := .d (.c (.tup []))
/- THE PROGRAM THAT IS LEFT -/
inductive PO where
  | val (x : D)
  | pick (c a b : D)
  | bin (op : BinOp) (a b : D)
  | beq (neg : Bool) (a b : D)
  | un (op : UnOp) (a : D)
  | conv (k : IntKind) (a : D)
  | elem (s : Nat) (l i : D)
  | fld (off : Nat) (n : Option Nat) (a : D)
  | loadc (f m : Nat) (a : D)
  | idxS (a i : D)
  | sliceS (a : D) (lo hi : Option D)
  | sliceL (s : Nat) (a : D) (lo hi : Option D)
  | lenS (a : D)
  | lenL (a : D)
  | mkl (z : AV) (n : Nat) (parts : List (Nat × D))
  | rep (bytes : Nat) (z : AV) (n c : D)
  | app (s bytes : Nat) (l y : D)
  | get (l i : D) (f : Nat) (n : Option Nat)
  | set (l i : D) (f m : Nat) (y : D)
  | call (f : FuncId) (args : List D) (flat : Bool)
  | callv (g : D) (args : List D) (flat : Bool)
  /-- through a pointer into what nobody writes any more -/
  | ldp (n : Option Nat) (a : D)
  | fap (off : Nat) (a : D)
  | pu (o : PU) (ds : List D)
  | appS (s bytes : Nat) (l y : D)
  /-- a call that makes one slice; nl: nil where it is empty -/
  | fcall (nl : Bool) (e s : Nat) (f : FuncId) (args : List D)
  /-- a call that reaches what is owned -/
  | scall (f : FuncId) (g : Sig) (args : List D)
inductive Chk where
  /-- an aggregate of m cells -/
  | cells (a : D) (m : Nat)
  | one (a : D)
  | lt (a : D) (j : Nat)
  | tup (a : D) (j : Nat)
  | idx (l i : D)
  | isFn (a : D)
  /-- a list that is not empty -/
  | ne (l : D)
  /-- not to be reached -/
  | no
  /-- two lists of one length -/
  | eql (a b : D)
inductive Node where
  | op (o : PO)
  | chk (c : Chk)
inductive T where
  | leaf (x : AX) (s : SS)
  | ret (ds : List D)
  | jump (vs : List D)
  | esc (t : T)
  | op (o : PO) (t : T)
  | chk (c : Chk) (t : T)
  | ite (c : D) (t f : T)
  | bind (k : Nat) (a b : T)
  | loop (init : List D) (b : T)
instance : Inhabited T := ⟨.jump []⟩
def D.evo (r : List AV) : Option D → Option AV
  | none => none
  | some d => some (d.ev r)
def callP (P : Program) (f : FuncId) (args : List AV) (flat : Bool) (K : AV → Prop) : Prop :=
  ∃ res, PCon P f args res ∧ res.noref = true ∧ (flat = true → res.flat = true) ∧ K res
def callvP (P : Program) (g : AV) (args : List AV) (flat : Bool) (K : AV → Prop) : Prop :=
  match g with
  | .fn f caps => callP P f (args ++ caps) flat K
  | _ => False
def rowOb (nl : Bool) (e s : Nat) (xs : List AV) : AObj := if nl = true ∧ xs = [] then .nil e s else .live e s xs
/-- THE CONTRACT OF A CALL THAT MAKES A SLICE of its own -/
def FCon (P : Program) (f : FuncId) (args : List AV) (nl : Bool) (e s : Nat) (xs : List AV) : Prop := Con P f args [] (.row 0 xs.length) [rowOb nl e s xs]
def fcallP (P : Program) (nl : Bool) (e s : Nat) (f : FuncId) (args : List AV) (K : AV → Prop) : Prop :=
  ∃ xs, FCon P f args nl e s xs ∧ AV.norefs xs = true ∧ K (.sl xs)
/-- THE CONTRACT OF A CALL THAT REACHES WHAT IS OWNED, by its signature -/
def SCon (P : Program) (f : FuncId) (g : Sig) (ins outs : List AV) : Prop := Con P f (SV.evs ins g.args) (g.objs.map (SO.ev ins)) (g.res.ev outs) (g.objs'.map (SO.ev outs))
def scallP (P : Program) (f : FuncId) (g : Sig) (args : List AV) (K : AV → Prop) : Prop :=
  ∃ outs, SCon P f g args outs ∧ outs.length = g.m ∧ AV.norefs outs = true ∧ K (.tup outs)
def appP (s bytes : Nat) (xs : List AV) (y : AV) (K : AV → Prop) : Prop :=
  srcOf [] y fun ys => (∀ y ∈ ys, y.cells.length = s) ∧ (xs.length + ys.length) * bytes ≤ 140737488355328 ∧ xs.length + ys.length ≤ maxLen ∧ K (.sl (xs ++ ys))
def getP (xs : List AV) (i : Nat) (f : Nat) (n : Option Nat) (K : AV → Prop) : Prop := i < xs.length ∧ f + n.getD 1 ≤ (xs.getD i .top).cells.length ∧ K (loadC n (xs.getD i .top) f)
def setP (xs : List AV) (i : Nat) (f m : Nat) (y : AV) (K : AV → Prop) : Prop :=
  i < xs.length ∧ y.cells.length = m ∧ y.storable = true ∧ f + m ≤ (xs.getD i .top).cells.length ∧ K (.sl (xs.set i (upd (xs.getD i .top) f y)))
def elemP (s : Nat) (a i : AV) (K : AV → Prop) : Prop :=
  match a, i with
  | .sl xs, .v (.int _ i) => 0 ≤ i ∧ i < xs.length ∧ (xs.getD i.toNat .top).cells.length = s ∧ K (xs.getD i.toNat .top)
  | _, _ => False
def repP (bytes : Nat) (z a b : AV) (K : AV → Prop) : Prop :=
  match a, b with
  | .v (.int .i64 n), .v (.int .i64 c) => 0 ≤ n ∧ n ≤ c ∧ bytes * c ≤ 281474976710656 ∧ c ≤ 9223372036854775807 ∧ K (.sl (List.replicate n.toNat z))
  | _, _ => False
def setAll (z : List AV) : List (Nat × AV) → List AV
  | [] => z
  | (i, y) :: r => setAll (z.set i y) r
def loadcP (f m : Nat) (a : AV) (K : AV → Prop) : Prop := f + m ≤ a.cells.length ∧ K (loadC (some m) a f)
def ldpP (n : Option Nat) (a : AV) (K : AV → Prop) : Prop :=
  match a with
  | .iptr y f => f + n.getD 1 ≤ y.cells.length ∧ K (loadC n y f)
  | _ => False
def fapP (off : Nat) (a : AV) (K : AV → Prop) : Prop :=
  match a with
  | .iptr y f => K (.iptr y (f + off))
  | _ => False
def appSP (s bytes : Nat) (xs : List AV) (y : AV) (K : AV → Prop) : Prop :=
  match y with
  | .v (.string b) => s = 1 ∧ (xs.length + b.size) * bytes ≤ 140737488355328 ∧ xs.length + b.size ≤ maxLen ∧ K (.sl (xs ++ ysS b))
  | _ => False
def beqP (neg : Bool) (a b : AV) (K : AV → Prop) : Prop :=
  match a, b with
  | .v (.bool a), .v (.bool b) => K (.v (.bool (neg != (a == b))))
  | _, _ => False
def PO.wp (P : Program) (r : List AV) (o : PO) (K : AV → Prop) : Prop :=
  match o with
  | .val x => K (x.ev r)
  | .pick c a b => pickK (c.ev r) (a.ev r) (b.ev r) [] fun x _ => K x
  | .bin op a b => binK op (a.ev r) (b.ev r) [] fun x _ => K x
  | .beq neg a b => beqP neg (a.ev r) (b.ev r) K
  | .un op a => unK op (a.ev r) [] fun x _ => K x
  | .conv k a => convK k (a.ev r) [] fun x _ => K x
  | .elem s l i => elemP s (l.ev r) (i.ev r) K
  | .fld off n a => fldK off n (a.ev r) [] fun x _ => K x
  | .loadc f m a => loadcP f m (a.ev r) K
  | .idxS a i => idxSK (a.ev r) (i.ev r) [] fun x _ => K x
  | .sliceS a lo hi => sliceSK (a.ev r) (D.evo r lo) (D.evo r hi) [] fun x _ => K x
  | .sliceL s a lo hi => sliceLK s (a.ev r) (D.evo r lo) (D.evo r hi) [] fun x _ => K x
  | .lenS a => lenSK (a.ev r) [] fun x _ => K x
  | .lenL a => lenLK (a.ev r) [] fun x _ => K x
  | .mkl z n parts => K (.sl (setAll (List.replicate n z) (parts.map fun p => (p.1, p.2.ev r))))
  | .rep bytes z n c => repP bytes z (n.ev r) (c.ev r) K
  | .app s bytes l y => appP s bytes (listOf (l.ev r)) (y.ev r) K
  | .get l i f n => getP (listOf (l.ev r)) (idxOf (i.ev r)) f n K
  | .set l i f m y => setP (listOf (l.ev r)) (idxOf (i.ev r)) f m (y.ev r) K
  | .call f args flat => callP P f (D.evs r args) flat K
  | .callv g args flat => callvP P (g.ev r) (D.evs r args) flat K
  | .ldp n a => ldpP n (a.ev r) K
  | .fap off a => fapP off (a.ev r) K
  | .pu o ds => puK o (D.evs r ds) K
  | .appS s bytes l y => appSP s bytes (listOf (l.ev r)) (y.ev r) K
  | .fcall nl e s f args => fcallP P nl e s f (D.evs r args) K
  | .scall f g args => scallP P f g (D.evs r args) K
def idxP (xs : List AV) (i : AV) (K : Prop) : Prop :=
  match i with
  | .v (.int _ i) => 0 ≤ i ∧ i < xs.length ∧ K
  | _ => False
def tupP (a : AV) (j : Nat) (K : Prop) : Prop :=
  match a with
  | .tup vs => j < vs.length ∧ K
  | _ => False
def isFnP (a : AV) (K : Prop) : Prop :=
  match a with
  | .fn _ _ => K
  | .iptr _ _ => K
  | _ => False
def Chk.wp (r : List AV) (c : Chk) (K : Prop) : Prop :=
  match c with
  | .cells a m => (a.ev r).isAgg = true ∧ (a.ev r).cells.length = m ∧ (a.ev r).storable = true ∧ K
  | .one a => (a.ev r).cells.length = 1 ∧ (a.ev r).isCell = true ∧ K
  | .lt a j => j < (a.ev r).cells.length ∧ K
  | .tup a j => tupP (a.ev r) j K
  | .idx l i => idxP (listOf (l.ev r)) (i.ev r) K
  | .isFn a => isFnP (a.ev r) K
  | .ne l => listOf (l.ev r) ≠ [] ∧ K
  | .no => False
  | .eql a b => (listOf (a.ev r)).length = (listOf (b.ev r)).length ∧ K
/-- WHAT THE PROGRAM COMES TO. L: what is asked at an open end; R: of the result; S: of what is handed to the joins around. -/
def wpT (P : Program) (L : AX → SS → List AV → Prop) (R : AV → Prop) : T → List AV → List (List AV → Prop) → Prop
  | .leaf x s, r, _ => L x s r
  | .ret ds, r, _ => R (packR (D.evs r ds))
  | .jump vs, r, S => match S with
    | J :: _ => J (D.evs r vs)
    | [] => False
  | .esc t, r, S => match S with
    | _ :: S => wpT P L R t r S
    | [] => False
  | .op o t, r, S => o.wp P r fun v => wpT P L R t (r ++ [v]) S
  | .chk c t, r, S => c.wp r (wpT P L R t r S)
  | .ite c t f, r, S => match c.ev r with
    | .v (.bool b) => (b = true → wpT P L R t r S) ∧ (b = false → wpT P L R f r S)
    | _ => False
  | .bind k a b, r, S => wpT P L R a r ((fun vs => vs.length = k → wpT P L R b (r ++ vs) S) :: S)
  | .loop init b, r, S => ∃ (J : Nat → List AV → Prop) (n : Nat), J n (D.evs r init) ∧ ∀ n vs, J n vs → vs.length = init.length → wpT P L R b (r ++ vs) ((fun vs' => ∃ m, m < n ∧ J m vs') :: S)
def escN : Nat → T → T
  | 0, t => t
  | n + 1, t => .esc (escN n t)
/-- open ends are filled; d: how many joins are around -/
def T.fill (k : AX → SS → Option T) : T → Nat → Option T
  | .leaf x s, d => (k x s).map (escN d)
  | .ret d, _ => some (.ret d)
  | .jump vs, d => if d = 0 then none else some (.jump vs)
  | .esc t, d => match d with
    | 0 => none
    | d + 1 => (t.fill k d).map .esc
  | .op o t, d => (t.fill k d).map (.op o)
  | .chk c t, d => (t.fill k d).map (.chk c)
  | .ite c t f, d => match t.fill k d, f.fill k d with
    | some t, some f => some (.ite c t f)
    | _, _ => none
  | .bind m a b, d => match a.fill k (d + 1), b.fill k d with
    | some a, some b => some (.bind m a b)
    | _, _ => none
  | .loop init b, d => (b.fill k (d + 1)).map (.loop init)
def T.leaves : T → List (AX × SS)
  | .leaf x s => [(x, s)]
  | .ret _ => []
  | .jump _ => []
  | .esc t => t.leaves
  | .op _ t => t.leaves
  | .chk _ t => t.leaves
  | .ite _ t f => t.leaves ++ f.leaves
  | .bind _ a b => a.leaves ++ b.leaves
  | .loop _ b => b.leaves
def T.joins : T → Bool
  | .leaf _ _ => false
  | .ret _ => false
  | .jump _ => false
  | .esc t => t.joins
  | .op _ t => t.joins
  | .chk _ t => t.joins
  | .ite _ t f => t.joins || f.joins
  | .bind _ _ _ => true
  | .loop _ _ => true
def wrap : List Node → T → T
  | [], t => t
  | .op o :: r, t => .op o (wrap r t)
  | .chk c :: r, t => .chk c (wrap r t)
end Go.Ab
/-
  THE SYMBOLIC WALK ITSELF: operations, regions, control, loops.
-/
namespace Go.Ab
def opd (s : SS) : Opd → SV
  | .t n => lk s.env n
  | .c a => .d (.c a)
/-- plain values of slots, without references -/
def dsOf : List SV → Option (List D)
  | [] => some []
  | .d x :: l => match dsOf l with
    | some ds => some (x :: ds)
    | none => none
  | _ :: _ => none
def etaOf (kn : List (Nat × Nat)) (ds : List D) : Option Nat :=
  match ds with
  | .cell i 0 :: _ :: _ => if kn.contains (i, ds.length) = true ∧ D.beqs ds ((List.range ds.length).map fun j => .cell i j) = true then some i else none
  | _ => none
def asD (kn : List (Nat × Nat)) : SV → Option (List Node × D)
  | .d x => some ([], x)
  | .agg cs => match dsOf cs with
    | some ds => match etaOf kn ds with
      | some i => some ([.chk (.cells (.x i) ds.length)], .x i)
      | none => some ([], .agg ds)
    | none => none
  | .ip x f => some ([], .ip x f)
  | _ => none
/-- an object that is a row, with these contents -/
def cur (s : SS) (n : Nat) (l : D) : Option (Bool × Nat × Nat) :=
  match s.objs[n]? with
  | some (.row nl e sz l') => if l'.beq l = true then some (nl, e, sz) else none
  | _ => none
def boxOf (s : SS) (n : Nat) : Option (Nat × List SV) :=
  match s.objs[n]? with
  | some (.box e cs) => some (e, cs)
  | _ => none
def nvN : Nat → List Node → Nat
  | nv, [] => nv
  | nv, .op _ :: r => nvN (nv + 1) r
  | nv, .chk _ :: r => nvN nv r
def nx (s : SS) (ns : List Node) (o : PO) : List Node × SV × SS := (ns ++ [.op o], .d (.x (nvN s.nv ns)), { s with nv := nvN s.nv ns + 1 })
def done (s : SS) (ns : List Node) (v : SV) : List Node × SV × SS := (ns, v, { s with nv := nvN s.nv ns })
def chkOf (m : Nat) (x : D) : Node := if m = 1 then .chk (.one x) else .chk (.cells x m)
def chkOnes : List SV → List Node
  | [] => []
  | .d x :: l => .chk (.one x) :: chkOnes l
  | _ :: l => chkOnes l
def noTops : List SV → Bool
  | [] => true
  | .top :: _ => false
  | .agg _ :: _ => false
  | .tup _ :: _ => false
  | _ :: l => noTops l
/-- the m cells of a value -/
def expand (nv m : Nat) (v : SV) : Option (List Node × List SV) :=
  if m = 1 then
    match v with
    | .d x => some ([.chk (.one x)], [.d x])
    | .agg _ => none
    | .tup _ => none
    | .top => none
    | v => some ([], [v])
  else
    match v with
    | .agg cs => if cs.length = m ∧ noTops cs = true then some (chkOnes cs, cs) else none
    | .d (.x i) => some ([.chk (.cells (.x i) m)], (List.range m).map fun j => .d (.cell i j))
    | .d (.agg l) => if l.length = m then some ([.chk (.cells (.agg l) m)], l.map .d) else none
    | .d (.c (.agg l)) => if l.length = m then some ([.chk (.cells (.c (.agg l)) m)], l.map fun a => .d (.c a)) else none
    | .d x => some ([.op (.val x), .chk (.cells (.x nv) m)], (List.range m).map fun j => .d (.cell nv j))
    | _ => none
def xAlloc (s : SS) (t n : Nat) (z : AV) : Option (List Node × SV × SS) :=
  if n = 1 ∧ z.isAgg = false then some ([], .ptr s.objs.length 0, { s with objs := s.objs ++ [.box t [.d (.c z)]] })
  else match z with
    | .agg cs => if n ≠ 1 ∧ cs.length = n then some ([], .ptr s.objs.length 0, { s with objs := s.objs ++ [.box t (cs.map fun a => .d (.c a))] }) else none
    | _ => none
def xBox (s : SS) (t n : Nat) (v : SV) : Option (List Node × SV × SS) :=
  match expand s.nv n v with
  | some (ns, cs) => if cs.length = n then some (ns, .ptr s.objs.length 0, { s with objs := s.objs ++ [.box t cs], nv := nvN s.nv ns }) else none
  | none => none
/-- parts of a struct -/
def xParts (s : SS) : List Node → List SV → List (Nat × Nat × Opd) → Option (List Node × List SV)
  | ns, cs, [] => some (ns, cs)
  | ns, cs, (off, size, x) :: r => match expand (nvN s.nv ns) size (opd s x) with
    | some (ms, vs) => if vs.length = size ∧ off + size ≤ cs.length then xParts s (ns ++ ms) (cs.take off ++ vs ++ cs.drop (off + size)) r else none
    | none => none
/-- a struct: plain, if all cells are -/
def norm (s : SS) (ns : List Node) (cs : List SV) : List Node × SV × SS :=
  match asD s.kn (.agg cs) with
  | some (ms, x) => done s (ns ++ ms) (.d x)
  | none => done s ns (.agg cs)
def xBuild (s : SS) (z : List AV) (ps : List (Nat × Nat × Opd)) : Option (List Node × SV × SS) :=
  match xParts s [] (z.map fun a => .d (.c a)) ps with
  | some (ns, cs) => some (norm s ns cs)
  | none => none
def xElems (s : SS) (m len : Nat) : List (Nat × Opd) → Option (List Node × List (Nat × D))
  | [] => some ([], [])
  | (i, x) :: r => match asD s.kn (opd s x), xElems s m len r with
    | some (ns, d), some (ms, ps) => if i < len then some (ns ++ chkOf m d :: ms, (i, d) :: ps) else none
    | _, _ => none
def newRow (s : SS) (t m : Nat) (q : List Node × SV × SS) : Option (List Node × SV × SS) :=
  match q with
  | (ns, .d l, s') => some (ns, .row s.objs.length l, { s' with objs := s'.objs ++ [.row false t m l] })
  | _ => none
def newRowN (s : SS) (nl : Bool) (t m : Nat) (q : List Node × SV × SS) : Option (List Node × SV × SS) :=
  match q with
  | (ns, .d l, s') => some (ns, .row s.objs.length l, { s' with objs := s'.objs ++ [.row nl t m l] })
  | _ => none
def xBuildSlice (s : SS) (t m len : Nat) (z : AV) (ps : List (Nat × Opd)) : Option (List Node × SV × SS) :=
  match xElems s m len ps with
  | some (ns, ps) => newRow s t m (nx s ns (.mkl z len ps))
  | none => none
/-- a value is read whole -/
def whole (kn : List (Nat × Nat)) (y : D) (m : Nat) : Bool :=
  match y with
  | .x i => kn.contains (i, m)
  | .agg l => decide (l.length = m)
  | _ => false
def xLoad (s : SS) (n : Option Nat) (v : SV) : Option (List Node × SV × SS) :=
  match v with
  | .ptr k f => match boxOf s k with
    | some (_, cs) => match n with
      | none => match cs[f]? with
        | some v => if cs.length = 1 then (if noTops [v] = true then some (chkOnes [v], v, s) else none) else some ([], v, s)
        | none => none
      | some m => if cs.length ≠ 1 ∧ f + m ≤ cs.length then some (norm s [] ((cs.drop f).take m)) else none
    | none => none
  | .ip y f => match n with
    | none => match y with
      | .x i => some ([.chk (.lt y f)], .d (.cell i f), s)
      | .agg l => match l[f]? with
        | some d => some ([], .d d, s)
        | none => none
      | _ => some (.op (.val y) :: [.chk (.lt (.x s.nv) f)], .d (.cell s.nv f), { s with nv := s.nv + 1 })
    | some m => if f = 0 ∧ whole s.kn y m = true then some ([.chk (.cells y m)], .d y, s) else some (nx s [] (.loadc f m y))
  | .rp k l i f => match cur s k l with
    | some _ => some (nx s [] (.get l i f n))
    | none => none
  | .d y => some (nx s [] (.ldp n y))
  | _ => none
/-- a row's contents are written: everything that named them names the new ones -/
def SV.rew (n : Nat) (l l' : D) : SV → SV
  | .row m k => if m = n ∧ k.beq l = true then .row m l' else .row m k
  | .rp m k i f => if m = n ∧ k.beq l = true then .rp m l' i f else .rp m k i f
  | v => v
def xStore (s : SS) (m : Nat) (p y : SV) : Option (List Node × SV × SS) :=
  match p with
  | .ptr k f => match boxOf s k, expand s.nv m y with
    | some (e, cs), some (ns, vs) =>
      if vs.length = m ∧ f + m ≤ cs.length ∧ (m = 1 ∨ cs.length ≠ 1) ∧ (cs.length = 1 → noTops cs = true) then
        some ((if cs.length = 1 then chkOnes cs else []) ++ ns, .top, { s with objs := s.objs.set k (.box e (cs.take f ++ vs ++ cs.drop (f + m))), nv := nvN s.nv ns }) else none
    | _, _ => none
  | .rp k l i f => match cur s k l, asD s.kn y with
    | some (nl, e, sz), some (ns, d) =>
      let l' : D := .x (nvN s.nv (ns ++ [chkOf m d]))
      some (ns ++ [chkOf m d] ++ [.op (.set l i f m d)], .top, { s with env := s.env.map (fun p => (p.1, p.2.rew k l l')), objs := s.objs.set k (.row nl e sz l'), nv := nvN s.nv (ns ++ [chkOf m d]) + 1 })
    | _, _ => none
  | _ => none
def xFaddr (s : SS) (off : Nat) (v : SV) : Option (List Node × SV × SS) :=
  match v with
  | .ptr k f => match boxOf s k with
    | some _ => some ([], .ptr k (f + off), s)
    | none => none
  | .rp k l i f => match cur s k l with
    | some (false, _) => some ([], .rp k l i (f + off), s)
    | some (true, _) => some ([.chk (.idx l i)], .rp k l i (f + off), s)
    | none => none
  | .ip y f => some ([], .ip y (f + off), s)
  | .d y => some (nx s [] (.fap off y))
  | _ => none
def xFld (s : SS) (off : Nat) (n : Option Nat) (v : SV) : Option (List Node × SV × SS) :=
  match v with
  | .agg cs => match n with
    | none => match cs[off]? with
      | some v => some ([], v, s)
      | none => none
    | some m => if off + m ≤ cs.length then some (norm s [] ((cs.drop off).take m)) else none
  | .d (.agg l) => match n with
    | none => match l[off]? with
      | some d => some ([], .d d, s)
      | none => none
    | some _ => some (nx s [] (.fld off n (.agg l)))
  | .d x => some (nx s [] (.fld off n x))
  | _ => none
def xIaddr (s : SS) (m : Nat) (v i : SV) : Option (List Node × SV × SS) :=
  match v, i with
  | .d l, .d i => some (.op (.elem m l i) :: [], .ip (.x s.nv) 0, { s with nv := s.nv + 1 })
  | .row k l, .d i => match cur s k l with
    | some (_, _, sz) => if sz = m then some ([.chk (.idx l i)], .rp k l i 0, s) else none
    | none => none
  | _, _ => none
def xOpt (s : SS) : Option Opd → Option (Option D)
  | none => some none
  | some x => match opd s x with
    | .d d => some (some d)
    | _ => none
def xArgs (s : SS) : List Opd → Option (List Node × List D × Bool)
  | [] => some ([], [], false)
  | x :: r => match xArgs s r with
    | some (ns, ds, b) => match opd s x with
      | .row k l => match cur s k l with
        | some _ => some (ns, .sl l :: ds, true)
        | none => none
      | v => match asD s.kn v with
        | some (ms, d) => some (ms ++ ns, d :: ds, b)
        | none => none
    | none => none
/-- an object that is kept for what is made -/
def kept (s : SS) (k t m : Nat) : Bool :=
  match s.objs[k]? with
  | some (.row true t' m' (.c (.sl []))) => decide (t' = t) && decide (m' = m)
  | _ => false
def xAllocAt (s : SS) (k t n : Nat) (z : AV) : Option (List Node × SV × SS) :=
  if kept s k t n = true then
    if n = 1 ∧ z.isAgg = false then some ([], .ptr k 0, { s with objs := s.objs.set k (.box t [.d (.c z)]) })
    else match z with
      | .agg cs => if n ≠ 1 ∧ cs.length = n then some ([], .ptr k 0, { s with objs := s.objs.set k (.box t (cs.map fun a => .d (.c a))) }) else none
      | _ => none
  else none
def xBoxAt (s : SS) (k t n : Nat) (v : SV) : Option (List Node × SV × SS) :=
  if kept s k t n = true then
    match expand s.nv n v with
    | some (ns, cs) => if cs.length = n then some (ns, .ptr k 0, { s with objs := s.objs.set k (.box t cs), nv := nvN s.nv ns }) else none
    | none => none
  else none
def xBuildAt (s : SS) (k t m len : Nat) (z : AV) (ps : List (Nat × Opd)) : Option (List Node × SV × SS) :=
  if kept s k t m = true then
    match xElems s m len ps with
    | some (ns, ps) => some (ns ++ [.op (.mkl z len ps), .chk (.ne (.x s.nv))], .row k (.x s.nv), { s with objs := s.objs.set k (.row false t m (.x s.nv)), nv := s.nv + 1 })
    | none => none
  else none
/- CALLS THAT REACH WHAT IS OWNED -/
/-- what a signature may say of a slot -/
def SV.pat (n k : Nat) : SV → Bool
  | .d (.x i) => decide (i < n)
  | .d (.c a) => a.noref
  | .row m (.x i) => decide (i < n) && decide (m < k)
  | .ptr m _ => decide (m < k)
  | _ => false
def SO.pat (n k : Nat) : SO → Bool
  | .dead => true
  | .box _ cs => cs.all (SV.pat n k)
  | .row _ _ _ (.x i) => decide (i < n)
  | _ => false
/-- the same with names and objects put in -/
def SV.insP (τ : List D) (σ : Nat → Nat) : SV → SV
  | .d (.x i) => .d (τ.getD i (.c .top))
  | .row m (.x i) => .row (σ m) (τ.getD i (.c .top))
  | .ptr m f => .ptr (σ m) f
  | v => v
def SO.insP (τ : List D) (σ : Nat → Nat) : SO → SO
  | .dead => .dead
  | .box e cs => .box e (cs.map (SV.insP τ σ))
  | .row nl e s (.x i) => .row nl e s (τ.getD i (.c .top))
  | o => o
def SV.patT (n k : Nat) : SV → Bool
  | .tup cs => cs.all (SV.pat n k)
  | .agg cs => cs.all (SV.pat n k)
  | v => v.pat n k
def SV.insT (τ : List D) (σ : Nat → Nat) : SV → SV
  | .tup cs => .tup (cs.map (SV.insP τ σ))
  | .agg cs => .agg (cs.map (SV.insP τ σ))
  | v => v.insP τ σ
def Sig.ok (g : Sig) : Bool :=
  g.args.all (SV.pat g.n g.objs.length) && g.objs.all (SO.pat g.n g.objs.length) && g.objs'.all (SO.pat g.m g.objs'.length) && g.res.patT g.m g.objs'.length && decide (g.objs.length ≤ g.objs'.length)
/-- how a signature fits (what is found is looked at again) -/
abbrev Mt := List (Nat × D) × List (Nat × Nat)
def plainD : SV → Option D
  | .d x => some x
  | .agg cs => (dsOf cs).map .agg
  | .ip x f => some (.ip x f)
  | _ => none
def matchV (kn : List (Nat × Nat)) (p v : SV) (q : Mt) : Mt :=
  match p, v with
  | .d (.x i), v => match asD kn v with
    | some (_, d) => ((i, d) :: q.1, q.2)
    | none => q
  | .row m (.x i), .row k l => ((i, l) :: q.1, (m, k) :: q.2)
  | .ptr m _, .ptr k _ => (q.1, (m, k) :: q.2)
  | _, _ => q
def matchVs (kn : List (Nat × Nat)) : List SV → List SV → Mt → Mt
  | p :: ps, v :: vs, q => matchVs kn ps vs (matchV kn p v q)
  | _, _, q => q
def asgN (l : List (Nat × Nat)) (n : Nat) : Option Nat := (l.find? fun p => p.1 == n).map (·.2)
def asgD (l : List (Nat × D)) (n : Nat) : Option D := (l.find? fun p => p.1 == n).map (·.2)
def matchO (s : SS) (q : Mt) (n : Nat) (p : SO) : Mt :=
  match asgN q.2 n with
  | none => q
  | some k => match p, s.objs[k]? with
    | .box _ cs, some (.box _ ds) => matchVs s.kn cs ds q
    | .row _ _ _ (.x i), some (.row _ _ _ l) => ((i, l) :: q.1, q.2)
    | _, _ => q
def matchOs (s : SS) : Nat → List SO → Mt → Mt
  | _, [], q => q
  | n, p :: ps, q => matchOs s (n + 1) ps (matchO s q n p)
def sigOf (objs : List SO) (σl : List Nat) : Nat → Nat := fun n => if n < σl.length then σl.getD n 0 else objs.length + (n - σl.length)
/-- an argument fits -/
def fitV (kn : List (Nat × Nat)) (τ : List D) (σ : Nat → Nat) (p v : SV) : Option (List Node) :=
  match p with
  | .d (.x i) => match asD kn v with
    | some (ns, d) => if (τ.getD i (.c .top)).beq d = true then some ns else none
    | none => none
  | p => if (p.insP τ σ).beq v = true then some [] else none
def fitVs (kn : List (Nat × Nat)) (τ : List D) (σ : Nat → Nat) : List SV → List SV → Option (List Node)
  | [], [] => some []
  | p :: ps, v :: vs => match fitV kn τ σ p v, fitVs kn τ σ ps vs with
    | some a, some b => some (a ++ b)
    | _, _ => none
  | _, _ => none
def fitOs (s : SS) (τ : List D) (σ : Nat → Nat) : Nat → List SO → Bool
  | _, [] => true
  | n, p :: ps => (match s.objs[σ n]? with
    | some o => (p.insP τ σ).beq o
    | none => false) && fitOs s τ σ (n + 1) ps
def posOf (j : Nat) : List Nat → Nat → Option Nat
  | [], _ => none
  | x :: l, i => if x = j then some i else posOf j l (i + 1)
def nodupN : List Nat → Bool
  | [] => true
  | x :: l => !l.contains x && nodupN l
/-- the names of what a call gives -/
def extD (nv m : Nat) : List D := (List.range m).map fun j => .ext nv j
def newObjs (objs : List SO) (σl : List Nat) (ps : List SO) : List SO :=
  ((List.range objs.length).map fun j => match posOf j σl 0 with
    | some n => ps.getD n .dead
    | none => objs.getD j .dead) ++ ps.drop σl.length
/-- objects whose length stays: what named them names what they hold behind -/
def keepL (g : Sig) (τ : List D) (σ : Nat → Nat) (nv : Nat) : List (Nat × D × D) := g.keep.filterMap fun (n : Nat) => match g.objs[n]?, g.objs'[n]? with
  | some (SO.row _ _ _ (D.x i)), some (SO.row _ _ _ (D.x j)) => some (σ n, τ.getD i (.c .top), .ext nv j)
  | _, _ => none
def rewL (l : List (Nat × D × D)) (v : SV) : SV := l.foldl (fun v q => v.rew q.1 q.2.1 q.2.2) v
def matchSig (s : SS) (g : Sig) (as : List SV) : Option (List D × List Nat) :=
  let q := matchOs s 0 g.objs (matchOs s 0 g.objs (matchVs s.kn g.args as ([], [])))
  match (List.range g.n).mapM (asgD q.1), (List.range g.objs.length).mapM (asgN q.2) with
  | some τ, some σl => some (τ, σl)
  | _, _ => none
def scallG (s : SS) (f : FuncId) (as : List SV) (g : Sig) : Option (List Node × SV × SS) :=
  match matchSig s g as with
  | some (τ, σl) =>
    let σ := sigOf s.objs σl
    match fitVs s.kn τ σ g.args as with
    | some ns =>
      if g.ok = true ∧ σl.length = g.objs.length ∧ nodupN σl = true ∧ σl.all (· < s.objs.length) = true ∧ τ.length = g.n ∧ fitOs s τ σ 0 g.objs = true ∧ nvN s.nv ns = s.nv then
        let e := extD s.nv g.m
        let ks := keepL g τ σ s.nv
        some (ns ++ .op (.scall f g τ) :: ks.map (fun q => .chk (.eql q.2.1 q.2.2)), g.res.insT e σ,
          { s with env := s.env.map (fun p => (p.1, rewL ks p.2)), objs := newObjs s.objs σl (g.objs'.map (SO.insP e σ)), nv := s.nv + 1 })
      else none
    | none => none
  | none => none
def SV.isR : SV → Bool
  | .row _ _ => true
  | .ptr _ _ => true
  | _ => false
/-- signatures with one object, ahead and behind, and nothing else that is owned -/
def Sig.one (g : Sig) : Bool := decide (g.objs.length = 1) && decide (g.objs'.length = 1) && g.objs.all (SO.pat g.n 0) && g.objs'.all (SO.pat g.m 0) && g.res.patT g.m 0 && decide ((g.args.filter SV.isR).length = 1)
def scallL (s : SS) (f : FuncId) (as : List SV) : List Sig → Option (List Node × SV × SS)
  | [] => none
  | g :: gs => match scallG s f as g with
    | some q => some q
    | none => scallL s f as gs
/-- a bound that is left out, or 0 -/
def zeroB (s : SS) : Option Opd → Bool
  | none => true
  | some x => match opd s x with
    | .d (.c (.v (.int _ n))) => decide (n = 0)
    | _ => false
def xCut (s : SS) (m : Nat) (v : SV) (lo hi : Option Opd) : Option (List Node × SV × SS) :=
  match v with
  | .d (.c .nils) => if zeroB s lo = true ∧ zeroB s hi = true then some ([], .d (.c .nils), s) else none
  | .row k l => match cur s k l with
    | some (nl, e, sz) => if sz = m ∧ zeroB s lo = true ∧ hi.isSome = true ∧ zeroB s hi = true then
        some (if nl = true then [.chk (.ne l)] else [], .row s.objs.length (.c (.sl [])), { s with objs := s.objs.set k .dead ++ [.row false e m (.c (.sl []))] }) else none
    | none => none
  | _ => none
def xOp (op : AOp) (s : SS) : Option (List Node × SV × SS) :=
  match op with
  | .appZ t m bytes z a b => match opd s a, opd s b with
    | .d (.c .nils), .d y => some ([.op (.rep bytes z y y), .chk (.ne (.x s.nv))], .row s.objs.length (.x s.nv), { s with objs := s.objs ++ [.row false t m (.x s.nv)], nv := s.nv + 1 })
    | _, _ => none
  | .cut m a lo hi => xCut s m (opd s a) lo hi
  | .stuck => some ([.chk .no], .d (.c .top), s)
  | .buildF _ m len z ps => match xElems s m len ps with
    | some (ns, ps) => some (nx s ns (.mkl z len ps))
    | none => none
  | .pu o args => match o, args with
    | .capN, [a] => match opd s a with
      | .d (.c .nils) => some ([], .d (.c (.v (.int .i64 0))), s)
      | _ => none
    | o, args => match xArgs s args with
      | some (ns, ds, _) => some (nx s ns (.pu o ds))
      | none => none
  | .appS t m bytes a b => match opd s a, opd s b with
    | .row k l, .d y => match cur s k l with
      | some (nl, e, sz) => if e = t ∧ sz = m then some ([.op (.appS m bytes l y)], .row k (.x s.nv), { s with objs := s.objs.set k (.row nl e sz (.x s.nv)), nv := s.nv + 1 }) else none
      | none => none
    | .d (.c .nils), .d y => some ([.op (.appS m bytes (.c (.sl [])) y), .chk (.ne (.x s.nv))], .row s.objs.length (.x s.nv), { s with objs := s.objs ++ [.row false t m (.x s.nv)], nv := s.nv + 1 })
    | _, _ => none
  | .mov a => some ([], opd s a, s)
  | .pick c a b => match opd s c with
    | .d (.c (.v (.bool t))) => some ([], if t then opd s a else opd s b, s)
    | .d c => match asD s.kn (opd s a), asD s.kn (opd s b) with
      | some (na, a), some (nb, b) => some (nx s (na ++ nb) (.pick c a b))
      | _, _ => none
    | _ => none
  | .alloc t n z => xAlloc s t n z
  | .box t n a => xBox s t n (opd s a)
  | .build z ps => xBuild s z ps
  | .allocAt k t n z => xAllocAt s k t n z
  | .boxAt k t n a => xBoxAt s k t n (opd s a)
  | .buildAt k t m len z ps => xBuildAt s k t m len z ps
  | .buildSlice t m len z ps => xBuildSlice s t m len z ps
  | .load n a => xLoad s n (opd s a)
  | .store m a b => xStore s m (opd s a) (opd s b)
  | .bin o a b => match opd s a, opd s b with
    | .d a, .d b => some (nx s [] (.bin o a b))
    | _, _ => none
  | .beq neg a b => match opd s a, opd s b with
    | .d a, .d b => some (nx s [] (.beq neg a b))
    | _, _ => none
  | .un o a => match opd s a with
    | .d a => some (nx s [] (.un o a))
    | _ => none
  | .convInt k a => match opd s a with
    | .d a => some (nx s [] (.conv k a))
    | _ => none
  | .faddr off a => xFaddr s off (opd s a)
  | .fld off n a => xFld s off n (opd s a)
  | .iaddr m a i => xIaddr s m (opd s a) (opd s i)
  | .idxS a i => match opd s a, opd s i with
    | .d a, .d i => some (nx s [] (.idxS a i))
    | _, _ => none
  | .sliceS a lo hi => match opd s a, xOpt s lo, xOpt s hi with
    | .d a, some lo, some hi => some (nx s [] (.sliceS a lo hi))
    | _, _, _ => none
  | .sliceL m a lo hi => match opd s a, xOpt s lo, xOpt s hi with
    | .d a, some lo, some hi => some (nx s [] (.sliceL m a lo hi))
    | _, _, _ => none
  | .mk t m bytes z n c => match opd s n, opd s c with
    | .d n, .d c => newRow s t m (nx s [] (.rep bytes z n c))
    | _, _ => none
  | .lenS a => match opd s a with
    | .d a => some (nx s [] (.lenS a))
    | _ => none
  | .lenL a => match opd s a with
    | .d (.c .nils) => some ([], .d (.c (.v (.int .i64 0))), s)
    | .d a => some (nx s [] (.lenL a))
    | .row k l => match cur s k l with
      | some _ => some (nx s [] (.lenL (.sl l)))
      | none => none
    | _ => none
  | .app t m bytes a b => match opd s a with
    | .row k l => match cur s k l with
      | some (nl, e, sz) => if e = t ∧ sz = m then
          match (match opd s b with
            | .d y => some y
            | .row k' l' => if (cur s k' l').isSome = true then some (.sl l') else none
            | _ => none) with
          | some y => some ([.op (.app m bytes l y)], .row k (.x s.nv), { s with objs := s.objs.set k (.row nl e sz (.x s.nv)), nv := s.nv + 1 })
          | none => none
        else none
      | none => none
    | .d (.c .nils) =>
      match (match opd s b with
        | .d y => some y
        | .row k' l' => if (cur s k' l').isSome = true then some (.sl l') else none
        | _ => none) with
      | some y => some ([.op (.app m bytes (.c (.sl [])) y), .chk (.ne (.x s.nv))], .row s.objs.length (.x s.nv), { s with objs := s.objs ++ [.row false t m (.x s.nv)], nv := s.nv + 1 })
      | none => none
    | _ => none
  | .ext a i => match opd s a with
    | .tup cs => match cs[i]? with
      | some v => some ([], v, s)
      | none => none
    | .d (.x j) => some ([.chk (.tup (.x j) i)], .d (.ext j i), s)
    | _ => none
  | .nilc a => match opd s a with
    | .ptr k f => match boxOf s k with
      | some _ => some ([], .ptr k f, s)
      | none => none
    | .ip y f => some ([], .ip y f, s)
    | .d (.fn f l) => some ([], .d (.fn f l), s)
    | .d x => some ([.chk (.isFn x)], .d x, s)
    | _ => none
  | .mkfn f caps => match xArgs s caps with
    | some (ns, ds, false) => some (done s ns (.d (.fn f ds)))
    | _ => none
  | .pcall f args => match xArgs s args with
    | some (ns, ds, b) => some (nx s ns (.call f ds b))
    | none => none
  | .pcallv g args => match opd s g, xArgs s args with
    | .d (.c (.fn f [])), some (ns, ds, b) => some (nx s ns (.call f ds b))
    | .d (.fn f caps), some (ns, ds, b) => some (nx s ns (.call f (ds ++ caps) b))
    | .d g, some (ns, ds, b) => some (nx s ns (.callv g ds b))
    | _, _ => none
  | .rcall f args => match xArgs s args with
    | some (ns, ds, _) => some (nx s ns (.call f ds true))
    | none => none
  | .fcall nl e m f args => match xArgs s args with
    | some (ns, ds, false) => newRowN s nl e m (nx s ns (.fcall nl e m f ds))
    | _ => none
  | .qcall f args => match xArgs s args with
    | some (ns, ds, false) => some (nx s ns (.call f ds false))
    | _ => none
  | .scall1 gs f args => scallL s f (args.map (opd s)) (gs.filter Sig.one)
  | .scall gs f args => match scallL s f (args.map (opd s)) gs with
    | some q => some q
    | none => match xArgs s args with
      | some (ns, ds, false) => some (nx s ns (.call f ds false))
      | _ => none
  | .qcallv g args => match opd s g, xArgs s args with
    | .d (.c (.fn f [])), some (ns, ds, false) => some (nx s ns (.call f ds false))
    | .d (.fn f caps), some (ns, ds, false) => some (nx s ns (.call f (ds ++ caps) false))
    | .d g, some (ns, ds, false) => some (nx s ns (.callv g ds false))
    | _, _ => none
  | _ => none
/- AHEAD OF AN OPERATION: what may become plain or be made a row -/
/-- a slot's nil slice becomes a row -/
def nilRow (s : SS) (t m k : Nat) : SS :=
  { s with env := s.env.map (fun p => (p.1, if p.1 = k then .row s.objs.length (.c (.sl [])) else p.2)), objs := s.objs ++ [.row true t m (.c (.sl []))] }
def SV.frz (n : Nat) (l : D) : SV → SV
  | .row m k => if m = n ∧ k.beq l = true then .d (.sl l) else .row m k
  | v => v
def SV.frzs (n : Nat) (l : D) : SV → SV
  | .agg cs => .agg (cs.map (SV.frz n l))
  | v => v.frz n l
def SO.frz (n : Nat) (l : D) : SO → SO
  | .box e cs => .box e (cs.map (SV.frz n l))
  | o => o
def frzRow (s : SS) (n : Nat) : SS :=
  match s.objs[n]? with
  | some (.row _ _ _ l) => if l.cl s.nv = true then { s with env := s.env.map (fun p => (p.1, p.2.frzs n l)), objs := (s.objs.map (SO.frz n l)).set n .dead } else s
  | _ => s
def SV.fbx (n : Nat) (a : D) : SV → SV
  | .ptr m f => if m = n then .ip a f else .ptr m f
  | v => v
def SV.fbc (n : Nat) (a : D) : SV → SV
  | .ptr m f => if m = n then .d (.ip a f) else .ptr m f
  | v => v
def SO.fbx (n : Nat) (a : D) : SO → SO
  | .box e cs => .box e (cs.map (SV.fbc n a))
  | o => o
def mkD : List D → D
  | [d] => d
  | ds => .agg ds
def frzBox (s : SS) (n : Nat) : SS :=
  match s.objs[n]? with
  | some (.box _ cs) => match dsOf cs with
    | some ds => if D.cls s.nv ds = true then { s with env := s.env.map (fun p => (p.1, p.2.fbx n (mkD ds))), objs := (s.objs.map (SO.fbx n (mkD ds))).set n .dead } else s
    | none => s
  | _ => s
def SV.rows : SV → List Nat
  | .row n _ => [n]
  | .agg cs => cs.flatMap fun | .row n _ => [n] | _ => []
  | _ => []
def frzOf (s : SS) (v : SV) : SS := v.rows.foldl frzRow s
def frzOps (s : SS) (l : List Opd) : SS := l.foldl (fun s x => frzOf s (opd s x)) s
/-- what a closure takes along -/
def frzCap (s : SS) (x : Opd) : SS :=
  match opd s x with
  | .ptr n _ => match boxOf s n with
    | some (_, cs) => frzBox (cs.foldl frzOf s) n
    | none => s
  | v => frzOf s v
/-- a box that is handed: it is not written any more -/
def frzBoxD : Nat → SS → Nat → SS
  | 0, s, _ => s
  | k + 1, s, n => match boxOf s n with
    | some (_, cs) => frzBox (cs.foldl (fun s v => match v with
      | .ptr m _ => frzBoxD k s m
      | v => frzOf s v) s) n
    | none => s
def frzPtr (s : SS) (x : Opd) : SS :=
  match opd s x with
  | .ptr n _ => frzBoxD 3 s n
  | _ => s
def frzPtrs (s : SS) (l : List Opd) : SS := l.foldl frzPtr s
/-- structs that are handed: their rows are not written any more -/
def frzAggs (s : SS) (l : List Opd) : SS := l.foldl (fun s x => match opd s x with
  | .agg cs => frzOf s (.agg cs)
  | _ => s) s
/-- of what is handed: what a signature wants plain -/
def frzSig (s : SS) (l : List (SV × Opd)) : SS := l.foldl (fun s p => match p.1 with
  | .d _ => frzPtr (frzOf s (opd s p.2)) p.2
  | _ => s) s
def prep (fl : List Nat) (op : AOp) (s : SS) : SS :=
  match op with
  | .app t m _ (.t k) _ => match lk s.env k with
    | .d (.c .nils) => nilRow s t m k
    | _ => s
  | .appS t m _ (.t k) _ => match lk s.env k with
    | .d (.c .nils) => nilRow s t m k
    | _ => s
  | .sliceL _ a _ _ => frzOf s (opd s a)
  | .buildSlice _ _ _ _ ps => frzOps s (ps.map (·.2))
  | .store _ a b => match opd s a with
    | .rp _ _ _ _ => frzOf s (opd s b)
    | _ => s
  | .mkfn _ caps => caps.foldl frzCap s
  | .pcall f args => if fl.contains f = true then frzPtrs (frzAggs s args) args else frzPtrs (frzOps s args) args
  | .pcallv _ args => frzPtrs (frzOps s args) args
  | .fcall _ _ _ _ args => frzPtrs (frzOps s args) args
  | .pick _ a b => frzOps s [a, b]
  | .scall gs f args => if (scallL s f (args.map (opd s)) gs).isSome = true then s else match gs with
    | g :: _ => frzSig s (g.args.zip args)
    | [] => s
  | _ => s
/-- ahead of a drawn region: what its operations are handed -/
def frzAll (s : SS) (l : List SV) : SS := l.foldl (fun s v => match v with
  | .ptr m _ => frzBoxD 3 s m
  | v => frzOf s v) s
def PO.cl (nv : Nat) (o : PO) : Bool :=
  match o with
  | .val x => x.cl nv
  | .pick c a b => c.cl nv && a.cl nv && b.cl nv
  | .bin _ a b => a.cl nv && b.cl nv
  | .beq _ a b => a.cl nv && b.cl nv
  | .un _ a => a.cl nv
  | .conv _ a => a.cl nv
  | .elem _ l i => l.cl nv && i.cl nv
  | .fld _ _ a => a.cl nv
  | .loadc _ _ a => a.cl nv
  | .idxS a i => a.cl nv && i.cl nv
  | .sliceS a _ _ => a.cl nv
  | .sliceL _ a _ _ => a.cl nv
  | .lenS a => a.cl nv
  | .lenL a => a.cl nv
  | .mkl z _ ps => z.noref && ps.all (fun p => p.2.cl nv)
  | .rep _ z _ _ => z.noref
  | .app _ _ l y => l.cl nv && y.cl nv
  | .get l _ _ _ => l.cl nv
  | .set l _ _ _ y => l.cl nv && y.cl nv
  | .call _ as _ => D.cls nv as
  | .callv g as _ => g.cl nv && D.cls nv as
  | .ldp _ a => a.cl nv
  | .fap _ a => a.cl nv
  | .pu _ ds => D.cls nv ds
  | .appS _ _ l y => l.cl nv && y.cl nv
  | .fcall _ _ _ _ ds => D.cls nv ds
  | .scall _ _ ds => D.cls nv ds
def nodesCl : Nat → List Node → Bool
  | _, [] => true
  | nv, .op o :: r => o.cl nv && nodesCl (nv + 1) r
  | nv, .chk _ :: r => nodesCl nv r
abbrev opdOk : Opd → Bool := Opd.okc
/-- constants that an operation carries have no references -/
def AOp.okc : AOp → Bool
  | .box _ _ a => opdOk a
  | .boxAt _ _ _ a => opdOk a
  | .allocAt _ _ _ z => z.noref
  | .buildAt _ _ _ _ z ps => z.noref && ps.all (fun p => p.2.okc)
  | .build z ps => AV.norefs z && ps.all (fun p => opdOk p.2.2)
  | .store _ _ a => opdOk a
  | _ => true
def kns : Nat → List Node → List (Nat × Nat)
  | _, [] => []
  | nv, .chk (.cells (.x i) m) :: r => (i, m) :: kns nv r
  | nv, .op (.elem m _ _) :: r => (nv, m) :: kns (nv + 1) r
  | nv, .op (.loadc _ m _) :: r => (nv, m) :: kns (nv + 1) r
  | nv, .op (.fld _ (some m) _) :: r => (nv, m) :: kns (nv + 1) r
  | nv, .op _ :: r => kns (nv + 1) r
  | nv, _ :: r => kns nv r
def xStep (op : AOp) (s : SS) : Option (List Node × SV × SS) :=
  if s.cl = true ∧ op.okc = true then
    match xOp op s with
    | some (ns, v, s') => if nodesCl s.nv ns = true ∧ nvN s.nv ns = s'.nv ∧ v.cl s'.nv = true ∧ s'.cl = true then some (ns, v, { s' with kn := kns s.nv ns ++ s'.kn }) else none
    | none => none
  else none
def pre (fl : List Nat) (wk : Bool) (op : AOp) (s : SS) : SS := if wk = true then prep fl op s else s
def xOps (fl : List Nat) (wk : Bool) : List AOper → SS → Option T
  | [], s => some (.leaf .normal s)
  | o :: r, s => match o.guard with
    | none => match xStep o.op (pre fl wk o.op s) with
      | some (ns, v, s') => (xOps fl wk r (s'.setD o.dst v)).map (wrap ns)
      | none => none
    | some (g, want) => match lk s.env g with
      | .d (.c (.v (.bool b))) =>
        if b = want then
          match lk (pre fl wk o.op s).env g with
          | .d (.c (.v (.bool b'))) => if b' = want then
              match xStep o.op (pre fl wk o.op s) with
              | some (ns, v, s') => (xOps fl wk r (s'.setD o.dst v)).map (wrap ns)
              | none => none
            else none
          | _ => none
        else xOps fl wk r (s.setD o.dst un)
      | .d (.c (.tup [])) => xOps fl wk r (s.setD o.dst un)
      | .d _ => match lk (pre fl wk o.op s).env g with
        | .d c =>
          match xStep o.op ((pre fl wk o.op s).set g (.d (.c (.v (.bool want))))) with
          | some (ns, v, s') =>
            match xOps fl wk r (s'.setD o.dst v), xOps fl wk r (((pre fl wk o.op s).set g (.d (.c (.v (.bool (!want)))))).setD o.dst un) with
            | some t1, some t2 => some (if want = true then .ite c (wrap ns t1) t2 else .ite c t2 (wrap ns t1))
            | _, _ => none
          | none => none
        | _ => none
      | _ => none
/- REGIONS THAT DRAW THEIR ORDER -/
def refsS : SV → List Nat
  | .row n _ => [n]
  | .ptr n _ => [n]
  | .rp n _ _ _ => [n]
  | _ => []
def rfS (s : SS) : Opd → List Nat
  | .t n => refsS (lk s.env n)
  | .c a => refs a
def labS (op : AOp) (s : SS) : Lab := labG op (rfS s) s.objs.length
def xOpsL (rows : List (List Nat)) (all : List AOper) : List AOper → List Lab → SS → Option T
  | [], acc, s => if drawOkL rows (all.zip acc) = true then some (.leaf .normal s) else none
  | o :: r, acc, s => match o.guard with
    | none => match xStep o.op s with
      | some (ns, v, s') => (xOpsL rows all r (acc ++ [labS o.op s]) (s'.setD o.dst v)).map (wrap ns)
      | none => none
    | some (g, want) => match lk s.env g with
      | .d (.c (.v (.bool b))) =>
        if b = want then
          match xStep o.op s with
          | some (ns, v, s') => (xOpsL rows all r (acc ++ [labS o.op s]) (s'.setD o.dst v)).map (wrap ns)
          | none => none
        else xOpsL rows all r (acc ++ [⟨[], .nop⟩]) (s.setD o.dst un)
      | .d (.c (.tup [])) => xOpsL rows all r (acc ++ [⟨[], .nop⟩]) (s.setD o.dst un)
      | .d c =>
        match xStep o.op (s.set g (.d (.c (.v (.bool want))))) with
        | some (ns, v, s') =>
          match xOpsL rows all r (acc ++ [labS o.op (s.set g (.d (.c (.v (.bool want)))))]) (s'.setD o.dst v), xOpsL rows all r (acc ++ [⟨[], .nop⟩]) ((s.set g (.d (.c (.v (.bool (!want)))))).setD o.dst un) with
          | some t1, some t2 => some (if want = true then .ite c (wrap ns t1) t2 else .ite c t2 (wrap ns t1))
          | _, _ => none
        | none => none
      | _ => none
/-- where the operations of a region stand still: what the operation there is handed (nothing depends on it) -/
def AOp.handed : AOp → List Opd
  | .qcall _ l | .rcall _ l | .fcall _ _ _ _ l | .pcall _ l | .mkfn _ l => l
  | .qcallv x l => x :: l
  | .buildF _ _ _ _ ps => ps.map (·.2)
  | .sliceL _ x _ _ => [x]
  | .pick _ a b => [a, b]
  | .store _ _ y => [y]
  | _ => []
def failAt : List AOper → SS → List SV
  | [], _ => []
  | o :: r, s => match o.guard with
    | none => match xStep o.op s with
      | some (_, v, s') => failAt r (s'.setD o.dst v)
      | none => o.op.handed.map (opd s)
    | some (g, want) => match lk s.env g with
      | .d (.c (.v (.bool b))) => if b = want then (match xStep o.op s with
          | some (_, v, s') => failAt r (s'.setD o.dst v)
          | none => o.op.handed.map (opd s)) else failAt r (s.setD o.dst un)
      | .d (.c (.tup [])) => failAt r (s.setD o.dst un)
      | .d _ => match xStep o.op (s.set g (.d (.c (.v (.bool want))))) with
        | some (_, v, s') => match failAt r (s'.setD o.dst v) with
          | [] => failAt r ((s.set g (.d (.c (.v (.bool (!want)))))).setD o.dst un)
          | l => l
        | none => o.op.handed.map (opd s)
      | _ => []
/-- what is made in a drawn region gets names that are kept for it -/
def keepFor : List AOper → SS → List AOper × SS
  | [], s => ([], s)
  | o :: r, s => match o.op with
    | .alloc t m z => let q := keepFor r { s with objs := s.objs ++ [.row true t m (.c (.sl []))] }; ({ o with op := .allocAt s.objs.length t m z } :: q.1, q.2)
    | .box t m x => let q := keepFor r { s with objs := s.objs ++ [.row true t m (.c (.sl []))] }; ({ o with op := .boxAt s.objs.length t m x } :: q.1, q.2)
    | .buildSlice t m (len + 1) z ps => let q := keepFor r { s with objs := s.objs ++ [.row true t m (.c (.sl []))] }; ({ o with op := .buildAt s.objs.length t m (len + 1) z ps } :: q.1, q.2)
    | _ => let q := keepFor r s; (o :: q.1, q.2)
/-- a drawn region: what it is handed is made plain ahead, where that is wanted -/
def draws (rows : List (List Nat)) (ops : List AOper) : Nat → SS → Option (SS × List AOper × T)
  | 0, _ => none
  | n + 1, s => match xOpsL rows ops ops [] s with
    | some t => some (s, ops, t)
    | none => match failAt ops s with
      | [] => match xOpsL rows (keepFor ops s).1 (keepFor ops s).1 [] (keepFor ops s).2 with
        | some t => some ((keepFor ops s).2, (keepFor ops s).1, t)
        | none => none
      | l => draws rows ops n (frzAll s l)
/- JOINS: a state that holds for all ends; what changes gets names of its own -/
def D.inst (base : Nat) (vs : List D) : D → D
  | .x i => if i < base then .x i else vs.getD (i - base) (.c .top)
  | d => if d.cl base = true then d else .c .top
def SV.inst (base : Nat) (vs : List D) : SV → SV
  | .d x => .d (x.inst base vs)
  | .row n l => .row n (l.inst base vs)
  | .ptr n f => .ptr n f
  | .rp n l i f => .rp n (l.inst base vs) (i.inst base vs) f
  | .ip x f => .ip (x.inst base vs) f
  | .agg cs => if SV.cls base cs = true then .agg cs else .d (.c .top)
  | .tup cs => if SV.cls base cs = true then .tup cs else .d (.c .top)
  | .top => .top
def SO.inst (base : Nat) (vs : List D) : SO → SO
  | .dead => .dead
  | .box e cs => .box e (cs.map (SV.inst base vs))
  | .row nl e s l => .row nl e s (l.inst base vs)
/-- plain: without checks -/
def D0 : SV → Option D
  | .d x => some x
  | _ => none
def findV (base j : Nat) : List (SV × SV) → Option D
  | [] => none
  | (a, b) :: r => match a with
    | .d (.x i) => if i = base + j then (match D0 b with | some d => some d | none => findV base j r) else findV base j r
    | .row _ (.x i) => if i = base + j then (match b with | .row _ l => some l | _ => findV base j r) else findV base j r
    | _ => findV base j r
def cellPairs : SO → SO → List (SV × SV)
  | .box _ cs, .box _ ds => cs.zip ds
  | .row _ _ _ l, .row _ _ _ k => [(.d l, .d k)]
  | _, _ => []
/-- cells that the target does not know any more -/
def topFor : List SV → List SV → List SV
  | .top :: ts, _ :: cs => .top :: topFor ts cs
  | _ :: ts, c :: cs => c :: topFor ts cs
  | _, cs => cs
def blurTo (o : SO) : Option SO → SO
  | some .dead => .dead
  | some (.box _ ts) => match o with
    | .box e cs => if 2 ≤ cs.length then .box e (topFor ts cs) else .box e cs
    | o => o
  | _ => o
/-- objects that the target does not know any more -/
def killFor (t : List SO) : Nat → List SO → List SO
  | _, [] => []
  | k, o :: r => blurTo o t[k]? :: killFor t (k + 1) r
/-- what is handed to a join: values for the target's new names -/
def coerce (n0 base : Nat) (s t : SS) : Option (List D) :=
  let pairs := ((t.objs.zip s.objs).flatMap fun p => cellPairs p.1 p.2) ++ t.env.map fun p => (p.2, lk s.env p.1)
  match (List.range (t.nv - base)).mapM fun j => findV base j pairs with
  | none => none
  | some vs =>
    let objs := killFor t.objs 0 s.objs
    if n0 ≤ t.objs.length ∧ base ≤ t.nv ∧ base ≤ s.nv ∧ t.objs.length ≤ objs.length ∧ D.cls s.nv vs = true ∧ t.cl = true ∧
      (t.env.all fun p => (p.2.inst base vs).beq (lk s.env p.1) && p.2.sc t.objs.length) = true ∧
      ((t.objs.zip objs).all fun p => (p.1.inst base vs).beq p.2 && p.1.sc t.objs.length) = true then some vs else none
/- the choice of a join's state (nothing depends on how it is chosen) -/
def allSame (v : SV) : List SV → Bool
  | [] => true
  | w :: l => v.beq w && allSame v l
def allD : List SV → Bool
  | [] => true
  | .d _ :: l => allD l
  | _ :: _ => false
/-- a cell or slot in all of the states; next: the next name -/
def allRow (n : Nat) : List SS → List SV → Bool
  | s :: ss, .row m l :: vs => decide (m = n) && (cur s m l).isSome && allRow n ss vs
  | [], [] => true
  | _, _ => false
def genC (L : List SS) (base next : Nat) (vs : List SV) : SV × Nat :=
  match vs with
  | .row n l :: _ => if allRow n L vs = true then (.row n (.c .top), next) else (.top, next)
  | v :: r =>
    if allSame v r = true ∧ v.cl base = true then (v, next)
    else if allD vs = true then (.d (.x next), next + 1)
    else (.top, next)
  | [] => (.top, next)
def genV (base next : Nat) (vs : List SV) : SV × Nat :=
  match vs with
  | [] => (.top, next)
  | v :: r =>
    if allSame v r = true ∧ v.cl base = true then (v, next)
    else if allD vs = true then (.d (.x next), next + 1)
    else (.top, next)
def genVs (L : List SS) (base : Nat) : Nat → List (List SV) → List SV × Nat
  | next, [] => ([], next)
  | next, vs :: r =>
    let (v, n1) := genC L base next vs
    let (l, n2) := genVs L base n1 r
    (v :: l, n2)
def nthCells (k : Nat) (l : List SO) : List SV := l.map fun | .box _ cs => cs.getD k .top | _ => .top
def genO (L : List SS) (base next : Nat) (os : List SO) : SO × Nat :=
  match os with
  | .box e cs :: r => if r.all (fun | .box e' ds => decide (e = e') && decide (ds.length = cs.length) | _ => false) = true then
      let (l, n) := genVs L base next ((List.range cs.length).map fun k => nthCells k os)
      (.box e l, n) else (.dead, next)
  | .row nl e s l :: r => if r.all (fun | .row nl' e' s' _ => decide (nl = nl') && decide (e = e') && decide (s = s') | _ => false) = true then
      (if r.all (fun | .row _ _ _ k => l.beq k | _ => false) = true ∧ l.cl base = true then (.row nl e s l, next) else (.row nl e s (.x next), next + 1)) else (.dead, next)
  | _ => (.dead, next)
def genOs (L : List SS) (base : Nat) : Nat → List (List SO) → List SO × Nat
  | next, [] => ([], next)
  | next, os :: r =>
    let (o, n1) := genO L base next os
    let (l, n2) := genOs L base n1 r
    (o :: l, n2)
def minLen : List SS → Nat
  | [] => 0
  | [s] => s.objs.length
  | s :: r => min s.objs.length (minLen r)
def isCur (s : SS) : SV → Bool
  | .row n l => (cur s n l).isSome
  | _ => false
/-- a slot: rows that are up to date in all states stay rows -/
def genE (base : Nat) (objs : List SO) (L : List SS) : Nat → List Nat → List (Nat × SV) × Nat
  | next, [] => ([], next)
  | next, t :: r =>
    let vs := L.map fun s => lk s.env t
    let q : SV × Nat := match vs with
      | .row n _ :: _ =>
        if (L.all fun s => match lk s.env t with | .row m l => decide (m = n) && (cur s m l).isSome | _ => false) = true then
          (match objs[n]? with | some (.row _ _ _ l) => (.row n l, next) | _ => (.top, next)) else (.top, next)
      | _ => genV base next vs
    let q : SV × Nat := if q.1.sc objs.length = true then q else (.top, q.2)
    let (l, n2) := genE base objs L q.2 r
    match q.1 with
    | .top => (l, n2)
    | v => ((t, v) :: l, n2)
def fixC (objs : List SO) : SV → SV
  | .row n (.c .top) => match objs[n]? with | some (.row _ _ _ l) => .row n l | _ => .top
  | v => v
def fixO (objs : List SO) : SO → SO
  | .box e cs => .box e (cs.map (fixC objs))
  | o => o
def gen (base : Nat) (L : List SS) : SS :=
  match L with
  | [] => default
  | s :: _ =>
    let (objs0, n1) := genOs L base base ((List.range (minLen L)).map fun k => L.map fun s => s.objs.getD k .dead)
    let objs := objs0.map (fixO objs0)
    let (env, n2) := genE base objs L n1 (s.env.map (·.1))
    ⟨env, objs, n2, s.kn.filter fun p => decide (p.1 < base)⟩
/-- slots (and cells of boxes) that are nil here, and rows in another state -/
def convEnv (s : SS) (t : SS) : Option (Nat × Nat × Nat) :=
  s.env.findSome? fun p => match p.2 with
    | .d (.c .nils) => match lk t.env p.1 with
      | .row n l => match cur t n l with
        | some (_, e, m) => some (p.1, e, m)
        | none => none
      | _ => none
    | _ => none
def convCell (t : SS) (k : Nat) : Nat → List SV → Option (Nat × Nat × Nat × Nat)
  | _, [] => none
  | j, v :: r => match v with
    | .d (.c .nils) => match boxOf t k with
      | some (_, ds) => match ds.getD j .top with
        | .row n l => match cur t n l with
          | some (_, e, m) => some (k, j, e, m)
          | none => convCell t k (j + 1) r
        | _ => convCell t k (j + 1) r
      | none => none
    | _ => convCell t k (j + 1) r
def convObjs (t : SS) : Nat → List SO → Option (Nat × Nat × Nat × Nat)
  | _, [] => none
  | k, o :: r => match o with
    | .box _ cs => match convCell t k 0 cs with
      | some q => some q
      | none => convObjs t (k + 1) r
    | _ => convObjs t (k + 1) r
/-- a cell's nil slice becomes a row -/
def nilCell (s : SS) (k j t m : Nat) : SS :=
  match boxOf s k with
  | some (e, cs) => { s with objs := s.objs.set k (.box e (cs.set j (.row s.objs.length (.c (.sl []))))) ++ [.row true t m (.c (.sl []))] }
  | none => s
inductive Conv where
  | slot (k t m : Nat)
  | cell (k j t m : Nat)
  | fbx (n : Nat)
  | frow (n : Nat)
/-- boxes and rows that are plain at another end -/
def convFrz (s : SS) (t : SS) : Option Conv :=
  s.env.findSome? fun p => match p.2 with
    | .ptr n _ => match lk t.env p.1 with
      | .ip _ _ => some (.fbx n)
      | _ => none
    | .row n l => match lk t.env p.1 with
      | .d _ => if (cur s n l).isSome = true then some (.frow n) else none
      | _ => none
    | _ => none
def convOf (s : SS) (L : List SS) : Option Conv :=
  match L.findSome? (convEnv s) with
  | some (k, t, m) => some (.slot k t m)
  | none => match L.findSome? (fun t => convObjs t 0 s.objs) with
    | some (k, j, t, m) => some (.cell k j t m)
    | none => L.findSome? (convFrz s)
def Conv.run (s : SS) : Conv → SS
  | .slot k t m => match lk s.env k with
    | .d (.c .nils) => nilRow s t m k
    | _ => s
  | .cell k j t m => match boxOf s k with
    | some (_, cs) => match cs[j]? with
      | some (.d (.c .nils)) => nilCell s k j t m
      | _ => s
    | none => s
  | .fbx n => match boxOf s n with
    | some (_, cs) => frzBox (cs.foldl frzOf s) n
    | none => s
  | .frow n => frzRow s n
def normals (t : T) : List SS := t.leaves.filterMap fun p => match p.1 with | .normal => some p.2 | _ => none
def sameSS (a b : SS) : Bool :=
  decide (a.nv = b.nv) && decide (a.env.length = b.env.length) && decide (a.objs.length = b.objs.length) &&
  ((a.env.zip b.env).all fun p => decide (p.1.1 = p.2.1) && p.1.2.beq p.2.2) && ((a.objs.zip b.objs).all fun p => p.1.beq p.2)
def keepS (live : List Nat) (s : SS) : SS := { s with env := live.filterMap fun t => match lk s.env t with | .top => none | v => some (t, v) }
/-- a loop's head: ends of the body are looked at until nothing new changes -/
def headOf (body : SS → Option T) : Nat → SS → SS → Option (SS × SS × T)
  | 0, _, _ => none
  | n + 1, s, h => match body h with
    | none => none
    | some t =>
      match convOf s (normals t) with
      | some c => if sameSS (c.run s) s = true then none else headOf body n (c.run s) (c.run s)
      | none =>
        if sameSS h (gen s.nv (s :: normals t)) = true then some (s, h, t) else headOf body n s (gen s.nv (s :: normals t))
def ACode.isWeak : ACode → Bool
  | .weak _ => true
  | _ => false
def ACode.drawn : ACode → Option (List (List Nat) × List AOper)
  | .region (some rows) ops => some (rows, ops)
  | _ => none
def ACode.isCond : ACode → Bool
  | .cond _ _ _ => true
  | _ => false
/-- slots that are nil ahead and rows at some of several ends become rows ahead -/
def convLoop (body : SS → Option T) : Nat → SS → Option (SS × T)
  | 0, _ => none
  | n + 1, s => match body s with
    | none => none
    | some t =>
      if 2 ≤ (normals t).length then
        match convOf s (normals t) with
        | some c => convLoop body n (c.run s)
        | none => some (s, t)
      else some (s, t)
/-- a join would forget a slot that is a row at all ends, though not the same one: then what comes behind is walked at each end -/
def lossy (L : List SS) (h : SS) : Bool :=
  match L with
  | s :: _ :: _ => s.env.any fun p => (match lk h.env p.1 with | .top => true | _ => false) && L.all fun s' => isCur s' (lk s'.env p.1)
  | _ => false
def xC (n0 : Nat) (fl : List Nat) : ACode → SS → Option T
  | .skip, s => some (.leaf .normal s)
  | .region none ops, s => xOps fl false ops s
  | .region (some rows) ops, s => xOpsL rows ops ops [] s
  | .regionW ops, s => xOps fl true ops s
  | .seq a b, s => match xC n0 fl a s with
    | none => none
    | some t0 =>
      let L := normals t0
      if b.isWeak = true ∧ ((t0.joins = true ∧ 1 ≤ L.length) ∨ 2 ≤ L.length) ∧ lossy L (gen s.nv L) = false then
        let h := gen s.nv L
        match t0.fill (fun x s' => match x with
          | .normal => (coerce n0 s.nv s' h).map .jump
          | x => some (.esc (.leaf x s'))) 0, xC n0 fl b h with
        | some t1, some t2 => some (.bind (h.nv - s.nv) t1 t2)
        | _, _ => none
      else t0.fill (fun x s' => match x with | .normal => xC n0 fl b s' | x => some (.leaf x s')) 0
  | .cond c t f, s => match opd s c with
    | .d (.c (.v (.bool b))) => if b = true then xC n0 fl t s else xC n0 fl f s
    | .d c => match xC n0 fl t s, xC n0 fl f s with
      | some t1, some t2 => if s.cl = true then some (.ite c t1 t2) else none
      | _, _ => none
    | _ => none
  | .block id b, s => match xC n0 fl b s with
    | none => none
    | some t => t.fill (fun x s' => match x with
      | .exit i => some (if i = id then .leaf .normal s' else .leaf (.exit i) s')
      | x => some (.leaf x s')) 0
  | .loop b, s => match headOf (xC n0 fl b) 8 s s with
    | none => none
    | some (s1, h, t) => match coerce n0 s1.nv s1 h with
      | some init => match t.fill (fun x s' => match x with
          | .normal => (coerce n0 s1.nv s' h).map .jump
          | x => some (.esc (.leaf x s'))) 0 with
        | some t1 => some (.loop init t1)
        | none => none
      | none => none
  | .exit id, s => some (.leaf (.exit id) s)
  | .ret, s => some (.leaf .ret s)
  | .keep live c, s => match xC n0 fl c s with
    | none => none
    | some t => t.fill (fun x s' => match x with
      | .normal => some (.leaf .normal (keepS live s'))
      | x => some (.leaf x s')) 0
  | .weak c, s => if c.isCond = true then (match convLoop (xC n0 fl c) 6 s with
      | some q => some q.2
      | none => none) else match c.drawn with
        | some q => (draws q.1 q.2 6 s).map (·.2.2)
        | none => xC n0 fl c s
/- the code with weakenings wherever they may help -/
def ACode.weaken : ACode → ACode
  | .region none ops => .regionW ops
  | .region (some rows) ops => .weak (.region (some rows) ops)
  | .seq a b => .seq a.weaken (.weak b.weaken)
  | .cond c t f => .weak (.cond c t.weaken f.weaken)
  | .block id b => .block id b.weaken
  | .loop b => .loop b.weaken
  | .keep l c => .keep l c.weaken
  | .weak c => .weak c.weaken
  | c => c
def resOf (s : SS) : ARes → Option SV
  | .tmp t => some (lk s.env t)
  | .cell t n => match lk s.env t with
    | .ptr k 0 => match boxOf s k with
      | some (_, cs) => match n with
        | none => none
        | some m => if cs.length = m ∧ m ≠ 1 then some (.agg cs) else none
      | none => none
    | _ => none
/-- a result: rows are not written any more -/
def finV (s : SS) : SV → Option D
  | .d x => some x
  | .row n l => if (cur s n l).isSome = true then some (.sl l) else none
  | _ => none
def finVs (s : SS) : List SV → Option (List D)
  | [] => some []
  | v :: r => match finV s v, finVs s r with
    | some d, some ds => some (d :: ds)
    | _, _ => none
def finR (s : SS) : SV → Option D
  | .agg cs => (finVs s cs).map .agg
  | v => finV s v
def finRs (s : SS) : List ARes → Option (List D)
  | [] => some []
  | r :: rs => match resOf s r with
    | some v => match finR s v, finRs s rs with
      | some d, some ds => some (d :: ds)
      | _, _ => none
    | none => none
/- a function that reaches what is owned, by its signature -/
def entrySig (g : Sig) : SS := ⟨(List.range g.args.length).map fun i => (i, g.args.getD i .top), g.objs, g.n, []⟩
/-- the results, as one -/
def resSV (s : SS) : List ARes → Option (List SV)
  | [] => some []
  | r :: rs => match resOf s r, resSV s rs with
    | some v, some vs => some (v :: vs)
    | _, _ => none
def packS : List SV → SV
  | [v] => v
  | vs => .tup vs
def plainS (p v : SV) : SV :=
  match p with
  | .d _ => match plainD v with
    | some d => .d d
    | none => v
  | _ => v
def plainT (p v : SV) : SV :=
  match p, v with
  | .tup ps, .tup vs => .tup ((List.range vs.length).map fun i => plainS (ps.getD i .top) (vs.getD i .top))
  | .agg ps, .agg vs => .agg ((List.range vs.length).map fun i => plainS (ps.getD i .top) (vs.getD i .top))
  | p, v => plainS p v
def finCand (g : Sig) (s : SS) (v : SV) : Option (List D × List Nat) :=
  let q0 : Mt := ([], (List.range g.objs.length).map fun n => (n, n))
  let q1 := match g.res, v with
    | .tup ps, .tup ws => matchVs [] ps ws q0
    | .agg ps, .agg ws => matchVs [] ps ws q0
    | p, v => matchV [] p v q0
  let q := matchOs s 0 g.objs' (matchOs s 0 g.objs' q1)
  match (List.range g.m).mapM (asgD q.1), (List.range g.objs'.length).mapM (asgN q.2) with
  | some τ, some σl => some (τ, σl)
  | _, _ => none
def finMap (s : SS) (σl : List Nat) : Nat → Nat := fun n => if n < σl.length then σl.getD n 0 else s.objs.length + n
/-- the end of such a function: the values of the names behind -/
def finSig (g : Sig) (rs : List ARes) (s : SS) : Option (List D × List Nat) :=
  match resSV s rs with
  | none => none
  | some vs => match finCand g s (plainT g.res (packS vs)) with
    | none => none
    | some (τ, σl) =>
      if s.cl = true ∧ g.ok = true ∧ (g.res.insT τ (finMap s σl)).beq (plainT g.res (packS vs)) = true ∧ σl.length = g.objs'.length ∧ nodupN σl = true ∧ (List.range g.objs.length).all (fun n => decide (finMap s σl n = n)) = true ∧
        fitOs s τ (finMap s σl) 0 g.objs' = true ∧ τ.length = g.m ∧ D.cls s.nv τ = true then some (τ, σl) else none
end Go.Ab
/-
  NAMES AND THEIR VALUES: more names change nothing; equal by test is equal.
-/
namespace Go.Ab
theorem getD_left {r r' : List AV} {i : Nat} (h : i < r.length) : (r ++ r').getD i .top = r.getD i .top := by
  simp [List.getD, List.getElem?_append_left h]
mutual
theorem D.ev_more {r r' : List AV} : ∀ (d : D), d.cl r.length = true → d.ev (r ++ r') = d.ev r
  | .x i, h => by simp only [D.cl, decide_eq_true_eq] at h; simp only [D.ev, getD_left h]
  | .c a, h => rfl
  | .cell i j, h => by simp only [D.cl, decide_eq_true_eq] at h; simp only [D.ev, getD_left h]
  | .ext i j, h => by simp only [D.cl, decide_eq_true_eq] at h; simp only [D.ev, getD_left h]
  | .sl l, h => by simp only [D.cl] at h; simp only [D.ev, D.ev_more l h]
  | .agg l, h => by simp only [D.cl] at h; simp only [D.ev, D.evs_more l h]
  | .fn f l, h => by simp only [D.cl] at h; simp only [D.ev, D.evs_more l h]
  | .ip d f, h => by simp only [D.cl] at h; simp only [D.ev, D.ev_more d h]
theorem D.evs_more {r r' : List AV} : ∀ (l : List D), D.cls r.length l = true → D.evs (r ++ r') l = D.evs r l
  | [], _ => rfl
  | d :: l, h => by
    simp only [D.cls, Bool.and_eq_true] at h
    simp only [D.evs, D.ev_more d h.1, D.evs_more l h.2]
end
mutual
theorem SV.ev_more {r r' : List AV} : ∀ (v : SV), v.cl r.length = true → v.ev (r ++ r') = v.ev r
  | .d x, h => D.ev_more x h
  | .row n l, h => by simp only [SV.cl] at h; simp only [SV.ev, D.ev_more l h]
  | .ptr n f, h => rfl
  | .rp n l i f, h => by simp only [SV.cl, Bool.and_eq_true] at h; simp only [SV.ev, D.ev_more l h.1, D.ev_more i h.2]
  | .ip x f, h => by simp only [SV.cl] at h; simp only [SV.ev, D.ev_more x h]
  | .agg cs, h => by simp only [SV.cl] at h; simp only [SV.ev, SV.evs_more cs h]
  | .tup cs, h => by simp only [SV.cl] at h; simp only [SV.ev, SV.evs_more cs h]
  | .top, h => rfl
theorem SV.evs_more {r r' : List AV} : ∀ (l : List SV), SV.cls r.length l = true → SV.evs (r ++ r') l = SV.evs r l
  | [], _ => rfl
  | v :: l, h => by
    simp only [SV.cls, Bool.and_eq_true] at h
    simp only [SV.evs, SV.ev_more v h.1, SV.evs_more l h.2]
end
theorem SO.ev_more {r r' : List AV} (o : SO) (h : o.cl r.length = true) : o.ev (r ++ r') = o.ev r := by
  cases o with
  | dead => rfl
  | box e cs => simp only [SO.ev, SV.evs_more cs h]
  | row nl e s l => cases nl <;> simp only [SO.ev, D.ev_more l h]
theorem lk_cl {n : Nat} : ∀ {l : List (Nat × SV)}, l.all (fun p => p.2.cl n) = true → ∀ t, (lk l t).cl n = true
  | [], _, _ => rfl
  | (k, v) :: l, h, t => by
    simp only [List.all_cons, Bool.and_eq_true] at h
    simp only [lk]
    split
    · exact h.1
    · exact lk_cl h.2 t
theorem SS.cl_env {s : SS} (h : s.cl = true) (t : Nat) : (lk s.env t).cl s.nv = true := lk_cl (Bool.and_eq_true _ _ ▸ h).1 t
theorem SS.cl_obj {s : SS} (h : s.cl = true) {o : SO} (ho : o ∈ s.objs) : o.cl s.nv = true := by
  have := (Bool.and_eq_true _ _ ▸ h : _ ∧ _).2
  exact List.all_eq_true.1 this o ho
theorem stE_more {s : SS} {r r' : List AV} (hl : r.length = s.nv) (h : s.cl = true) : stE s (r ++ r') = stE s r := by
  funext t
  exact SV.ev_more _ (by rw [hl]; exact SS.cl_env h t)
theorem stO_more {s : SS} {r r' : List AV} (hl : r.length = s.nv) (h : s.cl = true) : stO s (r ++ r') = stO s r := by
  unfold stO
  exact List.map_congr_left fun o ho => SO.ev_more o (by rw [hl]; exact SS.cl_obj h ho)
/- no references -/
theorem getD_noref {l : List AV} (h : AV.norefs l = true) (i : Nat) : (l.getD i .top).noref = true := by
  rw [List.getD]
  cases hi : l[i]? with
  | none => rfl
  | some a => exact norefs_mem h a (List.mem_of_getElem? hi)
theorem cells_norefs {a : AV} (h : a.noref = true) : AV.norefs a.cells = true := by
  cases a <;> first | exact h | (simp only [AV.cells, AV.norefs, h]; rfl)
theorem listOf_norefs {a : AV} (h : a.noref = true) : AV.norefs (listOf a) = true := by
  cases a <;> first | rfl | exact h
theorem tupD_noref {a : AV} (h : a.noref = true) (j : Nat) : (tupD a j).noref = true := by
  cases a <;> first | rfl | exact getD_noref (by exact h) j
mutual
theorem D.ev_noref {r : List AV} (hr : AV.norefs r = true) : ∀ (d : D), d.cl r.length = true → (d.ev r).noref = true
  | .x i, _ => getD_noref hr i
  | .c a, h => h
  | .cell i j, _ => getD_noref (cells_norefs (getD_noref hr i)) j
  | .ext i j, _ => tupD_noref (getD_noref hr i) j
  | .sl l, h => by simp only [D.cl] at h; exact listOf_norefs (D.ev_noref hr l h)
  | .agg l, h => by simp only [D.cl] at h; exact D.evs_noref hr l h
  | .fn f l, h => by simp only [D.cl] at h; exact D.evs_noref hr l h
  | .ip d f, h => by simp only [D.cl] at h; exact D.ev_noref hr d h
theorem D.evs_noref {r : List AV} (hr : AV.norefs r = true) : ∀ (l : List D), D.cls r.length l = true → AV.norefs (D.evs r l) = true
  | [], _ => rfl
  | d :: l, h => by
    simp only [D.cls, Bool.and_eq_true] at h
    simp only [D.evs, AV.norefs, D.ev_noref hr d h.1, D.evs_noref hr l h.2]; rfl
end
theorem norefs_append {a b : List AV} : AV.norefs (a ++ b) = (AV.norefs a && AV.norefs b) := by
  induction a with
  | nil => simp [AV.norefs]
  | cons x a ih => simp [AV.norefs, ih, Bool.and_assoc]
theorem norefs_of {l : List AV} (h : ∀ a ∈ l, a.noref = true) : AV.norefs l = true := by
  induction l with
  | nil => rfl
  | cons x l ih => simp only [AV.norefs, h x (by simp), ih fun a ha => h a (by simp [ha])]; rfl
/- equal by test -/
theorem AV.ceq_eq {a b : AV} (h : a.ceq b = true) : a = b := by
  unfold AV.ceq at h
  split at h <;> simp_all
mutual
theorem D.beq_eq : ∀ (a b : D), a.beq b = true → a = b
  | .x i, b, h => by cases b <;> simp_all [D.beq]
  | .c a, b, h => by
    cases b <;> simp_all only [D.beq, Bool.false_eq_true]
    rw [AV.ceq_eq h]
  | .cell i j, b, h => by cases b <;> simp_all [D.beq]
  | .ext i j, b, h => by cases b <;> simp_all [D.beq]
  | .sl l, b, h => by
    cases b <;> simp_all only [D.beq, Bool.false_eq_true]
    rw [D.beq_eq l _ h]
  | .agg l, b, h => by
    cases b <;> simp_all only [D.beq, Bool.false_eq_true]
    rw [D.beqs_eq l _ h]
  | .fn f l, b, h => by
    cases b <;> simp_all only [D.beq, Bool.false_eq_true, Bool.and_eq_true, decide_eq_true_eq]
    rw [D.beqs_eq l _ h.2]
  | .ip d f, b, h => by
    cases b <;> simp_all only [D.beq, Bool.false_eq_true, Bool.and_eq_true, decide_eq_true_eq]
    rw [D.beq_eq d _ h.1]
theorem D.beqs_eq : ∀ (a b : List D), D.beqs a b = true → a = b
  | [], [], _ => rfl
  | a :: as, b :: bs, h => by
    simp only [D.beqs, Bool.and_eq_true] at h
    rw [D.beq_eq a b h.1, D.beqs_eq as bs h.2]
  | [], _ :: _, h => by simp [D.beqs] at h
  | _ :: _, [], h => by simp [D.beqs] at h
end
mutual
theorem SV.beq_eq : ∀ (a b : SV), a.beq b = true → a = b
  | .d x, b, h => by
    cases b <;> simp_all only [SV.beq, Bool.false_eq_true]
    rw [D.beq_eq x _ h]
  | .row n l, b, h => by
    cases b <;> simp_all only [SV.beq, Bool.false_eq_true, Bool.and_eq_true, decide_eq_true_eq]
    rw [D.beq_eq l _ h.2]
  | .ptr n f, b, h => by cases b <;> simp_all [SV.beq]
  | .rp n l i f, b, h => by
    cases b <;> simp_all only [SV.beq, Bool.false_eq_true, Bool.and_eq_true, decide_eq_true_eq]
    rw [D.beq_eq l _ h.1.1.2, D.beq_eq i _ h.1.2]
  | .ip x f, b, h => by
    cases b <;> simp_all only [SV.beq, Bool.false_eq_true, Bool.and_eq_true, decide_eq_true_eq]
    rw [D.beq_eq x _ h.1]
  | .agg l, b, h => by
    cases b <;> simp_all only [SV.beq, Bool.false_eq_true]
    rw [SV.beqs_eq l _ h]
  | .tup l, b, h => by
    cases b <;> simp_all only [SV.beq, Bool.false_eq_true]
    rw [SV.beqs_eq l _ h]
  | .top, b, h => by cases b <;> simp_all [SV.beq]
theorem SV.beqs_eq : ∀ (a b : List SV), SV.beqs a b = true → a = b
  | [], [], _ => rfl
  | a :: as, b :: bs, h => by
    simp only [SV.beqs, Bool.and_eq_true] at h
    rw [SV.beq_eq a b h.1, SV.beqs_eq as bs h.2]
  | [], _ :: _, h => by simp [SV.beqs] at h
  | _ :: _, [], h => by simp [SV.beqs] at h
end
theorem SO.beq_eq {a b : SO} (h : a.beq b = true) : a = b := by
  cases a <;> cases b <;> simp_all only [SO.beq, Bool.false_eq_true, Bool.and_eq_true, decide_eq_true_eq]
  · rw [SV.beqs_eq _ _ h.2]
  · rw [D.beq_eq _ _ h.2]
/- states -/
theorem lk_filter {l : List (Nat × SV)} {t k : Nat} (h : k ≠ t) : lk (l.filter fun p => p.1 != t) k = lk l k := by
  induction l with
  | nil => rfl
  | cons p l ih =>
    obtain ⟨q, v⟩ := p
    simp only [List.filter_cons]
    by_cases hq : q = t
    · subst hq
      simp only [bne_self_eq_false, Bool.false_eq_true, if_false, lk, if_neg h, ih]
    · simp only [bne_iff_ne, ne_eq, hq, not_false_eq_true, if_true, lk, ih]
theorem stE_set (s : SS) (t : Nat) (v : SV) (r : List AV) : stE (s.set t v) r = (stE s r).set t (v.ev r) := by
  funext k
  simp only [stE, SS.set, lk, Env.set]
  split
  · rfl
  · rename_i h; rw [lk_filter h]
theorem stE_setD (s : SS) (d : Option Nat) (v : SV) (r : List AV) : stE (s.setD d v) r = setD (stE s r) d (v.ev r) := by
  cases d with
  | none => rfl
  | some t => exact stE_set s t v r
theorem stO_setD (s : SS) (d : Option Nat) (v : SV) (r : List AV) : stO (s.setD d v) r = stO s r := by cases d <;> rfl
theorem nv_setD (s : SS) (d : Option Nat) (v : SV) : (s.setD d v).nv = s.nv := by cases d <;> rfl
theorem opd_ev (s : SS) (x : Opd) (r : List AV) : (opd s x).ev r = x.ev (stE s r) := by cases x <;> rfl
theorem lk_map {f : SV → SV} (hf : f .top = .top) : ∀ (l : List (Nat × SV)) (t : Nat), lk (l.map fun p => (p.1, f p.2)) t = f (lk l t)
  | [], t => hf.symm
  | (k, v) :: l, t => by
    simp only [List.map_cons, lk]
    split
    · rfl
    · exact lk_map hf l t
end Go.Ab
/-
  THE SYMBOLIC WALK IS SOUND, operation by operation.
-/
namespace Go.Ab
def wpN (P : Program) : List Node → List AV → (List AV → Prop) → Prop
  | [], r, K => K r
  | .op o :: ns, r, K => o.wp P r fun v => wpN P ns (r ++ [v]) K
  | .chk c :: ns, r, K => c.wp r (wpN P ns r K)
section
variable {P : Program}
theorem wpT_wrap {L : AX → SS → List AV → Prop} {R : AV → Prop} {t : T} {S : List (List AV → Prop)} : ∀ (ns : List Node) (r : List AV), wpT P L R (wrap ns t) r S = wpN P ns r fun r' => wpT P L R t r' S
  | [], r => rfl
  | .op o :: ns, r => by simp only [wrap, wpT, wpN, wpT_wrap ns]
  | .chk c :: ns, r => by simp only [wrap, wpT, wpN, wpT_wrap ns]
theorem pickK_imp {c a b : AV} {O O' : List AObj} {K K' : KT} (h : pickK c a b O K) (hk : ∀ x, K x O → K' x O') : pickK c a b O' K' := by
  unfold pickK at *; split at h <;> first | exact hk _ h | exact h.elim
theorem binK_imp {op : BinOp} {a b : AV} {O O' : List AObj} {K K' : KT} (h : binK op a b O K) (hk : ∀ x, (∃ v, x = .v v) → K x O → K' x O') : binK op a b O' K' := by
  unfold binK at *; split at h
  · split at h <;> first | exact hk _ ⟨_, rfl⟩ h | exact h.elim
  · exact h.elim
theorem unK_imp {op : UnOp} {a : AV} {O O' : List AObj} {K K' : KT} (h : unK op a O K) (hk : ∀ x, (∃ v, x = .v v) → K x O → K' x O') : unK op a O' K' := by
  unfold unK at *; split at h
  · split at h <;> first | exact hk _ ⟨_, rfl⟩ h | exact h.elim
  · exact h.elim
theorem convK_imp {k : IntKind} {a : AV} {O O' : List AObj} {K K' : KT} (h : convK k a O K) (hk : ∀ x, (∃ v, x = .v v) → K x O → K' x O') : convK k a O' K' := by
  unfold convK at *; split at h <;> first | exact hk _ ⟨_, rfl⟩ h | exact h.elim
theorem loadC_noref {n : Option Nat} {a : AV} {f : Nat} (h : a.noref = true) : (loadC n a f).noref = true := by
  unfold loadC
  split
  · exact getD_noref (cells_norefs h) f
  · split
    · exact h
    · exact norefs_of fun x hx => norefs_mem (cells_norefs h) x (List.mem_of_mem_drop (List.mem_of_mem_take hx))
theorem fldK_imp {off : Nat} {n : Option Nat} {a : AV} {O O' : List AObj} {K K' : KT} (h : fldK off n a O K) (hk : ∀ x, (a.noref = true → x.noref = true) → K x O → K' x O') : fldK off n a O' K' :=
  ⟨h.1, h.2.1, hk _ loadC_noref h.2.2⟩
theorem idxSK_imp {a i : AV} {O O' : List AObj} {K K' : KT} (h : idxSK a i O K) (hk : ∀ x, (∃ v, x = .v v) → K x O → K' x O') : idxSK a i O' K' := by
  unfold idxSK at *; split at h <;> first | exact ⟨h.1, h.2.1, hk _ ⟨_, rfl⟩ h.2.2⟩ | exact h.elim
theorem lenSK_imp {a : AV} {O O' : List AObj} {K K' : KT} (h : lenSK a O K) (hk : ∀ x, (∃ v, x = .v v) → K x O → K' x O') : lenSK a O' K' := by
  unfold lenSK at *; split at h <;> first | exact hk _ ⟨_, rfl⟩ h | exact h.elim
theorem bnd_imp {d : Int} {x : Option AV} {M M' : Int → Prop} (h : bnd d x M) (hm : ∀ i, M i → M' i) : bnd d x M' := by
  unfold bnd at *; split at h <;> first | exact hm _ h | exact h.elim
theorem sliceSK_imp {a : AV} {lo hi : Option AV} {O O' : List AObj} {K K' : KT} (h : sliceSK a lo hi O K) (hk : ∀ x, (∃ v, x = .v v) → K x O → K' x O') : sliceSK a lo hi O' K' := by
  unfold sliceSK at *; split at h
  · exact bnd_imp h fun l hl => bnd_imp hl fun h' hh => ⟨hh.1, hh.2.1, hh.2.2.1, hk _ ⟨_, rfl⟩ hh.2.2.2⟩
  · exact h.elim
theorem sliceLK_imp {s : Nat} {a : AV} {lo hi : Option AV} {O O' : List AObj} {K K' : KT} (h : sliceLK s a lo hi O K) (hk : ∀ x, (a.noref = true → x.noref = true) → K x O → K' x O') : sliceLK s a lo hi O' K' := by
  unfold sliceLK at *; split at h
  · rename_i xs
    exact bnd_imp h fun l hl => bnd_imp hl fun h' hh => ⟨hh.1, hh.2.1, hh.2.2.1, hh.2.2.2.1, hk _ (fun hn => norefs_of fun x hx => norefs_mem (by exact hn) x (List.mem_of_mem_take (List.mem_of_mem_drop hx))) hh.2.2.2.2⟩
  · exact h.elim
/-- plain: rows are none -/
theorem lenLK_imp {a : AV} {O' : List AObj} {K K' : KT} (h : lenLK a [] K) (hk : ∀ x, (∃ v, x = .v v) → K x [] → K' x O') : lenLK a O' K' := by
  unfold lenLK at *
  split at h
  · exact hk _ ⟨_, rfl⟩ h
  · exact hk _ ⟨_, rfl⟩ h
  · simp [objN] at h
  · exact h.elim
theorem lenLK_mono {a : AV} {K K' : KT} (h : lenLK a [] K) (hk : ∀ x, (∃ v, x = .v v) → K x [] → K' x []) : lenLK a [] K' := lenLK_imp h hk
theorem srcOf_imp {y : AV} {M M' : List AV → Prop} (h : srcOf [] y M) (hm : ∀ ys, (y.noref = true → AV.norefs ys = true) → M ys → M' ys) : srcOf [] y M' := by
  unfold srcOf at *
  split at h
  · exact hm _ (fun _ => rfl) h
  · exact hm _ (fun h => h) h
  · simp [objN] at h
  · exact h.elim
theorem puF_noref {o : PU} {xs : List AV} {v : AV} (h : puF o xs = some v) : v.noref = true := by
  unfold puF at h
  split at h
  · simp only [Option.map_eq_some_iff] at h; obtain ⟨l, _, rfl⟩ := h; rfl
  · cases h; rfl
  · cases h; rfl
  · cases h; rfl
  · cases h; rfl
  · cases h; rfl
  · cases h; rfl
  · cases h; rfl
  · cases h; rfl
  · split at h
    · cases h; rfl
    · cases h
  · split at h
    · cases h; rfl
    · cases h
  · cases h
theorem ysS_norefs (s : ByteArray) : AV.norefs (ysS s) = true := norefs_of fun a ha => by
  obtain ⟨c, _, rfl⟩ := List.mem_map.1 ha; rfl
/-- a new value: what it says is kept, and it has no references -/
theorem PO.wp_mono {r : List AV} (hr : AV.norefs r = true) {o : PO} (hc : nodesCl r.length [.op o] = true) {K K' : AV → Prop} (h : o.wp P r K) (hk : ∀ v, v.noref = true → K v → K' v) : o.wp P r K' := by
  have hv : ∀ x : AV, (∃ v, x = .v v) → x.noref = true := by rintro _ ⟨v, rfl⟩; rfl
  cases o <;> simp only [nodesCl, PO.cl, Bool.and_true, Bool.and_eq_true] at hc <;> simp only [PO.wp] at h ⊢
  case val x => exact hk _ (D.ev_noref hr x hc) h
  case pick c a b =>
    refine pickK_imp (K := fun x _ => (x = a.ev r ∨ x = b.ev r) ∧ K x) (K' := fun x _ => K' x) ?_ (fun x hx => hk x ?_ hx.2) (O := [])
    · simp only [pickK] at h ⊢
      split at h
      · rename_i t _; exact ⟨by cases t <;> simp, h⟩
      · exact h.elim
    · rcases hx.1 with rfl | rfl
      · exact D.ev_noref hr a hc.1.2
      · exact D.ev_noref hr b hc.2
  case bin op a b => exact binK_imp (K := fun x _ => K x) (K' := fun x _ => K' x) h fun x hx hK => hk x (hv x hx) hK
  case beq neg a b => simp only [beqP] at h ⊢; split at h <;> first | exact hk _ rfl h | exact h.elim
  case un op a => exact unK_imp (K := fun x _ => K x) (K' := fun x _ => K' x) h fun x hx hK => hk x (hv x hx) hK
  case conv k a => exact convK_imp (K := fun x _ => K x) (K' := fun x _ => K' x) h fun x hx hK => hk x (hv x hx) hK
  case elem s l i =>
    simp only [elemP] at h ⊢
    split at h
    · rename_i xs _ i hl _
      refine ⟨h.1, h.2.1, h.2.2.1, hk _ (getD_noref ?_ _) h.2.2.2⟩
      have := D.ev_noref hr l hc.1
      rw [hl] at this; exact this
    · exact h.elim
  case fld off n a => exact fldK_imp (K := fun x _ => K x) (K' := fun x _ => K' x) h fun x hx hK => hk x (hx (D.ev_noref hr a hc)) hK
  case loadc f m a => exact ⟨h.1, hk _ (loadC_noref (D.ev_noref hr a hc)) h.2⟩
  case idxS a i => exact idxSK_imp (K := fun x _ => K x) (K' := fun x _ => K' x) h fun x hx hK => hk x (hv x hx) hK
  case fcall nl e s f as => obtain ⟨xs, h1, h2, h3⟩ := h; exact ⟨xs, h1, h2, hk _ h2 h3⟩
  case scall f g as => obtain ⟨os, h1, h2, h3, h4⟩ := h; exact ⟨os, h1, h2, h3, hk _ h3 h4⟩
  case sliceS a lo hi => exact sliceSK_imp (K := fun x _ => K x) (K' := fun x _ => K' x) h fun x hx hK => hk x (hv x hx) hK
  case sliceL s a lo hi => exact sliceLK_imp (K := fun x _ => K x) (K' := fun x _ => K' x) h fun x hx hK => hk x (hx (D.ev_noref hr a hc)) hK
  case lenS a => exact lenSK_imp (K := fun x _ => K x) (K' := fun x _ => K' x) h fun x hx hK => hk x (hv x hx) hK
  case lenL a => exact lenLK_mono (K := fun x _ => K x) (K' := fun x _ => K' x) h fun x hx hK => hk x (hv x hx) hK
  case mkl z n ps =>
    refine hk _ ?_ h
    have key : ∀ (ps : List (Nat × D)) (z : List AV), AV.norefs z = true → ps.all (fun p => p.2.cl r.length) = true → AV.norefs (setAll z (ps.map fun p => (p.1, p.2.ev r))) = true := by
      intro ps
      induction ps with
      | nil => intro z hz _; exact hz
      | cons p ps ih =>
        intro z hz hp
        simp only [List.all_cons, Bool.and_eq_true] at hp
        simp only [List.map_cons, setAll]
        refine ih _ (norefs_of fun a ha => ?_) hp.2
        rcases List.mem_or_eq_of_mem_set ha with h | rfl
        · exact norefs_mem hz a h
        · exact D.ev_noref hr _ hp.1
    exact key ps _ (norefs_of fun a ha => by rw [List.eq_of_mem_replicate ha]; exact hc.1) hc.2
  case rep bytes z n c =>
    simp only [repP] at h ⊢
    split at h
    · exact ⟨h.1, h.2.1, h.2.2.1, h.2.2.2.1, hk _ (norefs_of fun a ha => by rw [List.eq_of_mem_replicate ha]; exact hc) h.2.2.2.2⟩
    · exact h.elim
  case app s b l y =>
    refine srcOf_imp (M' := fun ys => _ ∧ _ ∧ _ ∧ K' _) h fun ys hys hK => ⟨hK.1, hK.2.1, hK.2.2.1, hk _ ?_ hK.2.2.2⟩
    show AV.norefs _ = true
    rw [norefs_append, listOf_norefs (D.ev_noref hr l hc.1), hys (D.ev_noref hr y hc.2)]; rfl
  case get l i f n => exact ⟨h.1, h.2.1, hk _ (loadC_noref (getD_noref (listOf_norefs (D.ev_noref hr l hc)) _)) h.2.2⟩
  case set l i f m y =>
    obtain ⟨h1, h2, h3, h4, h5⟩ := h
    have hl := listOf_norefs (D.ev_noref hr l hc.1)
    have hy := D.ev_noref hr y hc.2
    refine ⟨h1, h2, h3, h4, hk _ (norefs_of fun a ha => ?_) h5⟩
    rcases List.mem_or_eq_of_mem_set ha with h | rfl
    · exact norefs_mem hl a h
    · have hx := getD_noref hl (idxOf (i.ev r))
      unfold upd
      split
      · exact hy
      · refine norefs_of fun a ha => ?_
        simp only [List.mem_append] at ha
        rcases ha with (ha | ha) | ha
        · exact norefs_mem (cells_norefs hx) a (List.mem_of_mem_take ha)
        · exact norefs_mem (cells_norefs hy) a ha
        · exact norefs_mem (cells_norefs hx) a (List.mem_of_mem_drop ha)
  case call f as b => obtain ⟨res, h1, h2, h3, h4⟩ := h; exact ⟨res, h1, h2, h3, hk _ h2 h4⟩
  case callv g as b =>
    simp only [callvP] at h ⊢
    split at h
    · obtain ⟨res, h1, h2, h3, h4⟩ := h; exact ⟨res, h1, h2, h3, hk _ h2 h4⟩
    · exact h.elim
  case ldp n a =>
    simp only [ldpP] at h ⊢
    split at h
    · rename_i y f hy
      refine ⟨h.1, hk _ (loadC_noref ?_) h.2⟩
      have := D.ev_noref hr a hc
      rw [hy] at this; exact this
    · exact h.elim
  case pu o ds =>
    unfold puK at h ⊢
    split at h
    · rename_i v hv; exact hk _ (puF_noref hv) h
    · exact h.elim
  case appS s b l y =>
    simp only [appSP] at h ⊢
    split at h
    · refine ⟨h.1, h.2.1, h.2.2.1, hk _ ?_ h.2.2.2⟩
      show AV.norefs _ = true
      rw [norefs_append, listOf_norefs (D.ev_noref hr l hc.1), ysS_norefs]; rfl
    · exact h.elim
  case fap off a =>
    simp only [fapP] at h ⊢
    split at h
    · rename_i y f hy
      refine hk _ ?_ h
      have := D.ev_noref hr a hc
      rw [hy] at this; exact this
    · exact h.elim
theorem Chk.wp_mono {r : List AV} {c : Chk} {K K' : Prop} (h : c.wp r K) (hk : K → K') : c.wp r K' := by
  cases c
  case cells => exact ⟨h.1, h.2.1, h.2.2.1, hk h.2.2.2⟩
  case one => exact ⟨h.1, h.2.1, hk h.2.2⟩
  case lt => exact ⟨h.1, hk h.2⟩
  case tup a j => simp only [Chk.wp, tupP] at h ⊢; split at h <;> first | exact ⟨h.1, hk h.2⟩ | exact h.elim
  case idx l i => simp only [Chk.wp, idxP] at h ⊢; split at h <;> first | exact ⟨h.1, h.2.1, hk h.2.2⟩ | exact h.elim
  case isFn a => simp only [Chk.wp, isFnP] at h ⊢; split at h <;> first | exact hk h | exact h.elim
  case ne => exact ⟨h.1, hk h.2⟩
  case eql => exact ⟨h.1, hk h.2⟩
  case no => exact h.elim
/-- what is known of the names behind some nodes -/
structure More (r r' : List AV) (n : Nat) : Prop where
  pre : ∃ m, r' = r ++ m
  len : r'.length = n
  nor : AV.norefs r' = true
theorem wpN_more : ∀ (ns : List Node) {r : List AV} {K K' : List AV → Prop}, AV.norefs r = true → nodesCl r.length ns = true → wpN P ns r K → (∀ r', More r r' (nvN r.length ns) → K r' → K' r') → wpN P ns r K'
  | [], r, K, K', hr, _, h, hk => hk r ⟨⟨[], by simp⟩, rfl, hr⟩ h
  | .op o :: ns, r, K, K', hr, hc, h, hk => by
    have hc0 : nodesCl r.length [.op o] = true ∧ nodesCl (r.length + 1) ns = true := by
      simp only [nodesCl, Bool.and_eq_true, Bool.and_true] at hc ⊢
      exact hc
    refine PO.wp_mono hr hc0.1 h fun v hv hK => ?_
    refine wpN_more ns (r := r ++ [v]) (by rw [norefs_append, hr]; simp [AV.norefs, hv]) (by simpa using hc0.2) hK fun r' hm hK' => hk r' ⟨?_, ?_, hm.nor⟩ hK'
    · obtain ⟨m, rfl⟩ := hm.pre
      exact ⟨v :: m, by simp⟩
    · rw [hm.len]; simp [nvN]
  | .chk c :: ns, r, K, K', hr, hc, h, hk => Chk.wp_mono h fun h' => wpN_more ns hr (by simpa [nodesCl] using hc) h' hk
theorem wpN_append : ∀ (a b : List Node) (r : List AV) (K : List AV → Prop), wpN P (a ++ b) r K = wpN P a r fun r' => wpN P b r' K
  | [], b, r, K => rfl
  | .op o :: a, b, r, K => by simp only [List.cons_append, wpN, wpN_append a]
  | .chk c :: a, b, r, K => by simp only [List.cons_append, wpN, wpN_append a]
end
end Go.Ab
/-
  THE SYMBOLIC WALK IS SOUND: operations without memory.
-/
namespace Go.Ab
section
variable {P : Program}
theorem dsOf_map : ∀ {cs : List SV} {ds : List D}, dsOf cs = some ds → cs = ds.map .d
  | [], ds, h => by simp [dsOf] at h; subst h; rfl
  | v :: l, ds, h => by
    cases v <;> simp only [dsOf, reduceCtorEq] at h
    split at h
    · rename_i ds' hd
      cases h
      rw [dsOf_map hd]; rfl
    · cases h
theorem evs_map (r : List AV) : ∀ (ds : List D), SV.evs r (ds.map .d) = D.evs r ds
  | [] => rfl
  | d :: ds => by simp only [List.map_cons, SV.evs, D.evs, SV.ev, evs_map r ds]
theorem D.evs_eq (r : List AV) (l : List D) : D.evs r l = l.map (D.ev r) := by
  induction l with
  | nil => rfl
  | cons a l ih => simp [D.evs, ih]
theorem SV.evs_eq (r : List AV) (l : List SV) : SV.evs r l = l.map (SV.ev r) := by
  induction l with
  | nil => rfl
  | cons a l ih => simp [SV.evs, ih]
theorem cls_all {n : Nat} : ∀ {l : List D}, D.cls n l = true ↔ ∀ d ∈ l, d.cl n = true
  | [] => by simp [D.cls]
  | a :: l => by simp [D.cls, cls_all (l := l)]
theorem scls_all {n : Nat} : ∀ {l : List SV}, SV.cls n l = true ↔ ∀ d ∈ l, d.cl n = true
  | [] => by simp [SV.cls]
  | a :: l => by simp [SV.cls, scls_all (l := l)]
theorem cells_of (r : List AV) (i m : Nat) (h : (r.getD i .top).cells.length = m) : ((List.range m).map fun j => (r.getD i .top).cells.getD j .top) = (r.getD i .top).cells := by
  generalize (r.getD i .top).cells = l at h ⊢
  subst h
  apply List.ext_getElem
  · simp
  · intro k h1 h2
    rw [List.getElem_map, List.getElem_range, List.getD, List.getElem?_eq_getElem h2]; rfl
theorem etaOf_sound {kn : List (Nat × Nat)} {ds : List D} {i : Nat} (h : etaOf kn ds = some i) : ds = (List.range ds.length).map fun j => .cell i j := by
  unfold etaOf at h
  split at h
  · split at h
    · cases h; rename_i hb; exact D.beqs_eq _ _ hb.2
    · cases h
  · cases h
theorem asD_sound {kn : List (Nat × Nat)} {v : SV} {ns : List Node} {d : D} (h : asD kn v = some (ns, d)) {r : List AV} {G : List AV → Prop} (hw : wpN P ns r G) : G r ∧ d.ev r = v.ev r := by
  unfold asD at h
  split at h
  · cases h; exact ⟨hw, rfl⟩
  · rename_i cs
    split at h
    · rename_i ds hd
      have hcs := dsOf_map hd
      subst hcs
      split at h
      · rename_i i hi
        cases h
        have he := etaOf_sound hi
        simp only [wpN, Chk.wp, D.ev] at hw
        obtain ⟨h1, h2, h3, h4⟩ := hw
        refine ⟨h4, ?_⟩
        simp only [D.ev, SV.ev, evs_map]
        rw [he, D.evs_eq, List.map_map]
        have := cells_of r i _ h2
        rw [AV.agg_of h1]
        congr 1
        rw [← this]
        rfl
      · cases h
        exact ⟨hw, by simp only [D.ev, SV.ev, evs_map]⟩
    · cases h
  · cases h; exact ⟨hw, rfl⟩
  · cases h
theorem asD_nv {kn : List (Nat × Nat)} {v : SV} {ns : List Node} {d : D} (h : asD kn v = some (ns, d)) (nv : Nat) : nvN nv ns = nv := by
  unfold asD at h
  split at h
  · cases h; rfl
  · split at h
    · split at h <;> cases h <;> rfl
    · cases h
  · cases h; rfl
  · cases h
theorem nvN_append (nv : Nat) : ∀ (a b : List Node), nvN nv (a ++ b) = nvN (nvN nv a) b := by
  intro a
  induction a generalizing nv with
  | nil => intro b; rfl
  | cons x a ih => intro b; cases x <;> simp [nvN, ih]
theorem cur_sound {s : SS} {n : Nat} {l : D} {nl : Bool} {e sz : Nat} (h : cur s n l = some (nl, e, sz)) : s.objs[n]? = some (.row nl e sz l) := by
  unfold cur at h
  split at h
  · rename_i l' ho
    split at h
    · rename_i hb
      cases h
      rw [ho, D.beq_eq _ _ hb]
    · cases h
  · cases h
theorem box_sound {s : SS} {n e : Nat} {cs : List SV} (h : boxOf s n = some (e, cs)) : s.objs[n]? = some (.box e cs) := by
  unfold boxOf at h
  split at h
  · rename_i ho; cases h; exact ho
  · cases h
theorem stO_get {s : SS} {n : Nat} {o : SO} (h : s.objs[n]? = some o) (r : List AV) : (stO s r)[n]? = some (o.ev r) := by
  simp [stO, h]
theorem stO_len (s : SS) (r : List AV) : (stO s r).length = s.objs.length := by simp [stO]
theorem mkA_cells {cs : List AV} (h : cs.length ≠ 1) : mkA cs = .agg cs := by
  unfold mkA
  split
  · simp at h
  · rfl
/-- the cells of a value -/
theorem ones_sound {cs : List SV} (ht : noTops cs = true) {r : List AV} {G : List AV → Prop} (hw : wpN P (chkOnes cs) r G) : G r ∧ ∀ c ∈ SV.evs r cs, c.isCell = true := by
  induction cs with
  | nil => exact ⟨hw, by simp [SV.evs]⟩
  | cons v l ih =>
    cases v with
    | d x =>
      simp only [chkOnes, wpN, Chk.wp] at hw
      obtain ⟨h1, h2, h3⟩ := hw
      obtain ⟨h4, h5⟩ := ih (by simpa [noTops] using ht) h3
      refine ⟨h4, fun c hc => ?_⟩
      simp only [SV.evs, SV.ev, List.mem_cons] at hc
      rcases hc with rfl | hc
      · exact h2
      · exact h5 c hc
    | top => simp [noTops] at ht
    | agg _ => simp [noTops] at ht
    | tup _ => simp [noTops] at ht
    | _ =>
      simp only [chkOnes] at hw
      obtain ⟨h4, h5⟩ := ih (by simpa [noTops] using ht) hw
      refine ⟨h4, fun c hc => ?_⟩
      simp only [SV.evs, SV.ev, List.mem_cons] at hc
      rcases hc with rfl | hc
      · rfl
      · exact h5 c hc
theorem ones_nv (cs : List SV) (nv : Nat) : nvN nv (chkOnes cs) = nv := by
  induction cs with
  | nil => rfl
  | cons v l ih => cases v <;> simp [chkOnes, nvN, ih]
/-- the cells of a value, as an expansion gives them -/
structure Exp1 (m : Nat) (a : AV) (cs : List AV) : Prop where
  len : a.cells.length = m
  sto : a.storable = true
  cells : a.cells = cs
  kind : (a.isCell || a.isAgg) = true
  one : m = 1 → a.isCell = true
  agg : m ≠ 1 → a.isAgg = true
theorem storable_of_cell {a : AV} (h : a.isCell = true) : a.storable = true := by
  unfold AV.storable
  rw [AV.cells_cell h]
  simp [h]
theorem Exp1.mkA {m : Nat} {a : AV} {cs : List AV} (h : Exp1 m a cs) : a = mkA cs := by
  by_cases hm : m = 1
  · have := AV.cells_cell (h.one hm)
    rw [← h.cells, this]; rfl
  · rw [mkA_cells (by rw [← h.cells, h.len]; exact hm), ← h.cells]
    exact AV.agg_of (h.agg hm)
theorem expand_sound {nv m : Nat} {v : SV} {ns : List Node} {cs : List SV} (h : expand nv m v = some (ns, cs)) {r : List AV} (hl : r.length = nv) (hv : v.cl nv = true) {G : List AV → Prop} (hw : wpN P ns r G) :
    ∃ r', (∃ more, r' = r ++ more) ∧ r'.length = nvN nv ns ∧ G r' ∧ Exp1 m (v.ev r) (SV.evs r' cs) := by
  unfold expand at h
  split at h
  · rename_i hm
    subst hm
    have one : ∀ {a : AV}, a.isCell = true → Exp1 1 a [a] := fun {a} ha => ⟨by rw [AV.cells_cell ha]; rfl, storable_of_cell ha, AV.cells_cell ha, by rw [ha]; rfl, fun _ => ha, fun h => (h rfl).elim⟩
    split at h
    · rename_i x
      cases h
      simp only [wpN, Chk.wp] at hw
      exact ⟨r, ⟨[], by simp⟩, hl, hw.2.2, one hw.2.1⟩
    · cases h
    · cases h
    · cases h
    · rename_i h1 h2 h4 h3
      cases h
      refine ⟨r, ⟨[], by simp⟩, hl, hw, ?_⟩
      cases v
      case d x => exact (h1 x rfl).elim
      case agg x => exact (h2 x rfl).elim
      case tup x => exact (h4 x rfl).elim
      case top => exact (h3 rfl).elim
      all_goals exact one rfl
  · rename_i hm
    have agg : ∀ {a : AV} {cs : List AV}, a.isAgg = true → a.cells.length = m → a.storable = true → a.cells = cs → Exp1 m a cs := fun {a cs} h1 h2 h3 h4 => ⟨h2, h3, h4, by rw [h1]; simp, fun h => (hm h).elim, fun _ => h1⟩
    split at h
    · rename_i cs'
      split at h
      · rename_i hc
        cases h
        obtain ⟨h1, h2⟩ := ones_sound hc.2 hw
        refine ⟨r, ⟨[], by simp⟩, by rw [ones_nv, hl], h1, agg rfl ?_ ?_ rfl⟩
        · simp [SV.ev, AV.cells, SV.evs_eq, hc.1]
        · simp only [SV.ev, AV.storable, AV.cells, List.all_eq_true]
          exact h2
      · cases h
    · rename_i i
      cases h
      simp only [wpN, Chk.wp, D.ev] at hw
      obtain ⟨h1, h2, h3, h4⟩ := hw
      refine ⟨r, ⟨[], by simp⟩, hl, h4, agg h1 h2 h3 ?_⟩
      simp only [SV.ev, D.ev]
      rw [← cells_of r i m h2, SV.evs_eq, List.map_map]
      rfl
    · rename_i l
      split at h
      · rename_i hll
        cases h
        simp only [wpN, Chk.wp] at hw
        obtain ⟨h1, h2, h3, h4⟩ := hw
        exact ⟨r, ⟨[], by simp⟩, hl, h4, agg h1 h2 h3 (by simp only [SV.ev, D.ev, AV.cells]; rw [evs_map])⟩
      · cases h
    · rename_i l
      split at h
      · rename_i hll
        cases h
        simp only [wpN, Chk.wp] at hw
        obtain ⟨h1, h2, h3, h4⟩ := hw
        refine ⟨r, ⟨[], by simp⟩, hl, h4, agg h1 h2 h3 ?_⟩
        simp only [SV.ev, D.ev, AV.cells, SV.evs_eq, List.map_map]
        exact (List.map_id l).symm
      · cases h
    · rename_i x _ _ _
      cases h
      simp only [wpN, PO.wp, Chk.wp] at hw
      have hx : (r ++ [x.ev r]).getD nv .top = x.ev r := by simp [List.getD, ← hl]
      simp only [D.ev, hx] at hw
      obtain ⟨h1, h2, h3, h4⟩ := hw
      refine ⟨r ++ [x.ev r], ⟨_, rfl⟩, by simp [nvN, hl], h4, agg h1 h2 h3 ?_⟩
      simp only [SV.ev]
      have := cells_of (r ++ [x.ev r]) nv m (by rw [hx]; exact h2)
      rw [hx] at this
      rw [← this, SV.evs_eq, List.map_map]
      apply List.map_congr_left
      intro j _
      simp only [Function.comp, SV.ev, D.ev, hx]
    · cases h
theorem getD_new {r : List AV} {nv : Nat} (h : r.length = nv) (a : AV) : (r ++ [a]).getD nv .top = a := by simp [List.getD, ← h]
theorem D.evo_opt {s : SS} {x : Option Opd} {d : Option D} (h : xOpt s x = some d) (r : List AV) : D.evo r d = x.map (Opd.ev (stE s r)) := by
  unfold xOpt at h
  split at h
  · cases h; rfl
  · rename_i o
    split at h
    · rename_i y hy
      cases h
      have := opd_ev s o r
      rw [hy] at this
      simp only [D.evo, Option.map_some, ← this]; rfl
    · cases h
end
end Go.Ab
/-
  THE SYMBOLIC WALK IS SOUND: all operations.
-/
namespace Go.Ab
section
variable {P : Program}
theorem PO.wp_imp {r : List AV} {o : PO} {K K' : AV → Prop} (h : o.wp P r K) (hk : ∀ v, K v → K' v) : o.wp P r K' := by
  cases o <;> simp only [PO.wp] at h ⊢
  case val => exact hk _ h
  case pick => exact pickK_imp (K := fun x _ => K x) (K' := fun x _ => K' x) h fun x hx => hk x hx
  case bin => exact binK_imp (K := fun x _ => K x) (K' := fun x _ => K' x) h fun x _ hx => hk x hx
  case beq => simp only [beqP] at h ⊢; split at h <;> first | exact hk _ h | exact h.elim
  case un => exact unK_imp (K := fun x _ => K x) (K' := fun x _ => K' x) h fun x _ hx => hk x hx
  case conv => exact convK_imp (K := fun x _ => K x) (K' := fun x _ => K' x) h fun x _ hx => hk x hx
  case elem => simp only [elemP] at h ⊢; split at h <;> first | exact ⟨h.1, h.2.1, h.2.2.1, hk _ h.2.2.2⟩ | exact h.elim
  case fld => exact fldK_imp (K := fun x _ => K x) (K' := fun x _ => K' x) h fun x _ hx => hk x hx
  case loadc => exact ⟨h.1, hk _ h.2⟩
  case idxS => exact idxSK_imp (K := fun x _ => K x) (K' := fun x _ => K' x) h fun x _ hx => hk x hx
  case sliceS => exact sliceSK_imp (K := fun x _ => K x) (K' := fun x _ => K' x) h fun x _ hx => hk x hx
  case sliceL => exact sliceLK_imp (K := fun x _ => K x) (K' := fun x _ => K' x) h fun x _ hx => hk x hx
  case lenS => exact lenSK_imp (K := fun x _ => K x) (K' := fun x _ => K' x) h fun x _ hx => hk x hx
  case lenL => exact lenLK_mono (K := fun x _ => K x) (K' := fun x _ => K' x) h fun x _ hx => hk x hx
  case mkl => exact hk _ h
  case rep => simp only [repP] at h ⊢; split at h <;> first | exact ⟨h.1, h.2.1, h.2.2.1, h.2.2.2.1, hk _ h.2.2.2.2⟩ | exact h.elim
  case app => exact srcOf_imp (M' := fun ys => _ ∧ _ ∧ _ ∧ K' _) h fun ys _ hK => ⟨hK.1, hK.2.1, hK.2.2.1, hk _ hK.2.2.2⟩
  case get => exact ⟨h.1, h.2.1, hk _ h.2.2⟩
  case set => exact ⟨h.1, h.2.1, h.2.2.1, h.2.2.2.1, hk _ h.2.2.2.2⟩
  case call => obtain ⟨res, h1, h2, h3, h4⟩ := h; exact ⟨res, h1, h2, h3, hk _ h4⟩
  case fcall => obtain ⟨xs, h1, h2, h3⟩ := h; exact ⟨xs, h1, h2, hk _ h3⟩
  case scall => obtain ⟨os, h1, h2, h3, h4⟩ := h; exact ⟨os, h1, h2, h3, hk _ h4⟩
  case callv =>
    simp only [callvP] at h ⊢
    split at h
    · obtain ⟨res, h1, h2, h3, h4⟩ := h; exact ⟨res, h1, h2, h3, hk _ h4⟩
    · exact h.elim
  case ldp => simp only [ldpP] at h ⊢; split at h <;> first | exact ⟨h.1, hk _ h.2⟩ | exact h.elim
  case fap => simp only [fapP] at h ⊢; split at h <;> first | exact hk _ h | exact h.elim
  case pu => unfold puK at h ⊢; split at h <;> first | exact hk _ h | exact h.elim
  case appS => simp only [appSP] at h ⊢; split at h <;> first | exact ⟨h.1, h.2.1, h.2.2.1, hk _ h.2.2.2⟩ | exact h.elim
theorem wpN_mono : ∀ (ns : List Node) {r : List AV} {G G' : List AV → Prop}, (∀ m, G (r ++ m) → G' (r ++ m)) → wpN P ns r G → wpN P ns r G'
  | [], r, G, G', hg, h => by have := hg []; simp only [List.append_nil] at this; exact this h
  | .op o :: ns, r, G, G', hg, h => PO.wp_imp h fun v hv => wpN_mono ns (fun m hm => by rw [List.append_assoc] at hm ⊢; exact hg _ hm) hv
  | .chk c :: ns, r, G, G', hg, h => Chk.wp_mono h (wpN_mono ns hg)
/-- a step of the symbolic walk says what the operation asks -/
def OpOk (P : Program) (op : AOp) (s : SS) (q : List Node × SV × SS) : Prop :=
  ∀ (r : List AV), r.length = s.nv → s.cl = true → AV.norefs r = true → nodesCl s.nv q.1 = true → ∀ K : KT, wpN P q.1 r (fun r' => stE q.2.2 r' = stE s r → K (q.2.1.ev r') (stO q.2.2 r')) → wpOp P op (stE s r) (stO s r) K
theorem nx_fin {s : SS} {r : List AV} (hl : r.length = s.nv) (hc : s.cl = true) {ns : List Node} (hn : nvN s.nv ns = s.nv) {o : PO} {K : KT} {x : AV} (h : stE (nx s ns o).2.2 (r ++ [x]) = stE s r → K ((nx s ns o).2.1.ev (r ++ [x])) (stO (nx s ns o).2.2 (r ++ [x]))) : K x (stO s r) := by
  have h1 : stE (nx s ns o).2.2 (r ++ [x]) = stE s r := stE_more (s := s) hl hc
  have h2 := h h1
  have h3 : stO (nx s ns o).2.2 (r ++ [x]) = stO s r := stO_more (s := s) hl hc
  rw [h3] at h2
  have h4 : (nx s ns o).2.1.ev (r ++ [x]) = x := by
    simp only [nx, SV.ev, D.ev, hn]
    exact getD_new hl x
  rwa [h4] at h2
theorem nx_hk {s : SS} {r : List AV} (hl : r.length = s.nv) (hc : s.cl = true) {o : PO} {K : KT} (h : wpN P (nx s [] o).1 r (fun r' => stE (nx s [] o).2.2 r' = stE s r → K ((nx s [] o).2.1.ev r') (stO (nx s [] o).2.2 r'))) : o.wp P r fun v => K v (stO s r) :=
  PO.wp_imp (o := o) h fun _ hv => nx_fin (ns := []) (o := o) hl hc rfl hv
theorem mov_ok (s : SS) (a : Opd) : OpOk P (.mov a) s ([], opd s a, s) := by
  intro r hl hc hr hnc K h
  have := h rfl
  rwa [opd_ev] at this
theorem alloc_ok {s : SS} {t n : Nat} {z : AV} {q} (h : xAlloc s t n z = some q) : OpOk P (.alloc t n z) s q := by
  intro r hl hc hr hnc K hk
  unfold xAlloc at h
  split at h
  · rename_i hn
    cases h
    have := hk rfl
    simp only [stO, List.map_append, List.map_cons, List.map_nil, SO.ev, SV.evs, SV.ev, D.ev, mkA] at this
    simp only [wpOp]
    rw [stO_len, hn.1]
    exact this
  · split at h
    · rename_i cs _
      split at h
      · rename_i hn
        cases h
        have := hk rfl
        have he : SV.evs r (cs.map fun a => .d (.c a)) = cs := by
          rw [SV.evs_eq, List.map_map]
          exact List.map_id cs
        simp only [stO, List.map_append, List.map_cons, List.map_nil, SO.ev, he, List.length_map, SV.ev] at this
        rw [mkA_cells (by rw [hn.2]; exact hn.1), hn.2] at this
        simp only [wpOp]
        rw [stO_len]
        exact this
      · cases h
    · cases h
theorem box_ok {s : SS} {t n : Nat} {a : Opd} {q} (ha : (opd s a).cl s.nv = true) (h : xBox s t n (opd s a) = some q) : OpOk P (.box t n a) s q := by
  intro r hl hc hr hnc K hk
  unfold xBox at h
  split at h
  · rename_i ns cs he
    split at h
    · rename_i hcs
      cases h
      obtain ⟨r', ⟨more, rfl⟩, hlen, hG, hE⟩ := expand_sound he hl ha hk
      have hG := hG (stE_more (s := s) hl hc)
      simp only [wpOp, ← opd_ev]
      have hob : stO { s with objs := s.objs ++ [.box t cs], nv := nvN s.nv ns } (r ++ more) = stO s r ++ [.live t n [(opd s a).ev r]] := by
        simp only [stO, List.map_append, List.map_cons, List.map_nil, SO.ev]
        rw [hE.mkA, hcs]
        congr 1
        exact stO_more (s := s) hl hc
      rw [hob] at hG
      rw [stO_len]
      exact ⟨hE.len, hE.sto, hG⟩
    · cases h
  · cases h
theorem kept_sound {s : SS} {k t m : Nat} (h : kept s k t m = true) (r : List AV) : (stO s r)[k]? = some (.nil t m) := by
  unfold kept at h
  split at h
  · rename_i t' m' ho
    simp only [Bool.and_eq_true, decide_eq_true_eq] at h
    obtain ⟨rfl, rfl⟩ := h
    rw [stO_get ho r]
    simp [SO.ev, D.ev, listOf]
  · cases h
theorem allocAt_ok {s : SS} {k t n : Nat} {z : AV} {q} (hz : z.noref = true) (h : xAllocAt s k t n z = some q) : OpOk P (.allocAt k t n z) s q := by
  intro r hl hc hr hnc K hk
  unfold xAllocAt at h
  split at h
  · rename_i hkp
    have hO := kept_sound hkp r
    have fin : ∀ cs : List AV, cs.length = n → mkA cs = z → q = ([], .ptr k 0, { s with objs := s.objs.set k (.box t (cs.map fun a => .d (.c a))) }) → wpOp P (.allocAt k t n z) (stE s r) (stO s r) K := by
      rintro cs hcs hz' rfl
      have := hk rfl
      have hev : SV.evs r (cs.map fun a => SV.d (.c a)) = cs := by
        rw [SV.evs_eq, List.map_map]
        conv => rhs; rw [← List.map_id cs]
        rfl
      simp only [stO, List.map_set, SO.ev, hev, hz', List.length_map, hcs] at this
      exact ⟨hz, hO, this⟩
    split at h
    · rename_i hn
      cases h
      exact fin [z] hn.1.symm rfl rfl
    · split at h
      · rename_i cs _
        split at h
        · rename_i hn
          cases h
          exact fin cs hn.2 (mkA_cells (by rw [hn.2]; exact hn.1)) rfl
        · cases h
      · cases h
  · cases h
theorem boxAt_ok {s : SS} {k t n : Nat} {a : Opd} {q} (hok : a.okc = true) (ha : (opd s a).cl s.nv = true) (h : xBoxAt s k t n (opd s a) = some q) : OpOk P (.boxAt k t n a) s q := by
  intro r hl hc hr hnc K hk
  unfold xBoxAt at h
  split at h
  · rename_i hkp
    have hO := kept_sound hkp r
    split at h
    · rename_i ns cs he
      split at h
      · rename_i hcs
        cases h
        obtain ⟨r', ⟨more, rfl⟩, hlen, hG, hE⟩ := expand_sound he hl ha hk
        have hG := hG (stE_more (s := s) hl hc)
        simp only [wpOp, ← opd_ev]
        have hob : stO { s with objs := s.objs.set k (.box t cs), nv := nvN s.nv ns } (r ++ more) = (stO s r).set k (.live t n [(opd s a).ev r]) := by
          simp only [stO, List.map_set, SO.ev]
          rw [hE.mkA, hcs]
          congr 1
          exact stO_more (s := s) hl hc
        rw [hob] at hG
        exact ⟨hok, hO, hE.len, hE.sto, hG⟩
      · cases h
    · cases h
  · cases h
theorem bin_ok {s : SS} {o : BinOp} {a b : Opd} {x y : D} (ha : opd s a = .d x) (hb : opd s b = .d y) : OpOk P (.bin o a b) s (nx s [] (.bin o x y)) := by
  intro r hl hc hr hnc K hk
  rw [o_bin, ← opd_ev, ← opd_ev, ha, hb]
  exact binK_imp (O := []) (K := fun x _ => K x (stO s r)) (nx_hk hl hc hk) fun v _ hv => hv
theorem beq_ok {s : SS} {neg : Bool} {a b : Opd} {x y : D} (ha : opd s a = .d x) (hb : opd s b = .d y) : OpOk P (.beq neg a b) s (nx s [] (.beq neg x y)) := by
  intro r hl hc hr hnc K hk
  have h1 := nx_hk (K := K) hl hc hk
  simp only [PO.wp, beqP] at h1
  simp only [wpOp, ← opd_ev, ha, hb, SV.ev]
  split at h1
  · rename_i p q hp hq
    rw [hp, hq]
    exact h1
  · exact h1.elim
theorem un_ok {s : SS} {o : UnOp} {a : Opd} {x : D} (ha : opd s a = .d x) : OpOk P (.un o a) s (nx s [] (.un o x)) := by
  intro r hl hc hr hnc K hk
  rw [o_un, ← opd_ev, ha]
  exact unK_imp (O := []) (K := fun x _ => K x (stO s r)) (nx_hk hl hc hk) fun v _ hv => hv
theorem conv_ok {s : SS} {k : IntKind} {a : Opd} {x : D} (ha : opd s a = .d x) : OpOk P (.convInt k a) s (nx s [] (.conv k x)) := by
  intro r hl hc hr hnc K hk
  rw [o_conv, ← opd_ev, ha]
  exact convK_imp (O := []) (K := fun x _ => K x (stO s r)) (nx_hk hl hc hk) fun v _ hv => hv
theorem idxS_ok {s : SS} {a b : Opd} {x y : D} (ha : opd s a = .d x) (hb : opd s b = .d y) : OpOk P (.idxS a b) s (nx s [] (.idxS x y)) := by
  intro r hl hc hr hnc K hk
  rw [o_idxS, ← opd_ev, ← opd_ev, ha, hb]
  exact idxSK_imp (O := []) (K := fun x _ => K x (stO s r)) (nx_hk hl hc hk) fun v _ hv => hv
theorem lenS_ok {s : SS} {a : Opd} {x : D} (ha : opd s a = .d x) : OpOk P (.lenS a) s (nx s [] (.lenS x)) := by
  intro r hl hc hr hnc K hk
  rw [o_lenS, ← opd_ev, ha]
  exact lenSK_imp (O := []) (K := fun x _ => K x (stO s r)) (nx_hk hl hc hk) fun v _ hv => hv
theorem lenL_ok {s : SS} {a : Opd} {x : D} (ha : opd s a = .d x) : OpOk P (.lenL a) s (nx s [] (.lenL x)) := by
  intro r hl hc hr hnc K hk
  rw [o_lenL, ← opd_ev, ha]
  exact lenLK_imp (K := fun x _ => K x (stO s r)) (nx_hk hl hc hk) fun v _ hv => hv
theorem listOf_sl (xs : List AV) : listOf (.sl xs) = xs := rfl
/-- a row's length, its contents -/
theorem row_cases {s : SS} {n e sz : Nat} {nl : Bool} {l : D} (h : s.objs[n]? = some (.row nl e sz l)) (r : List AV) :
    (stO s r)[n]? = some (.live e sz (listOf (l.ev r))) ∨ ((stO s r)[n]? = some (.nil e sz) ∧ listOf (l.ev r) = [] ∧ nl = true) := by
  have := stO_get h r
  cases nl with
  | false => exact .inl this
  | true =>
    simp only [SO.ev] at this
    split at this
    · rename_i hx; exact .inr ⟨this, hx, rfl⟩
    · exact .inl this
theorem lenLr_ok {s : SS} {a : Opd} {k : Nat} {l : D} (ha : opd s a = .row k l) (hcur : (cur s k l).isSome = true) : OpOk P (.lenL a) s (nx s [] (.lenL (.sl l))) := by
  intro r hl hc hr hnc K hk
  rw [o_lenL, ← opd_ev, ha]
  obtain ⟨⟨nl, e, sz⟩, hq⟩ := Option.isSome_iff_exists.1 hcur
  have ho := cur_sound hq
  have hf := nx_hk hl hc hk
  simp only [PO.wp, D.ev, lenLK_sl, k1] at hf
  simp only [SV.ev, lenLK]
  rcases row_cases ho r with h | ⟨h, hx, _⟩
  · rw [h, objN_live]; exact ⟨rfl, hf⟩
  · rw [hx] at hf ⊢
    rw [h, objN_nil]; exact ⟨rfl, hf⟩
theorem sliceS_ok {s : SS} {a : Opd} {lo hi : Option Opd} {x : D} {dl dh : Option D} (ha : opd s a = .d x) (h1 : xOpt s lo = some dl) (h2 : xOpt s hi = some dh) : OpOk P (.sliceS a lo hi) s (nx s [] (.sliceS x dl dh)) := by
  intro r hl hc hr hnc K hk
  rw [o_sliceS, ← opd_ev, ha, ← D.evo_opt h1, ← D.evo_opt h2]
  exact sliceSK_imp (O := []) (K := fun x _ => K x (stO s r)) (nx_hk hl hc hk) fun v _ hv => hv
theorem sliceL_ok {s : SS} {m : Nat} {a : Opd} {lo hi : Option Opd} {x : D} {dl dh : Option D} (ha : opd s a = .d x) (h1 : xOpt s lo = some dl) (h2 : xOpt s hi = some dh) : OpOk P (.sliceL m a lo hi) s (nx s [] (.sliceL m x dl dh)) := by
  intro r hl hc hr hnc K hk
  rw [o_sliceL, ← opd_ev, ha, ← D.evo_opt h1, ← D.evo_opt h2]
  exact sliceLK_imp (O := []) (K := fun x _ => K x (stO s r)) (nx_hk hl hc hk) fun v _ hv => hv
theorem pick_ok {s : SS} {c a b : Opd} {x : D} {na nb : List Node} {y z : D} (hc' : opd s c = .d x) (ha : asD s.kn (opd s a) = some (na, y)) (hb : asD s.kn (opd s b) = some (nb, z)) : OpOk P (.pick c a b) s (nx s (na ++ nb) (.pick x y z)) := by
  intro r hl hc hr hnc K hk
  have h1 : nvN s.nv (na ++ nb) = s.nv := by rw [nvN_append, asD_nv ha, asD_nv hb]
  simp only [nx, wpN_append] at hk
  obtain ⟨hk, e1⟩ := asD_sound ha hk
  obtain ⟨hk, e2⟩ := asD_sound hb hk
  rw [o_pick, ← opd_ev, ← opd_ev, ← opd_ev, hc', ← e1, ← e2]
  have := PO.wp_imp (o := .pick x y z) hk fun v hv => nx_fin (o := .pick x y z) (K := K) hl hc h1 hv
  exact pickK_imp (O := []) (K := fun x _ => K x (stO s r)) this fun v hv => hv
theorem pickc_ok {s : SS} {c a b : Opd} {t : Bool} (hc' : opd s c = .d (.c (.v (.bool t)))) : OpOk P (.pick c a b) s ([], if t then opd s a else opd s b, s) := by
  intro r hl hc hr hnc K hk
  have := hk rfl
  rw [o_pick, ← opd_ev, hc']
  simp only [SV.ev, D.ev, pickK]
  cases t <;> simpa [opd_ev] using this
theorem norm_fin {s : SS} {r : List AV} (hl : r.length = s.nv) (hc : s.cl = true) {ns : List Node} {cs : List SV} {K : KT}
    (h : wpN P (norm s ns cs).1 r (fun r2 => stE (norm s ns cs).2.2 r2 = stE s r → K ((norm s ns cs).2.1.ev r2) (stO (norm s ns cs).2.2 r2))) : wpN P ns r (fun r2 => K (.agg (SV.evs r2 cs)) (stO s r)) := by
  unfold norm at h
  split at h
  · rename_i ms x hx
    simp only [done, wpN_append] at h
    refine wpN_mono ns (fun m h2 => ?_) h
    obtain ⟨h3, h4⟩ := asD_sound hx h2
    have h5 := h3 (stE_more (s := s) hl hc)
    simp only [SV.ev] at h5 h4
    rw [h4] at h5
    have : stO { s with nv := nvN s.nv (ns ++ ms) } (r ++ m) = stO s r := stO_more (s := s) hl hc
    rwa [this] at h5
  · simp only [done] at h
    refine wpN_mono ns (fun m h2 => ?_) h
    have h5 := h2 (stE_more (s := s) hl hc)
    simp only [SV.ev] at h5
    have : stO { s with nv := nvN s.nv ns } (r ++ m) = stO s r := stO_more (s := s) hl hc
    rwa [this] at h5
end
end Go.Ab
