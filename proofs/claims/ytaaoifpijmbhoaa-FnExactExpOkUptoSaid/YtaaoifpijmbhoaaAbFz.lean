/-
  AT THE END OF A CALL THAT TOUCHES NOTHING: what it made is not written any more: rows are read as slices.
-/
import Derived.Test.YtaaoifpijmbhoaaAbWalk
set_option linter.unusedVariables false
set_option linter.unusedSimpArgs false
set_option linter.defProp false
namespace Go.Ab

/-- rows as what they read, k levels deep; nil slices as empty ones -/
def fz (O : List AObj) : Nat → AV → AV
  | 0, a => a
  | k + 1, .row n len => match O[n]? with
    | some (.live _ _ xs) => if xs.length = len then .sl (xs.map (fz O k)) else .row n len
    | some (.nil _ _) => if len = 0 then .sl [] else .row n len
    | _ => .row n len
  | _ + 1, .nils => .sl []
  | k + 1, .agg cs => .agg (cs.map (fz O k))
  | k + 1, .tup vs => .tup (vs.map (fz O k))
  | _ + 1, a => a

open Classical in
noncomputable def allI (I : Imm) (L : Nat → Loc) (O : List AObj) (w : World) : Imm := fun b o => if LB L O b then w.cell? ⟨b, o, none⟩ else I b o

theorem allI_le {I : Imm} {L : Nat → Loc} {O : List AObj} {w : World} (hi : Inv I L O w) : ∀ b o x, I b o = some x → allI I L O w b o = some x := by
  intro b o x hx
  unfold allI
  split
  · exact hi.imm b o x hx
  · exact hx

theorem fz_width {O : List AObj} {k : Nat} {x : AV} : (fz O k x).cells.length = x.cells.length := by
  cases k with
  | zero => rfl
  | succ k =>
    cases x <;> simp only [fz] <;> try rfl
    · split
      · split <;> rfl
      · split <;> rfl
      · rfl
    · simp [AV.cells]

theorem fz_sound {I : Imm} {L : Nat → Loc} {O : List AObj} {w : World} (hi : Inv I L O w) : ∀ (k : Nat) {a : AV} {x : Value}, R I L O a x → (fz O k a).noref = true → R (allI I L O w) L [] (fz O k a) x := by
  intro k
  induction k with
  | zero => intro a x hr hn; exact hr.noref (allI_le hi) hn
  | succ k ih =>
    intro a x hr hn
    cases a
    case row n len =>
      simp only [fz] at hn ⊢
      cases hO : O[n]? with
      | none => simp only [hO] at hn; simp [AV.noref] at hn
      | some ob =>
        cases ob with
        | dead => simp only [hO] at hn; simp [AV.noref] at hn
        | nil e s =>
          simp only [hO] at hn ⊢
          obtain ⟨rfl, rfl⟩ := hr.row_nil hO
          rw [if_pos rfl]
          exact .sl0 _ _
        | live e s xs =>
          simp only [hO] at hn ⊢
          by_cases hl : xs.length = len
          · rw [if_pos hl] at hn ⊢
            have := hr.row_live hO hl
            subst this
            obtain ⟨c, h1, h2, h3, h4, h5, h6⟩ := hi.obj n e s xs hO
            have hlb : LB L O (L n).blk := ⟨n, e, s, xs, hO, rfl⟩
            by_cases hx : xs = []
            · subst hx; simp at hl; subst hl; exact .sl0 _ _
            · subst hl
              have hgetm : ∀ {i : Nat} {y : AV}, (xs.map (fz O k))[i]? = some y → ∃ x, xs[i]? = some x ∧ y = fz O k x := by
                intro i y hy
                simp only [List.getElem?_map, Option.map_eq_some_iff] at hy
                obtain ⟨x, hx, rfl⟩ := hy
                exact ⟨x, hx, rfl⟩
              have hnm : ∀ x ∈ xs, (fz O k x).noref = true := fun x hx => norefs_mem (by simpa [AV.noref] using hn) _ (List.mem_map.2 ⟨x, hx, rfl⟩)
              -- each element: its cells
              have key : ∀ (i : Nat) (x : AV), xs[i]? = some x → ∀ (j : Nat) (d : AV), (fz O k x).cells[j]? = some d → ∃ y, c[i * s + j]? = some y ∧ y.oneCell' = true ∧ R (allI I L O w) L [] d y := by
                intro i x hx j d hd
                obtain ⟨q1, q2⟩ := h6 i x hx
                have hno := hnm x (List.mem_of_getElem? hx)
                by_cases hag : x.isAgg = true
                · cases k with
                  | zero =>
                    obtain ⟨y, hy, ho, hr'⟩ := q2 j d hd
                    exact ⟨y, hy, ho, hr'.noref (allI_le hi) (noref_cells hno d (List.mem_of_getElem? hd))⟩
                  | succ k =>
                    -- the aggregate as a whole
                    have hsz : ∀ j, j < s → ∃ y, c[i * s + j]? = some y ∧ y.oneCell' = true ∧ ∀ d, x.cells[j]? = some d → R I L O d y := by
                      intro j hj
                      obtain ⟨y, hy, ho, hr'⟩ := q2 j (x.cells[j]'(by omega)) (by simp)
                      exact ⟨y, hy, ho, fun d hd => by rw [List.getElem?_eq_getElem (by omega)] at hd; cases hd; exact hr'⟩
                    have hjs : j < s := by rw [← q1, ← fz_width (O := O) (k := k + 1)]; exact (List.getElem?_eq_some_iff.1 hd).1
                    let vs : Array Value := ((List.range s).map fun j => (c[i * s + j]?).getD undef).toArray
                    have hra : R I L O x (.agg vs) := by
                      rw [AV.agg_of hag]
                      refine .agg _ _ (by simp [vs, q1]) fun j' d' v hd' hv => ?_
                      have hj's : j' < s := by rw [← q1]; exact (List.getElem?_eq_some_iff.1 hd').1
                      obtain ⟨y, hy, _, hr'⟩ := hsz j' hj's
                      simp [vs, hj's, hy] at hv
                      subst hv
                      exact hr' d' hd'
                    have hrf := ih hra hno
                    rw [AV.agg_of hag] at hrf hd
                    simp only [fz] at hrf hd
                    cases hrf with
                    | agg _ _ hl' hr' =>
                      obtain ⟨y, hy, ho, _⟩ := hsz j hjs
                      exact ⟨y, hy, ho, hr' j d y hd (by simp [vs, hjs, hy])⟩
                · have hcells : x.cells = [x] := by cases x <;> first | rfl | (simp [AV.isAgg] at hag; done)
                  have hfc : (fz O k x).cells = [fz O k x] := by
                    cases k with
                    | zero => exact hcells
                    | succ k =>
                      cases x <;> simp only [fz] <;> try rfl
                      · split
                        · split <;> rfl
                        · split <;> rfl
                        · rfl
                      · simp [AV.isAgg] at hag
                  rw [hfc] at hd
                  cases j with
                  | zero =>
                    simp at hd; subst hd
                    obtain ⟨y, hy, ho, hr'⟩ := q2 0 x (by simp [hcells])
                    exact ⟨y, hy, ho, ih hr' hno⟩
                  | succ j => simp at hd
              rw [show xs.length = (xs.map (fz O k)).length by simp]
              refine (.sl (xs.map (fz O k)) (L n).blk 0 (L n).cap s (fun i j => (c[i * s + j]?).getD undef) (by simpa using h3) (by simpa using hx) (fun i y hy => ?_) (fun i y j d hy hd => ?_) fun i y j d hy hd => ?_)
              · obtain ⟨x, hx, rfl⟩ := hgetm hy; rw [fz_width]; exact (h6 i x hx).1
              · obtain ⟨x, hx, rfl⟩ := hgetm hy
                obtain ⟨z, hz, ho, _⟩ := key i x hx j d hd
                unfold allI
                rw [if_pos hlb, Nat.zero_add, cell_cells h1, hz]
                exact ⟨rfl, ho⟩
              · obtain ⟨x, hx, rfl⟩ := hgetm hy
                obtain ⟨z, hz, ho, hr'⟩ := key i x hx j d hd
                rw [hz]; exact hr'
          · rw [if_neg hl] at hn; simp [AV.noref] at hn
    case nils => cases hr; exact .sl0 _ _
    case agg cs =>
      cases hr with
      | agg _ vs hl hr =>
        simp only [fz] at hn ⊢
        refine .agg _ _ (by simpa using hl) fun i c v hc hv => ?_
        simp only [List.getElem?_map, Option.map_eq_some_iff] at hc
        obtain ⟨d, hd, rfl⟩ := hc
        exact ih (hr i d v hd hv) (norefs_mem (by simpa [AV.noref] using hn) _ (List.mem_map.2 ⟨d, List.mem_of_getElem? hd, rfl⟩))
    case tup cs =>
      cases hr with
      | tup _ vs hl hr =>
        simp only [fz] at hn ⊢
        refine .tup _ _ (by simpa using hl) fun i c v hc hv => ?_
        simp only [List.getElem?_map, Option.map_eq_some_iff] at hc
        obtain ⟨d, hd, rfl⟩ := hc
        exact ih (hr i d v hd hv) (norefs_mem (by simpa [AV.noref] using hn) _ (List.mem_map.2 ⟨d, List.mem_of_getElem? hd, rfl⟩))
    all_goals exact hr.noref (allI_le hi) hn

theorem Good.all {I0 I : Imm} {L0 L : Nat → Loc} {O : List AObj} {w0 w : World} (h : Good I0 L0 [] w0 I L O w) : Good I0 L0 [] w0 (allI I L O w) L [] w := by
  refine ⟨⟨fun b o x hx => ?_, by simp, by simp, by simp⟩, ⟨fun b o x hx => allI_le h.inv _ _ _ (h.ext.imm _ _ _ hx), by simp, by simp, by simp⟩, h.frm, ?_, fun b o x hx => ?_⟩
  · unfold allI at hx
    split at hx
    · exact hx
    · exact h.inv.imm b o x hx
  · rintro b ⟨n, e, s, xs, hn, _⟩; simp at hn
  · unfold allI at hx
    split at hx
    · rename_i hlb
      rcases h.lb b hlb with ⟨n, e, s, xs, hn, _⟩ | h1
      · simp at hn
      · exact .inr (.inr h1)
    · exact h.immNew b o x hx

/-- THE END OF A CALL THAT TOUCHES NOTHING. -/
theorem pret {rs : List ARes} {res : AV} {x : AX} (hx : x = .ret ∨ x = .normal) {e : Env} {O : List AObj} (k : Nat) (h : resK e O rs [] fun xs => fz O k (packR xs) = res) (hs : res.noref = true) : retK 0 rs res [] x e O := by
  have key : ∀ (rs : List ARes) (acc : List AV) (M M' : List AV → Prop), (∀ xs, M xs → M' xs) → resK e O rs acc M → resK e O rs acc M' := by
    intro rs
    induction rs with
    | nil => intro acc M M' hm h; exact hm _ h
    | cons r rs ih =>
      intro acc M M' hm h
      cases r with
      | tmp t => exact ih _ _ _ hm h
      | cell t n =>
        simp only [resK, ARes.get] at h ⊢
        split at h
        · split at h
          · exact ⟨h.1, ih _ _ _ hm h.2⟩
          · exact h.elim
        · exact h.elim
  have : resK e O rs [] fun xs => ∃ e', WK 0 (fun t => if t = 0 then packR xs else .top) O e' [] ∧ e' 0 = res := by
    refine key rs _ _ _ (fun xs hp => ⟨fun t => if t = 0 then res else .top, ?_, rfl⟩) h
    intro I0 L0 O0 w0 I L w f hl hg hr
    obtain rfl : O0 = [] := List.eq_nil_of_length_eq_zero hl
    refine ⟨_, L, hg.all, fun t => ?_⟩
    by_cases ht : t = 0
    · subst ht
      have h0 := hr 0
      simp only [if_true] at h0 ⊢
      rw [← hp] at hs ⊢
      exact fz_sound hg.inv k h0 hs
    · simp only [if_neg ht]; exact .top _
  rcases hx with rfl | rfl <;> exact this

theorem fz_v (O : List AObj) (k : Nat) (x : Value) : fz O k (.v x) = .v x := by cases k <;> rfl
theorem fz_sl (O : List AObj) (k : Nat) (xs : List AV) : fz O k (.sl xs) = .sl xs := by cases k <;> rfl
theorem fz_nils (O : List AObj) (k : Nat) : fz O (k + 1) .nils = .sl [] := nr rfl
theorem fz_agg (O : List AObj) (k : Nat) (cs : List AV) : fz O (k + 1) (.agg cs) = .agg (cs.map (fz O k)) := nr rfl
theorem fz_tup (O : List AObj) (k : Nat) (cs : List AV) : fz O (k + 1) (.tup cs) = .tup (cs.map (fz O k)) := nr rfl
theorem fz_row {O : List AObj} {k n len e s : Nat} {xs : List AV} (h : O[n]? = some (.live e s xs)) (hl : xs.length = len) : fz O (k + 1) (.row n len) = .sl (xs.map (fz O k)) := by simp [fz, h, hl]
theorem resK_nil (e : Env) (O : List AObj) (acc : List AV) (M : List AV → Prop) : resK e O [] acc M = M acc.reverse := nr rfl
theorem resK_tmp (e : Env) (O : List AObj) (t : Nat) (rs : List ARes) (acc : List AV) (M : List AV → Prop) : resK e O (.tmp t :: rs) acc M = resK e O rs (e t :: acc) M := nr rfl
def cellOK (o : Option AObj) (n : Option Nat) (K : AV → Prop) : Prop := match o with
  | some (.live _ _ [x]) => n.getD 1 ≤ x.cells.length ∧ K (loadC n x 0)
  | _ => False
def cellK (a : AV) (O : List AObj) (n : Option Nat) (K : AV → Prop) : Prop := match a with
  | .ptr k 1 0 0 => cellOK O[k]? n K
  | _ => False
theorem resK_cell (e : Env) (O : List AObj) (t : Nat) (n : Option Nat) (rs : List ARes) (acc : List AV) (M : List AV → Prop) : resK e O (.cell t n :: rs) acc M = cellK (e t) O n fun x => resK e O rs (x :: acc) M := nr rfl
theorem cellK_ptr (k : Nat) (O : List AObj) (n : Option Nat) (K : AV → Prop) : cellK (.ptr k 1 0 0) O n K = cellOK O[k]? n K := nr rfl
theorem cellOK_live (t s : Nat) (x : AV) (n : Option Nat) (K : AV → Prop) : cellOK (some (.live t s [x])) n K = (n.getD 1 ≤ x.cells.length ∧ K (loadC n x 0)) := nr rfl
theorem packR_one (x : AV) : packR [x] = x := nr rfl
theorem packR_more (x y : AV) (l : List AV) : packR (x :: y :: l) = .tup (x :: y :: l) := nr rfl

theorem frz_v (O : List AObj) (x : Value) : frz O (.v x) = .v x := nr rfl
theorem frz_sl (O : List AObj) (xs : List AV) : frz O (.sl xs) = .sl xs := nr rfl
theorem frz_nils (O : List AObj) : frz O .nils = .nils := nr rfl
theorem frz_agg (O : List AObj) (xs : List AV) : frz O (.agg xs) = .agg xs := nr rfl
theorem frz_fn (O : List AObj) (f : FuncId) (xs : List AV) : frz O (.fn f xs) = .fn f xs := nr rfl
theorem upd_one {a b y : AV} {cs : List AV} {i : Nat} (hy : y.cells = [y]) (h : i < (a :: b :: cs).length) : upd (.agg (a :: b :: cs)) i y = .agg ((a :: b :: cs).set i y) := by
  unfold upd
  rw [hy, if_neg (by simp [AV.cells])]
  simp only [AV.cells, List.length_singleton, List.append_assoc, List.singleton_append]
  rw [List.set_eq_take_append_cons_drop, if_pos h]
theorem upd_v {a b : AV} {cs : List AV} {i : Nat} (x : Value) (h : i < (a :: b :: cs).length) : upd (.agg (a :: b :: cs)) i (.v x) = .agg ((a :: b :: cs).set i (.v x)) := upd_one rfl h
theorem upd_sl {a b : AV} {cs : List AV} {i : Nat} (x : List AV) (h : i < (a :: b :: cs).length) : upd (.agg (a :: b :: cs)) i (.sl x) = .agg ((a :: b :: cs).set i (.sl x)) := upd_one rfl h
theorem upd_nils {a b : AV} {cs : List AV} {i : Nat} (h : i < (a :: b :: cs).length) : upd (.agg (a :: b :: cs)) i .nils = .agg ((a :: b :: cs).set i .nils) := upd_one rfl h
theorem upd_row {a b : AV} {cs : List AV} {i : Nat} (n l : Nat) (h : i < (a :: b :: cs).length) : upd (.agg (a :: b :: cs)) i (.row n l) = .agg ((a :: b :: cs).set i (.row n l)) := upd_one rfl h
theorem upd_ptr {a b : AV} {cs : List AV} {i : Nat} (n l j f : Nat) (h : i < (a :: b :: cs).length) : upd (.agg (a :: b :: cs)) i (.ptr n l j f) = .agg ((a :: b :: cs).set i (.ptr n l j f)) := upd_one rfl h
theorem upd_fn {a b : AV} {cs : List AV} {i : Nat} (f : FuncId) (l : List AV) (h : i < (a :: b :: cs).length) : upd (.agg (a :: b :: cs)) i (.fn f l) = .agg ((a :: b :: cs).set i (.fn f l)) := upd_one rfl h
theorem upd_agg {cs ds : List AV} {i : Nat} (h : i ≠ 0) : upd (.agg cs) i (.agg ds) = .agg (cs.take i ++ (ds ++ cs.drop (i + ds.length))) := by
  unfold upd
  rw [if_neg (by simp [h])]
  simp [AV.cells]
theorem upd_agg0 {cs ds : List AV} (h : ds.length < cs.length) : upd (.agg cs) 0 (.agg ds) = .agg (ds ++ cs.drop ds.length) := by
  unfold upd
  rw [if_neg (by simp [AV.cells]; omega)]
  simp [AV.cells]

/-- the same slots; the objects from k on are forgotten -/
theorem WK.forgetE {n0 : Nat} {O O' : List AObj} (k : Nat) {l l' : List (Nat × AV)} (h : envL l' = envL l) (hO : O.take k = O') (h0 : n0 ≤ k) (hk : k ≤ O.length) (hb : O'.all (fun ob => ob.inScope k) = true)
    (hs : l.all (fun p => p.2.inScope k) = true) : WK n0 (envL l') O (envL l) O' := by
  rw [h]
  refine .forget hO h0 hk (fun ob ho => List.all_eq_true.1 hb ob ho) fun t => ?_
  have key : envL l t = .top ∨ (envL l t).inScope k = true := by
    clear h
    induction l with
    | nil => exact .inl rfl
    | cons p l ih =>
      obtain ⟨q, a⟩ := p
      simp only [List.all_cons, Bool.and_eq_true] at hs
      simp only [envL_cons]
      split
      · exact .inr hs.1
      · exact ih hs.2
  exact key.imp id fun h => ⟨rfl, h⟩

theorem dlt0 (n : Nat) : decide ((n : Int) < 0) = false := by simp

end Go.Ab
