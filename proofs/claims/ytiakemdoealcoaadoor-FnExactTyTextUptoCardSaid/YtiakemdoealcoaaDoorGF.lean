/-
  NIL SLICES ARE EMPTY ONES, at any depth: what a contract says of the one it says of the other.
-/
import Derived.Test.YtiakemdoealcoaaDoorGM
set_option linter.unusedVariables false
set_option linter.unusedSimpArgs false
set_option linter.defProp false
namespace Go.Ab
set_option maxRecDepth 100000
/-- nil slices are empty ones, at any depth -/
inductive AV.leD : AV → AV → Prop
  | refl (a : AV) : AV.leD a a
  | nil : AV.leD .nils (.sl [])
  | agg (cs ds : List AV) (hl : cs.length = ds.length) (h : ∀ (i : Nat) (c d : AV), cs[i]? = some c → ds[i]? = some d → AV.leD c d) : AV.leD (.agg cs) (.agg ds)
  | sl (xs ys : List AV) (hl : xs.length = ys.length) (h : ∀ (i : Nat) (x y : AV), xs[i]? = some x → ys[i]? = some y → x.cells.length = y.cells.length)
      (hc : ∀ (i : Nat) (x y : AV) (j : Nat) (c d : AV), xs[i]? = some x → ys[i]? = some y → x.cells[j]? = some c → y.cells[j]? = some d → AV.leD c d) : AV.leD (.sl xs) (.sl ys)
theorem get_other {α β : Type} {l : List α} {m : List β} (hl : l.length = m.length) {i : Nat} {y : β} (h : m[i]? = some y) : ∃ x, l[i]? = some x := by
  have := (List.getElem?_eq_some_iff.1 h).1
  exact ⟨l[i], List.getElem?_eq_getElem (by omega)⟩
theorem AV.leD.sound {I : Imm} {L : Nat → Loc} {O : List AObj} {a b : AV} (h : AV.leD a b) : ∀ {x : Value}, R I L O a x → R I L O b x := by
  induction h with
  | refl => intro x hr; exact hr
  | nil => intro x hr; cases hr; exact .sl0 _ _
  | agg cs ds hl h ih =>
    intro x hr
    cases hr with
    | agg _ vs h1 h2 =>
      refine .agg _ _ (by omega) fun i d y hd hy => ?_
      obtain ⟨c, hc⟩ := get_other hl hd
      exact ih i c d hc hd (h2 i c y hc hy)
  | sl xs ys hl h hc ih =>
    intro x hr
    cases hr with
    | sl0 a c =>
      have : ys = [] := by cases ys with | nil => rfl | cons _ _ => simp at hl
      subst this
      exact .sl0 _ _
    | sl _ blk off cap s vals h1 h2 h3 h4 h5 =>
      rw [hl]
      have hg : ∀ (i : Nat) (y : AV) (j : Nat) (d : AV), ys[i]? = some y → y.cells[j]? = some d → ∃ x c, xs[i]? = some x ∧ x.cells[j]? = some c := fun i y j d hy hd => by
        obtain ⟨x, hx⟩ := get_other hl hy
        obtain ⟨c, hcc⟩ := get_other (h i x y hx hy) hd
        exact ⟨x, c, hx, hcc⟩
      refine .sl ys blk off cap s vals (by omega) (by rintro rfl; exact h2 (by cases xs with | nil => rfl | cons _ _ => simp at hl)) (fun i y hy => ?_) (fun i y j d hy hd => ?_) (fun i y j d hy hd => ?_)
      · obtain ⟨x, hx⟩ := get_other hl hy
        rw [← h i x y hx hy]; exact h3 i x hx
      · obtain ⟨x, c, hx, hcc⟩ := hg i y j d hy hd
        exact h4 i x j c hx hcc
      · obtain ⟨x, c, hx, hcc⟩ := hg i y j d hy hd
        exact ih i x y j c d hx hy hcc hd (h5 i x j c hx hcc)
theorem PCon.resD {P : Program} {f : FuncId} {as' : List AV} {a b : AV} (h : PCon P f as' a) (hle : AV.leD a b) : PCon P f as' b := by
  refine ⟨h.1, fun I L w vs hi hr => (h.2 I L w vs hi hr).mono ?_⟩
  rintro e w' ⟨y, I', L', rfl, hy, hg⟩
  exact ⟨y, I', L', rfl, hle.sound hy, hg⟩
end Go.Ab
