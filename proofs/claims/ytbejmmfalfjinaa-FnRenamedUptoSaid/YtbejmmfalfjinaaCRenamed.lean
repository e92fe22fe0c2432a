/-
  FnRenamed: trees of two functions about a variable.
-/
import Derived.Test.YtbejmmfalfjinaaCAlpha4
import Derived.Test.YtbejmmfalfjinaaGM
set_option linter.unusedVariables false
set_option linter.unusedSimpArgs false
set_option linter.defProp false
namespace Go.Ab
set_option maxRecDepth 100000
set_option maxHeartbeats 4000000
/-- nil slices are empty ones, at any depth -/
inductive AV.leD : AV → AV → Prop
  | refl (a : AV) : AV.leD a a
  | nil : AV.leD .nils (.sl [])
  | agg (cs ds : List AV) (hl : cs.length = ds.length) (h : ∀ (i : Nat) (c d : AV), cs[i]? = some c → ds[i]? = some d → AV.leD c d) : AV.leD (.agg cs) (.agg ds)
  | sl (xs ys : List AV) (hl : xs.length = ys.length) (h : ∀ (i : Nat) (x y : AV), xs[i]? = some x → ys[i]? = some y → x.cells.length = y.cells.length)
      (hc : ∀ (i : Nat) (x y : AV) (j : Nat) (c d : AV), xs[i]? = some x → ys[i]? = some y → x.cells[j]? = some c → y.cells[j]? = some d → AV.leD c d) : AV.leD (.sl xs) (.sl ys)
theorem get_other {α β : Type} {l : List α} {m : List β} (hl : l.length = m.length) {i : Nat} {y : β} (h : m[i]? = some y) : ∃ x, l[i]? = some x := by
  have := (List.getElem?_eq_some_iff.1 h).1
  exact ⟨l[i], List.getElem?_eq_getElem (by omega)⟩
theorem AV.leD.sound {I : Imm} {L : Nat → Loc} {O : List AObj} {a b : AV} (h : AV.leD a b) : ∀ {x : Value}, R I L O a x → R I L O b x := by
  induction h with
  | refl => intro x hr; exact hr
  | nil => intro x hr; cases hr; exact .sl0 _ _
  | agg cs ds hl h ih =>
    intro x hr
    cases hr with
    | agg _ vs h1 h2 =>
      refine .agg _ _ (by omega) fun i d y hd hy => ?_
      obtain ⟨c, hc⟩ := get_other hl hd
      exact ih i c d hc hd (h2 i c y hc hy)
  | sl xs ys hl h hc ih =>
    intro x hr
    cases hr with
    | sl0 a c =>
      have : ys = [] := by cases ys with | nil => rfl | cons _ _ => simp at hl
      subst this
      exact .sl0 _ _
    | sl _ blk off cap s vals h1 h2 h3 h4 h5 =>
      rw [hl]
      have hg : ∀ (i : Nat) (y : AV) (j : Nat) (d : AV), ys[i]? = some y → y.cells[j]? = some d → ∃ x c, xs[i]? = some x ∧ x.cells[j]? = some c := fun i y j d hy hd => by
        obtain ⟨x, hx⟩ := get_other hl hy
        obtain ⟨c, hcc⟩ := get_other (h i x y hx hy) hd
        exact ⟨x, c, hx, hcc⟩
      refine .sl ys blk off cap s vals (by omega) (by rintro rfl; exact h2 (by cases xs with | nil => rfl | cons _ _ => simp at hl)) (fun i y hy => ?_) (fun i y j d hy hd => ?_) (fun i y j d hy hd => ?_)
      · obtain ⟨x, hx⟩ := get_other hl hy
        rw [← h i x y hx hy]; exact h3 i x hx
      · obtain ⟨x, c, hx, hcc⟩ := hg i y j d hy hd
        exact h4 i x j c hx hcc
      · obtain ⟨x, c, hx, hcc⟩ := hg i y j d hy hd
        exact ih i x y j c d hx hy hcc hd (h5 i x j c hx hcc)
theorem PCon.argsD {P : Program} {f : FuncId} {as' bs : List AV} {res : AV} (h : PCon P f bs res) (hl : as'.length = bs.length) (hle : ∀ (i : Nat) (a b : AV), as'[i]? = some a → bs[i]? = some b → AV.leD a b) : PCon P f as' res := by
  refine ⟨h.1, fun I L w vs hi hr => h.2 I L w vs hi ⟨by rw [← hl]; exact hr.1, fun i b x hb hx => ?_⟩⟩
  obtain ⟨a, ha⟩ := get_other hl hb
  exact (hle i _ _ ha hb).sound (hr.2 i _ x ha hx)
def nodeV (k : Int) (x : ByteArray) (kids : AV) : AV := .agg [avI k, avB x, avI 0, avB ⟨#[]⟩, avI 0, kids, .nils]
def funE (x y z : ByteArray) : VExp := .mk 8 x 0 ⟨#[]⟩ 0 [.mk 8 y 0 ⟨#[]⟩ 0 [.mk 5 z 0 ⟨#[]⟩ 0 [] []] []] []
def funV (x y z : ByteArray) : AV := nodeV 8 x (.sl [nodeV 8 y (.sl [nodeV 5 z .nils])])
theorem nodeV_le {k : Int} {x : ByteArray} {a b : AV} (h : AV.leD a b) : AV.leD (nodeV k x a) (.agg [avI k, avB x, avI 0, avB ⟨#[]⟩, avI 0, b, .sl []]) := by
  refine .agg _ _ rfl fun i c d hc hd => ?_
  match i, hc, hd with
  | 0, hc, hd | 1, hc, hd | 2, hc, hd | 3, hc, hd | 4, hc, hd => simp at hc hd; subst hc; subst hd; exact .refl _
  | 5, hc, hd => simp at hc hd; subst hc; subst hd; exact h
  | 6, hc, hd => simp at hc hd; subst hc; subst hd; exact .nil
  | i + 7, hc, hd => simp at hc
theorem one_le {cs ds : List AV} (h : AV.leD (.agg cs) (.agg ds)) : AV.leD (.sl [.agg cs]) (.sl [.agg ds]) := by
  have hq : cs.length = ds.length ∧ ∀ (j : Nat) (c d : AV), cs[j]? = some c → ds[j]? = some d → AV.leD c d := by
    cases h with
    | refl => exact ⟨rfl, fun j c d hc hd => by rw [hc] at hd; cases hd; exact .refl _⟩
    | agg _ _ hl h => exact ⟨hl, h⟩
  refine .sl _ _ rfl (fun i x y hx hy => ?_) (fun i x y j c d hx hy hc hd => ?_)
  · match i, hx, hy with
    | 0, hx, hy => simp at hx hy; subst hx; subst hy; exact hq.1
    | i + 1, hx, hy => simp at hx
  · match i, hx, hy with
    | 0, hx, hy => simp at hx hy; subst hx; subst hy; exact hq.2 j c d hc hd
    | i + 1, hx, hy => simp at hx
theorem funV_le (x y z : ByteArray) : AV.leD (funV x y z) (funE x y z).av :=
  nodeV_le (one_le (nodeV_le (one_le (nodeV_le .nil))))
theorem bound2 (x y z : ByteArray) : boundAt [x, y] z = if y = z then 1 else if x = z then 0 else -1 := by
  simp [boundAt, downAt]
end Go.Ab
namespace Go.Proofs.Ab
open Go.Ab
set_option maxRecDepth 100000
set_option maxHeartbeats 4000000
theorem funE_ok (x y z : ByteArray) (hx : lowM x = true) (hy : lowM y = true) (hz : lowM z = true) : (funE x y z).okM = true := by
  simp [funE, VExp.okM, VExp.allOk, VArm.allOk, VExp.headM, VExp.plainX, VExp.Kind, VExp.Pos, VExp.Name, VExp.Num, VExp.Text, VExp.Arms, VExp.Kids, emp, hx, hy, hz]
theorem funE_alpha (x y z p q r : ByteArray) : (funE x y z).alpha (funE p q r) [] [] = (decide (boundAt [x, y] z = boundAt [p, q] r) && (decide (0 ≤ boundAt [x, y] z) || decide (z = r))) := by
  simp [funE, VExp.alpha, VExp.alphas, VArm.alphas, VExp.Kind, VExp.Num, VExp.Name, VExp.Text, VExp.Kids, VExp.Arms, bindE, bindK]
  rfl
theorem alpha3_c (x y z p q r : ByteArray) (hs : x.size ≤ 9 ∧ y.size ≤ 9 ∧ z.size ≤ 9 ∧ p.size ≤ 9 ∧ q.size ≤ 9 ∧ r.size ≤ 9) (hx : lowM x = true) (hy : lowM y = true) (hz : lowM z = true) (hp : lowM p = true) (hq : lowM q = true) (hr : lowM r = true) :
    PCon Try.prog F.impl_Alpha [funV x y z, funV p q r] (.v (.bool (decide (boundAt [x, y] z = boundAt [p, q] r) && (decide (0 ≤ boundAt [x, y] z) || decide (z = r))))) := by
  have h := impl_Alpha_c (funE x y z) (funE p q r) (by have : (⟨#[]⟩ : ByteArray).size = 0 := rfl; simp [VExp.wt_eq, funE, VExp.Name, VExp.Text, VExp.Kids, VExp.Arms]; omega) (by have : (⟨#[]⟩ : ByteArray).size = 0 := rfl; simp [VExp.wt_eq, funE, VExp.Name, VExp.Text, VExp.Kids, VExp.Arms]; omega)
  rw [funE_ok x y z hx hy hz, funE_ok p q r hp hq hr, funE_alpha, Bool.true_and, Bool.true_and] at h
  refine h.argsD rfl fun i a b ha hb => ?_
  match i, ha, hb with
  | 0, ha, hb => simp at ha hb; subst ha; subst hb; exact funV_le _ _ _
  | 1, ha, hb => simp at ha hb; subst ha; subst hb; exact funV_le _ _ _
  | i + 2, ha, hb => simp at ha
theorem laws_big_c (l : List Int) (hl : l.length ≤ 1048576) : PCon Try.prog F.laws_big [.sl (bys l)] (.v (.bool false)) := by
  refine T.laws_big_con rfl (by simp [AV.norefs, AV.noref, bys_noref]) ?_
  have d0 : decide ((1048576 : Int) < (l.length : Int)) = false := decide_eq_false (by omega)
  simp only [T.laws_big, List.length_map, d0, W00, W01, W02, W03, W04, W05, W06, W07, W08, W09, Nat.reduceEqDiff, Nat.reduceAdd, Nat.reduceLT, Nat.reduceLeDiff, Nat.reduceMul, reduceIte, reduceCtorEq, Int.reduceEq, Int.reduceLT, Int.reduceLE, Int.reduceNe]
def atM (l : List Int) (i : Nat) : Int := if h : i < l.length then l[i] else (((i * 31 + l.length * 7 : Nat) : Int)).tmod 256
theorem tmod_range (n : Nat) : 0 ≤ (n : Int).tmod 256 ∧ (n : Int).tmod 256 < 256 := by
  have : (n : Int).tmod 256 = ((n % 256 : Nat) : Int) := rfl
  omega
theorem atM_range (l : List Int) (hb : ∀ x ∈ l, 0 ≤ x ∧ x < 256) (i : Nat) : 0 ≤ atM l i ∧ atM l i < 256 := by
  unfold atM
  split
  · exact hb _ (List.getElem_mem _)
  · exact tmod_range _
theorem laws_at_c (l : List Int) (i : Nat) (hl : l.length ≤ 1048576) (hi : i ≤ 1000) (hb : ∀ x ∈ l, 0 ≤ x ∧ x < 256) : PCon Try.prog F.laws_at [.sl (bys l), avI i] (avI (atM l i)) := by
  have hr := atM_range l hb i
  refine T.laws_at_con rfl (by simp [AV.norefs, AV.noref, bys_noref]) ?_
  simp only [T.laws_at, List.length_map, W00, W01, W02, W03, W04, W05, W06, W07, W08, W09, Nat.reduceEqDiff, Nat.reduceAdd, Nat.reduceLT, Nat.reduceLeDiff, Nat.reduceMul, reduceIte, reduceCtorEq, Int.reduceEq, Int.reduceLT, Int.reduceLE, Int.reduceNe]
  refine ite_dec (fun h => ?_) (fun h => ?_)
  · have hlt : i < l.length := by omega
    simp only [W00, W01, W02, W03, W04, W05, W06, W07, W08, W09, Nat.reduceEqDiff, Nat.reduceAdd, Nat.reduceLT, Nat.reduceLeDiff, Nat.reduceMul, reduceIte, reduceCtorEq, Int.reduceEq, Int.reduceLT, Int.reduceLE, Int.reduceNe]
    refine elemM by1 hlt rfl ?_
    have hx := hb _ (List.getElem_mem hlt)
    have e1 : atM l i = l[i] := by rw [atM, dif_pos hlt]
    have e2 : IntKind.i64.wrap l[i] = l[i] := wrapI (by omega) (by omega)
    simp only [e1, e2, W00, W01, W02, W03, W04, W05, W06, W07, W08, W09, Nat.reduceEqDiff, Nat.reduceAdd, Nat.reduceLT, Nat.reduceLeDiff, Nat.reduceMul, reduceIte, reduceCtorEq, Int.reduceEq, Int.reduceLT, Int.reduceLE, Int.reduceNe]
  · have e1 : atM l i = (((i * 31 + l.length * 7 : Nat) : Int)).tmod 256 := by rw [atM, dif_neg (by omega)]
    have e2 : IntKind.i64.wrap ((i : Int) * 31) = ((i * 31 : Nat) : Int) := by rw [wrapI (by omega) (by omega)]; omega
    have e3 : IntKind.i64.wrap ((l.length : Int) * 7) = ((l.length * 7 : Nat) : Int) := by rw [wrapI (by omega) (by omega)]; omega
    have e4 : IntKind.i64.wrap (((i * 31 : Nat) : Int) + ((l.length * 7 : Nat) : Int)) = ((i * 31 + l.length * 7 : Nat) : Int) := by rw [wrapI (by omega) (by omega)]; omega
    have e5 : IntKind.i64.wrap ((((i * 31 + l.length * 7 : Nat) : Int)).tmod 256) = (((i * 31 + l.length * 7 : Nat) : Int)).tmod 256 := by have := tmod_range (i * 31 + l.length * 7); exact wrapI (by omega) (by omega)
    simp only [e2, e3, e4, e5, e1, List.length_map, W00, W01, W02, W03, W04, W05, W06, W07, W08, W09, Nat.reduceEqDiff, Nat.reduceAdd, Nat.reduceLT, Nat.reduceLeDiff, Nat.reduceMul, reduceIte, reduceCtorEq, Int.reduceEq, Int.reduceLT, Int.reduceLE, Int.reduceNe]
def nA : ByteArray := ⟨#[97]⟩
def nB : ByteArray := ⟨#[98]⟩
def nC : ByteArray := ⟨#[99]⟩
theorem name3 (v : Int) (h0 : 0 ≤ v) : ∃ (i : Nat) (x : ByteArray), v.tmod 3 = i ∧ i < 3 ∧ [AV.v (.string ⟨#[97]⟩), AV.v (.string ⟨#[98]⟩), AV.v (.string ⟨#[99]⟩)].getD i .top = AV.v (.string x) ∧ lowM x = true ∧ x.size = 1 := by
  obtain ⟨n, rfl⟩ : ∃ n : Nat, v = n := ⟨v.toNat, by omega⟩
  have h : n % 3 < 3 := Nat.mod_lt _ (by omega)
  refine ⟨n % 3, ?_⟩
  generalize hk : n % 3 = k at h
  have he : Int.tmod (n : Int) 3 = (k : Nat) := by rw [← hk]; rfl
  match k, h with
  | 0, _ => exact ⟨nA, he, by omega, rfl, by decide, rfl⟩
  | 1, _ => exact ⟨nB, he, by omega, rfl, by decide, rfl⟩
  | 2, _ => exact ⟨nC, he, by omega, rfl, by decide, rfl⟩
theorem law_FnRenamed (x0 : List Int) (hb : x0.length ≤ 1048576) (ho0 : ∀ y ∈ x0, 0 ≤ y ∧ y < 256) : PCon Try.prog F.laws_FnRenamed [.sl (x0.map fun y => .v (.int .u8 y))] (.v (.bool true)) := by
  refine T.laws_FnRenamed_con rfl (by simp only [AV.norefs, AV.noref, Bool.and_true]; exact bys_noref x0) ?_
  simp only [T.laws_FnRenamed, W00, W01, W02, W03, W04, W05, W06, W07, W08, W09, Nat.reduceEqDiff, Nat.reduceAdd, Nat.reduceLT, Nat.reduceLeDiff, Nat.reduceMul, reduceIte, reduceCtorEq, Int.reduceEq, Int.reduceLT, Int.reduceLE, Int.reduceNe]
  refine call_v (laws_big_c x0 hb) ?_
  simp only [W00, W01, W02, W03, W04, W05, W06, W07, W08, W09, Nat.reduceEqDiff, Nat.reduceAdd, Nat.reduceLT, Nat.reduceLeDiff, Nat.reduceMul, reduceIte, reduceCtorEq, Int.reduceEq, Int.reduceLT, Int.reduceLE, Int.reduceNe]
  refine call_v (laws_at_c x0 0 hb (by omega) ho0) ?_
  obtain ⟨i0, x, e0, l0, g0, lx, sx⟩ := name3 (atM x0 0) (atM_range x0 ho0 0).1
  obtain ⟨i1, y, e1, l1, g1, ly, sy⟩ := name3 (atM x0 1) (atM_range x0 ho0 1).1
  obtain ⟨i2, z, e2, l2, g2, lz, sz⟩ := name3 (atM x0 2) (atM_range x0 ho0 2).1
  have w0 : IntKind.i64.wrap (i0 : Int) = i0 := wrapI (by omega) (by omega)
  have w1 : IntKind.i64.wrap (i1 : Int) = i1 := wrapI (by omega) (by omega)
  have w2 : IntKind.i64.wrap (i2 : Int) = i2 := wrapI (by omega) (by omega)
  simp only [e0, w0, Int.toNat_natCast, g0, W00, W01, W02, W03, W04, W05, W06, W07, W08, W09, Nat.reduceEqDiff, Nat.reduceAdd, Nat.reduceLT, Nat.reduceLeDiff, Nat.reduceMul, reduceIte, reduceCtorEq, Int.reduceEq, Int.reduceLT, Int.reduceLE, Int.reduceNe]
  refine ⟨by omega, by omega, ?_⟩
  refine call_v (laws_at_c x0 1 hb (by omega) ho0) ?_
  simp only [e1, w1, Int.toNat_natCast, g1, W00, W01, W02, W03, W04, W05, W06, W07, W08, W09, Nat.reduceEqDiff, Nat.reduceAdd, Nat.reduceLT, Nat.reduceLeDiff, Nat.reduceMul, reduceIte, reduceCtorEq, Int.reduceEq, Int.reduceLT, Int.reduceLE, Int.reduceNe]
  refine ⟨by omega, by omega, ?_⟩
  refine call_v (laws_at_c x0 2 hb (by omega) ho0) ?_
  simp only [e2, w2, Int.toNat_natCast, g2, W00, W01, W02, W03, W04, W05, W06, W07, W08, W09, Nat.reduceEqDiff, Nat.reduceAdd, Nat.reduceLT, Nat.reduceLeDiff, Nat.reduceMul, reduceIte, reduceCtorEq, Int.reduceEq, Int.reduceLT, Int.reduceLE, Int.reduceNe]
  refine ⟨by omega, by omega, ?_⟩
  have z0 : (⟨#[]⟩ : ByteArray).size = 0 := rfl
  have hi := alpha3_c x y z ⟨#[112]⟩ ⟨#[113]⟩ ⟨#[113]⟩ ⟨by omega, by omega, by omega, by decide, by decide, by decide⟩ lx ly lz (by decide) (by decide) (by decide)
  have ho := alpha3_c x y z ⟨#[112]⟩ ⟨#[113]⟩ ⟨#[112]⟩ ⟨by omega, by omega, by omega, by decide, by decide, by decide⟩ lx ly lz (by decide) (by decide) (by decide)
  have hs := alpha3_c x y z x y z ⟨by omega, by omega, by omega, by omega, by omega, by omega⟩ lx ly lz lx ly lz
  have dq : (⟨#[113]⟩ : ByteArray) ≠ ⟨#[112]⟩ := by decide
  rw [bound2, bound2, if_pos rfl] at hi
  rw [bound2, bound2, if_neg dq, if_pos rfl] at ho
  rw [decide_eq_true (rfl : boundAt [x, y] z = boundAt [x, y] z), decide_eq_true (rfl : z = z), Bool.or_true, Bool.true_and] at hs
  refine bind_cut [.v (.bool true)] rfl ?_ (by simp only [W00, W01, W02, W03, W04, W05, W06, W07, W08, W09, Nat.reduceEqDiff, Nat.reduceAdd, Nat.reduceLT, Nat.reduceLeDiff, Nat.reduceMul, reduceIte, reduceCtorEq, Int.reduceEq, Int.reduceLT, Int.reduceLE, Int.reduceNe])
  by_cases h1 : y = z
  · subst h1
    have k1 : decide (y = y) = true := decide_eq_true rfl
    rw [if_pos rfl] at hi ho
    have e3 : (decide ((1 : Int) = 1) && (decide ((0 : Int) ≤ 1) || decide (y = ⟨#[113]⟩))) = true := by simp
    have e4 : (decide ((1 : Int) = 0) && (decide ((0 : Int) ≤ 1) || decide (y = ⟨#[112]⟩))) = false := by simp
    rw [e3] at hi
    rw [e4] at ho
    by_cases h2 : x = y
    · subst h2
      simp only [W00, W01, W02, W03, W04, W05, W06, W07, W08, W09, Nat.reduceEqDiff, Nat.reduceAdd, Nat.reduceLT, Nat.reduceLeDiff, Nat.reduceMul, reduceIte, reduceCtorEq, Int.reduceEq, Int.reduceLT, Int.reduceLE, Int.reduceNe]
      repeat' (first | (simp (disch := (first | omega | rfl | exact rfl | (simp only [cells_v, List.length_cons, List.length_nil]; done))) only [hel, hely, hd, hdy, k1, wrapS, wrapA, wrapA1, lt0, W00, W01, W02, W03, W04, W05, W06, W07, W08, W09, Nat.reduceEqDiff, Nat.reduceAdd, Nat.reduceLT, Nat.reduceLeDiff, Nat.reduceMul, reduceIte, reduceCtorEq, Int.reduceEq, Int.reduceLT, Int.reduceLE, Int.reduceNe]) | (simp (disch := (first | omega | rfl | exact rfl | (simp only [cells_v, List.length_cons, List.length_nil]; done))) only [hel, hd, k1, wrapS, wrapA, wrapA1, lt0, W00, W01, W02, W03, W04, W05, W06, W07, W08, W09, Nat.reduceEqDiff, Nat.reduceAdd, Nat.reduceLT, Nat.reduceLeDiff, Nat.reduceMul, reduceIte, reduceCtorEq, Int.reduceEq, Int.reduceLT, Int.reduceLE, Int.reduceNe]) | (simp (disch := (first | omega | rfl | exact rfl | (simp only [cells_v, List.length_cons, List.length_nil]; done))) only [hd, hdy, k1, wrapS, wrapA, wrapA1, lt0, W00, W01, W02, W03, W04, W05, W06, W07, W08, W09, Nat.reduceEqDiff, Nat.reduceAdd, Nat.reduceLT, Nat.reduceLeDiff, Nat.reduceMul, reduceIte, reduceCtorEq, Int.reduceEq, Int.reduceLT, Int.reduceLE, Int.reduceNe]) | (simp (disch := (first | omega | rfl | exact rfl | (simp only [cells_v, List.length_cons, List.length_nil]; done))) only [hix, hd, k1, wrapS, wrapA, wrapA1, lt0, W00, W01, W02, W03, W04, W05, W06, W07, W08, W09, Nat.reduceEqDiff, Nat.reduceAdd, Nat.reduceLT, Nat.reduceLeDiff, Nat.reduceMul, reduceIte, reduceCtorEq, Int.reduceEq, Int.reduceLT, Int.reduceLE, Int.reduceNe]) | (simp (disch := (first | omega | rfl | exact rfl | (simp only [cells_v, List.length_cons, List.length_nil]; done))) only [hd, k1, wrapS, wrapA, wrapA1, lt0, W00, W01, W02, W03, W04, W05, W06, W07, W08, W09, Nat.reduceEqDiff, Nat.reduceAdd, Nat.reduceLT, Nat.reduceLeDiff, Nat.reduceMul, reduceIte, reduceCtorEq, Int.reduceEq, Int.reduceLT, Int.reduceLE, Int.reduceNe]) | (simp (disch := (first | omega | rfl | exact rfl | (simp only [cells_v, List.length_cons, List.length_nil]; done))) only [k1, wrapS, wrapA, wrapA1, lt0, W00, W01, W02, W03, W04, W05, W06, W07, W08, W09, Nat.reduceEqDiff, Nat.reduceAdd, Nat.reduceLT, Nat.reduceLeDiff, Nat.reduceMul, reduceIte, reduceCtorEq, Int.reduceEq, Int.reduceLT, Int.reduceLE, Int.reduceNe]) | (refine ite_dec (fun hq => ?_) (fun hq => ?_) <;> (try simp only [hq, decide_true, decide_false, Bool.not_true, Bool.not_false, Bool.not_eq_true', Bool.not_eq_false'])) | (refine ite_ndec (fun hq => ?_) (fun hq => ?_) <;> (try simp only [hq, decide_true, decide_false, Bool.not_true, Bool.not_false, Bool.not_eq_true', Bool.not_eq_false'])) | (refine ite_intro (fun hq => ?_) (fun hq => ?_) <;> (try simp only [hq, decide_true, decide_false, Bool.not_true, Bool.not_false, Bool.not_eq_true', Bool.not_eq_false'])) | (refine bind_push ?_) | (refine call_v (hi) ?_) | (refine call_v (ho) ?_) | (refine call_v (hs) ?_))
    · have k2 : decide (y = x) = false := decide_eq_false fun h => h2 h.symm
      simp only [W00, W01, W02, W03, W04, W05, W06, W07, W08, W09, Nat.reduceEqDiff, Nat.reduceAdd, Nat.reduceLT, Nat.reduceLeDiff, Nat.reduceMul, reduceIte, reduceCtorEq, Int.reduceEq, Int.reduceLT, Int.reduceLE, Int.reduceNe]
      repeat' (first | (simp (disch := (first | omega | rfl | exact rfl | (simp only [cells_v, List.length_cons, List.length_nil]; done))) only [hel, hely, hd, hdy, k1, k2, wrapS, wrapA, wrapA1, lt0, W00, W01, W02, W03, W04, W05, W06, W07, W08, W09, Nat.reduceEqDiff, Nat.reduceAdd, Nat.reduceLT, Nat.reduceLeDiff, Nat.reduceMul, reduceIte, reduceCtorEq, Int.reduceEq, Int.reduceLT, Int.reduceLE, Int.reduceNe]) | (simp (disch := (first | omega | rfl | exact rfl | (simp only [cells_v, List.length_cons, List.length_nil]; done))) only [hel, hd, k1, k2, wrapS, wrapA, wrapA1, lt0, W00, W01, W02, W03, W04, W05, W06, W07, W08, W09, Nat.reduceEqDiff, Nat.reduceAdd, Nat.reduceLT, Nat.reduceLeDiff, Nat.reduceMul, reduceIte, reduceCtorEq, Int.reduceEq, Int.reduceLT, Int.reduceLE, Int.reduceNe]) | (simp (disch := (first | omega | rfl | exact rfl | (simp only [cells_v, List.length_cons, List.length_nil]; done))) only [hd, hdy, k1, k2, wrapS, wrapA, wrapA1, lt0, W00, W01, W02, W03, W04, W05, W06, W07, W08, W09, Nat.reduceEqDiff, Nat.reduceAdd, Nat.reduceLT, Nat.reduceLeDiff, Nat.reduceMul, reduceIte, reduceCtorEq, Int.reduceEq, Int.reduceLT, Int.reduceLE, Int.reduceNe]) | (simp (disch := (first | omega | rfl | exact rfl | (simp only [cells_v, List.length_cons, List.length_nil]; done))) only [hix, hd, k1, k2, wrapS, wrapA, wrapA1, lt0, W00, W01, W02, W03, W04, W05, W06, W07, W08, W09, Nat.reduceEqDiff, Nat.reduceAdd, Nat.reduceLT, Nat.reduceLeDiff, Nat.reduceMul, reduceIte, reduceCtorEq, Int.reduceEq, Int.reduceLT, Int.reduceLE, Int.reduceNe]) | (simp (disch := (first | omega | rfl | exact rfl | (simp only [cells_v, List.length_cons, List.length_nil]; done))) only [hd, k1, k2, wrapS, wrapA, wrapA1, lt0, W00, W01, W02, W03, W04, W05, W06, W07, W08, W09, Nat.reduceEqDiff, Nat.reduceAdd, Nat.reduceLT, Nat.reduceLeDiff, Nat.reduceMul, reduceIte, reduceCtorEq, Int.reduceEq, Int.reduceLT, Int.reduceLE, Int.reduceNe]) | (simp (disch := (first | omega | rfl | exact rfl | (simp only [cells_v, List.length_cons, List.length_nil]; done))) only [k1, k2, wrapS, wrapA, wrapA1, lt0, W00, W01, W02, W03, W04, W05, W06, W07, W08, W09, Nat.reduceEqDiff, Nat.reduceAdd, Nat.reduceLT, Nat.reduceLeDiff, Nat.reduceMul, reduceIte, reduceCtorEq, Int.reduceEq, Int.reduceLT, Int.reduceLE, Int.reduceNe]) | (refine ite_dec (fun hq => ?_) (fun hq => ?_) <;> (try simp only [hq, decide_true, decide_false, Bool.not_true, Bool.not_false, Bool.not_eq_true', Bool.not_eq_false'])) | (refine ite_ndec (fun hq => ?_) (fun hq => ?_) <;> (try simp only [hq, decide_true, decide_false, Bool.not_true, Bool.not_false, Bool.not_eq_true', Bool.not_eq_false'])) | (refine ite_intro (fun hq => ?_) (fun hq => ?_) <;> (try simp only [hq, decide_true, decide_false, Bool.not_true, Bool.not_false, Bool.not_eq_true', Bool.not_eq_false'])) | (refine bind_push ?_) | (refine call_v (hi) ?_) | (refine call_v (ho) ?_) | (refine call_v (hs) ?_))
  · have k1 : decide (z = y) = false := decide_eq_false fun h => h1 h.symm
    rw [if_neg h1] at hi ho
    by_cases h2 : x = z
    · subst h2
      have k2 : decide (x = x) = true := decide_eq_true rfl
      rw [if_pos rfl] at hi ho
      have e3 : (decide ((0 : Int) = 1) && (decide ((0 : Int) ≤ 0) || decide (x = ⟨#[113]⟩))) = false := by simp
      have e4 : (decide ((0 : Int) = 0) && (decide ((0 : Int) ≤ 0) || decide (x = ⟨#[112]⟩))) = true := by simp
      rw [e3] at hi
      rw [e4] at ho
      simp only [W00, W01, W02, W03, W04, W05, W06, W07, W08, W09, Nat.reduceEqDiff, Nat.reduceAdd, Nat.reduceLT, Nat.reduceLeDiff, Nat.reduceMul, reduceIte, reduceCtorEq, Int.reduceEq, Int.reduceLT, Int.reduceLE, Int.reduceNe]
      repeat' (first | (simp (disch := (first | omega | rfl | exact rfl | (simp only [cells_v, List.length_cons, List.length_nil]; done))) only [hel, hely, hd, hdy, k1, k2, wrapS, wrapA, wrapA1, lt0, W00, W01, W02, W03, W04, W05, W06, W07, W08, W09, Nat.reduceEqDiff, Nat.reduceAdd, Nat.reduceLT, Nat.reduceLeDiff, Nat.reduceMul, reduceIte, reduceCtorEq, Int.reduceEq, Int.reduceLT, Int.reduceLE, Int.reduceNe]) | (simp (disch := (first | omega | rfl | exact rfl | (simp only [cells_v, List.length_cons, List.length_nil]; done))) only [hel, hd, k1, k2, wrapS, wrapA, wrapA1, lt0, W00, W01, W02, W03, W04, W05, W06, W07, W08, W09, Nat.reduceEqDiff, Nat.reduceAdd, Nat.reduceLT, Nat.reduceLeDiff, Nat.reduceMul, reduceIte, reduceCtorEq, Int.reduceEq, Int.reduceLT, Int.reduceLE, Int.reduceNe]) | (simp (disch := (first | omega | rfl | exact rfl | (simp only [cells_v, List.length_cons, List.length_nil]; done))) only [hd, hdy, k1, k2, wrapS, wrapA, wrapA1, lt0, W00, W01, W02, W03, W04, W05, W06, W07, W08, W09, Nat.reduceEqDiff, Nat.reduceAdd, Nat.reduceLT, Nat.reduceLeDiff, Nat.reduceMul, reduceIte, reduceCtorEq, Int.reduceEq, Int.reduceLT, Int.reduceLE, Int.reduceNe]) | (simp (disch := (first | omega | rfl | exact rfl | (simp only [cells_v, List.length_cons, List.length_nil]; done))) only [hix, hd, k1, k2, wrapS, wrapA, wrapA1, lt0, W00, W01, W02, W03, W04, W05, W06, W07, W08, W09, Nat.reduceEqDiff, Nat.reduceAdd, Nat.reduceLT, Nat.reduceLeDiff, Nat.reduceMul, reduceIte, reduceCtorEq, Int.reduceEq, Int.reduceLT, Int.reduceLE, Int.reduceNe]) | (simp (disch := (first | omega | rfl | exact rfl | (simp only [cells_v, List.length_cons, List.length_nil]; done))) only [hd, k1, k2, wrapS, wrapA, wrapA1, lt0, W00, W01, W02, W03, W04, W05, W06, W07, W08, W09, Nat.reduceEqDiff, Nat.reduceAdd, Nat.reduceLT, Nat.reduceLeDiff, Nat.reduceMul, reduceIte, reduceCtorEq, Int.reduceEq, Int.reduceLT, Int.reduceLE, Int.reduceNe]) | (simp (disch := (first | omega | rfl | exact rfl | (simp only [cells_v, List.length_cons, List.length_nil]; done))) only [k1, k2, wrapS, wrapA, wrapA1, lt0, W00, W01, W02, W03, W04, W05, W06, W07, W08, W09, Nat.reduceEqDiff, Nat.reduceAdd, Nat.reduceLT, Nat.reduceLeDiff, Nat.reduceMul, reduceIte, reduceCtorEq, Int.reduceEq, Int.reduceLT, Int.reduceLE, Int.reduceNe]) | (refine ite_dec (fun hq => ?_) (fun hq => ?_) <;> (try simp only [hq, decide_true, decide_false, Bool.not_true, Bool.not_false, Bool.not_eq_true', Bool.not_eq_false'])) | (refine ite_ndec (fun hq => ?_) (fun hq => ?_) <;> (try simp only [hq, decide_true, decide_false, Bool.not_true, Bool.not_false, Bool.not_eq_true', Bool.not_eq_false'])) | (refine ite_intro (fun hq => ?_) (fun hq => ?_) <;> (try simp only [hq, decide_true, decide_false, Bool.not_true, Bool.not_false, Bool.not_eq_true', Bool.not_eq_false'])) | (refine bind_push ?_) | (refine call_v (hi) ?_) | (refine call_v (ho) ?_) | (refine call_v (hs) ?_))
      all_goals try trace_state
    · have k2 : decide (z = x) = false := decide_eq_false fun h => h2 h.symm
      rw [if_neg h2] at hi ho
      have e3 : (decide ((-1 : Int) = 1) && (decide ((0 : Int) ≤ -1) || decide (z = ⟨#[113]⟩))) = false := by simp
      have e4 : (decide ((-1 : Int) = 0) && (decide ((0 : Int) ≤ -1) || decide (z = ⟨#[112]⟩))) = false := by simp
      rw [e3] at hi
      rw [e4] at ho
      simp only [W00, W01, W02, W03, W04, W05, W06, W07, W08, W09, Nat.reduceEqDiff, Nat.reduceAdd, Nat.reduceLT, Nat.reduceLeDiff, Nat.reduceMul, reduceIte, reduceCtorEq, Int.reduceEq, Int.reduceLT, Int.reduceLE, Int.reduceNe]
      repeat' (first | (simp (disch := (first | omega | rfl | exact rfl | (simp only [cells_v, List.length_cons, List.length_nil]; done))) only [hel, hely, hd, hdy, k1, k2, wrapS, wrapA, wrapA1, lt0, W00, W01, W02, W03, W04, W05, W06, W07, W08, W09, Nat.reduceEqDiff, Nat.reduceAdd, Nat.reduceLT, Nat.reduceLeDiff, Nat.reduceMul, reduceIte, reduceCtorEq, Int.reduceEq, Int.reduceLT, Int.reduceLE, Int.reduceNe]) | (simp (disch := (first | omega | rfl | exact rfl | (simp only [cells_v, List.length_cons, List.length_nil]; done))) only [hel, hd, k1, k2, wrapS, wrapA, wrapA1, lt0, W00, W01, W02, W03, W04, W05, W06, W07, W08, W09, Nat.reduceEqDiff, Nat.reduceAdd, Nat.reduceLT, Nat.reduceLeDiff, Nat.reduceMul, reduceIte, reduceCtorEq, Int.reduceEq, Int.reduceLT, Int.reduceLE, Int.reduceNe]) | (simp (disch := (first | omega | rfl | exact rfl | (simp only [cells_v, List.length_cons, List.length_nil]; done))) only [hd, hdy, k1, k2, wrapS, wrapA, wrapA1, lt0, W00, W01, W02, W03, W04, W05, W06, W07, W08, W09, Nat.reduceEqDiff, Nat.reduceAdd, Nat.reduceLT, Nat.reduceLeDiff, Nat.reduceMul, reduceIte, reduceCtorEq, Int.reduceEq, Int.reduceLT, Int.reduceLE, Int.reduceNe]) | (simp (disch := (first | omega | rfl | exact rfl | (simp only [cells_v, List.length_cons, List.length_nil]; done))) only [hix, hd, k1, k2, wrapS, wrapA, wrapA1, lt0, W00, W01, W02, W03, W04, W05, W06, W07, W08, W09, Nat.reduceEqDiff, Nat.reduceAdd, Nat.reduceLT, Nat.reduceLeDiff, Nat.reduceMul, reduceIte, reduceCtorEq, Int.reduceEq, Int.reduceLT, Int.reduceLE, Int.reduceNe]) | (simp (disch := (first | omega | rfl | exact rfl | (simp only [cells_v, List.length_cons, List.length_nil]; done))) only [hd, k1, k2, wrapS, wrapA, wrapA1, lt0, W00, W01, W02, W03, W04, W05, W06, W07, W08, W09, Nat.reduceEqDiff, Nat.reduceAdd, Nat.reduceLT, Nat.reduceLeDiff, Nat.reduceMul, reduceIte, reduceCtorEq, Int.reduceEq, Int.reduceLT, Int.reduceLE, Int.reduceNe]) | (simp (disch := (first | omega | rfl | exact rfl | (simp only [cells_v, List.length_cons, List.length_nil]; done))) only [k1, k2, wrapS, wrapA, wrapA1, lt0, W00, W01, W02, W03, W04, W05, W06, W07, W08, W09, Nat.reduceEqDiff, Nat.reduceAdd, Nat.reduceLT, Nat.reduceLeDiff, Nat.reduceMul, reduceIte, reduceCtorEq, Int.reduceEq, Int.reduceLT, Int.reduceLE, Int.reduceNe]) | (refine ite_dec (fun hq => ?_) (fun hq => ?_) <;> (try simp only [hq, decide_true, decide_false, Bool.not_true, Bool.not_false, Bool.not_eq_true', Bool.not_eq_false'])) | (refine ite_ndec (fun hq => ?_) (fun hq => ?_) <;> (try simp only [hq, decide_true, decide_false, Bool.not_true, Bool.not_false, Bool.not_eq_true', Bool.not_eq_false'])) | (refine ite_intro (fun hq => ?_) (fun hq => ?_) <;> (try simp only [hq, decide_true, decide_false, Bool.not_true, Bool.not_false, Bool.not_eq_true', Bool.not_eq_false'])) | (refine bind_push ?_) | (refine call_v (hi) ?_) | (refine call_v (ho) ?_) | (refine call_v (hs) ?_))
      all_goals try trace_state
end Go.Proofs.Ab
