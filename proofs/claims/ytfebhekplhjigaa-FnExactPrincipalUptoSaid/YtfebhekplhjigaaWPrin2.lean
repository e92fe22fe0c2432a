/-
  Principal of the reference: its two rows.
-/
import Derived.Test.YtfebhekplhjigaaWPrin
set_option linter.unusedVariables false
set_option linter.unusedSimpArgs false
set_option linter.defProp false
namespace Go.Ab
set_option maxRecDepth 100000
def avT (b : Bool) : AV := .v (.bool b)
def zTy : AV := .agg [(.v (.int .i64 0)), (.v (.int .i64 0)), (.v (.string ⟨#[]⟩)), .nils]
def tyA : Option VTy → AV
  | some t => t.av
  | none => zTy
/-- what is found, place by place -/
def putA (names : List Int) (es : List (Int × VTy)) : List AV := names.map fun n => tyA (lookM n es)
def knownA (names : List Int) (es : List (Int × VTy)) : List AV := names.map fun n => avT (lookM n es).isSome
theorem putA_len (names : List Int) (es : List (Int × VTy)) : (putA names es).length = names.length := by simp [putA]
theorem knownA_len (names : List Int) (es : List (Int × VTy)) : (knownA names es).length = names.length := by simp [knownA]
theorem tyA_noref : ∀ o, (tyA o).noref = true
  | some t => t.noref
  | none => rfl
theorem tyA_width : ∀ o, (tyA o).cells.length = 4
  | some t => t.width
  | none => rfl
theorem putA_norefs (names : List Int) (es : List (Int × VTy)) : AV.norefs (putA names es) = true := norefsM (f := fun n => tyA (lookM n es)) fun _ => tyA_noref _
theorem knownA_norefs (names : List Int) (es : List (Int × VTy)) : AV.norefs (knownA names es) = true := norefsM (f := fun n => avT (lookM n es).isSome) fun _ => rfl
theorem putA_nil (names : List Int) : putA names [] = List.replicate names.length zTy := by
  induction names with
  | nil => rfl
  | cons n l ih => simp only [putA, List.map_cons, List.length_cons, List.replicate_succ] at ih ⊢; rw [ih]; rfl
theorem knownA_nil (names : List Int) : knownA names [] = List.replicate names.length (.v (.bool false)) := by
  induction names with
  | nil => rfl
  | cons n l ih => simp only [knownA, List.map_cons, List.length_cons, List.replicate_succ] at ih ⊢; rw [ih]; rfl
theorem look_set {names : List Int} (hn : names.Nodup) {n : Int} {j : Nat} (hj : names[j]? = some n) {es : List (Int × VTy)} (hl : lookM n es = none) (t : VTy) {β : Type} (f : Option VTy → β) :
    (names.map fun m => f (lookM m es)).set j (f (some t)) = names.map fun m => f (lookM m (es ++ [(n, t)])) := by
  have hjl := (List.getElem?_eq_some_iff.1 hj).1
  apply List.ext_getElem?
  intro k
  by_cases hk : j = k
  · subst hk
    rw [List.getElem?_set_self (by simpa using hjl), List.getElem?_map, hj]
    simp only [Option.map_some, lookM_snoc, hl, if_true]
  · rw [List.getElem?_set_ne hk, List.getElem?_map, List.getElem?_map]
    cases hq : names[k]? with
    | none => rfl
    | some m =>
      have hmn : m ≠ n := by
        intro e; subst e
        have h1 := (List.getElem?_eq_some_iff.1 hj).2
        have h2 := (List.getElem?_eq_some_iff.1 hq).2
        have h3 := (List.getElem?_eq_some_iff.1 hq).1
        rcases Nat.lt_or_gt_of_ne hk with h | h
        · exact List.pairwise_iff_getElem.1 hn j k hjl h3 h (h1.trans h2.symm)
        · exact List.pairwise_iff_getElem.1 hn k j h3 hjl h (h2.trans h1.symm)
      simp only [Option.map_some, lookM_snoc, if_neg hmn]
      cases lookM m es <;> rfl
theorem putA_set {names : List Int} (hn : names.Nodup) {n : Int} {j : Nat} (hj : names[j]? = some n) {es : List (Int × VTy)} (hl : lookM n es = none) (t : VTy) : (putA names es).set j t.av = putA names (es ++ [(n, t)]) := look_set hn hj hl t tyA
theorem knownA_set {names : List Int} (hn : names.Nodup) {n : Int} {j : Nat} (hj : names[j]? = some n) {es : List (Int × VTy)} (hl : lookM n es = none) (t : VTy) : (knownA names es).set j (avT true) = knownA names (es ++ [(n, t)]) := look_set hn hj hl t fun o => avT o.isSome
theorem putA_at {names : List Int} {n : Int} {j : Nat} (hj : names[j]? = some n) (es : List (Int × VTy)) : (putA names es).getD j .top = tyA (lookM n es) := by
  simp [putA, List.getD, List.getElem?_map, hj]
theorem knownA_at {names : List Int} {n : Int} {j : Nat} (hj : names[j]? = some n) (es : List (Int × VTy)) : (knownA names es).getD j .top = avT (lookM n es).isSome := by
  simp [knownA, List.getD, List.getElem?_map, hj]
mutual
theorem VTy.fit_no : ∀ (x y : VTy) (es : List (Int × VTy)), x.frees 9 = [] → (x.fit y es).2 = es
  | .mk kd n nm kids, y, es, h => by
    rw [VTy.frees] at h
    rw [VTy.fit]
    split
    · rename_i hk; rw [if_pos hk] at h; simp at h
    · split
      · exact VTy.fits_no kids y.Kids es (List.append_eq_nil_iff.1 h).2
      · rfl
theorem VTy.fits_no : ∀ (l m : List VTy) (es : List (Int × VTy)), VTy.freesL l 9 = [] → (VTy.fits l m es).2 = es
  | x :: l, y :: m, es, h => by
    simp only [VTy.freesL] at h
    have h1 := VTy.fit_no x y es (List.append_eq_nil_iff.1 h).1
    rw [VTy.fits, h1]
    split
    · exact VTy.fits_no l m es (List.append_eq_nil_iff.1 h).2
    · rfl
  | [], [], es, h => by simp [VTy.fits]
  | [], _ :: _, es, h => by simp [VTy.fits]
  | _ :: _, [], es, h => by simp [VTy.fits]
end
mutual
theorem VTy.small_nil : ∀ x : VTy, x.small [] = x
  | .mk kd n nm kids => by rw [VTy.small, VTy.smalls_nil kids, idxN]; simp
theorem VTy.smalls_nil : ∀ l : List VTy, VTy.smalls [] l = l
  | [] => rfl
  | x :: l => by rw [VTy.smalls, VTy.small_nil x, VTy.smalls_nil l]
end
theorem upd_ty {x : AV} (hx : x.cells.length = 4) (t : VTy) : upd x 0 t.av = t.av := by
  unfold upd; rw [if_pos ⟨rfl, by rw [hx, VTy.width]⟩]
end Go.Ab
namespace Go.Proofs.Ab
open Go.Ab
set_option maxRecDepth 100000
set_option maxHeartbeats 4000000
def fitsO (names : List Int) (es : List (Int × VTy)) : List AObj := [.live 29 4 (putA names es), .live 4 1 (knownA names es)]
theorem fitsO_scoped (names : List Int) (es : List (Int × VTy)) : (fitsO names es).all (AObj.inScope 2) = true := by
  simp only [fitsO, List.all_cons, List.all_nil, AObj.inScope, norefs_scopeds _ (putA_norefs _ _), norefs_scopeds _ (knownA_norefs _ _), Bool.and_true]
theorem spec_l7Fits_own (names : List Int) (hnd : names.Nodup) (hlen : names.length ≤ 4194304) (x y : VTy) (es : List (Int × VTy)) (hx : x.wt ≤ 1048576) (hy : y.wt ≤ 1048576) (he : smallE 1048576 es) (hin : ∀ n ∈ x.frees 9, n ∈ names) :
    Con Try.prog F.spec_l7Fits [(x.small names).av, y.av, .row 0 names.length, .row 1 names.length] (fitsO names es) (.v (.bool (x.fit y es).1)) (fitsO names (x.fit y es).2) := by
  have hw := x.wt_eq
  have hv := y.wt_eq
  have hf := x.fit_eq y es
  have hse := x.small_eq names
  obtain ⟨s, hs⟩ : ∃ s, s = x.small names := ⟨_, rfl⟩
  rw [← hs] at hse ⊢
  have sk : s.Kind = x.Kind := by rw [hse]; rfl
  have sN : s.N = if x.Kind = 9 then idxN x.N names 0 x.N else x.N := by rw [hse]; rfl
  have sm : s.Name = x.Name := by rw [hse]; rfl
  have sK : s.Kids = x.Kids.map (VTy.small names) := by rw [hse]; rfl
  clear hse
  refine con_of_wp A.spec_l7Fits_ok rfl ?_
  simp only [A.spec_l7Fits, fitsO, sk, VTy.width, VTy.isAgg, VTy.storable, VTy.cells, avI, ↓OD, OA, Nat.reduceEqDiff, reduceCtorEq, Nat.reduceAdd, Nat.reduceLT, Nat.reduceLeDiff, reduceIte]
  refine condK_intro (fun hc => ?_) (fun hc => ?_)
  · have h9 : x.Kind = 9 := by simpa using hc
    rw [if_pos h9] at hf sN
    have hmem : x.N ∈ names := hin _ (by rw [x.frees_eq, if_pos h9]; simp)
    obtain ⟨j, hj1, hj⟩ := idxN_at names 0 x.N hmem hnd
    rw [Nat.zero_add] at hj1
    have hjl := (List.getElem?_eq_some_iff.1 hj).1
    rw [hj1] at sN
    have gk := knownA_at hj es
    have gp := putA_at hj es
    have d1 : decide ((names.length : Int) ≤ (j : Int)) = false := decide_eq_false (by omega)
    have hkl := knownA_len names es
    have hpl := putA_len names es
    simp only [sN, d1, hkl, hpl, gk, gp, Int.toNat_natCast, avT, VTy.width, VTy.isAgg, VTy.storable, VTy.cells, avI, ↓OD, OA, Nat.reduceEqDiff, reduceCtorEq, Nat.reduceAdd, Nat.reduceLT, Nat.reduceLeDiff, reduceIte]
    repeat (refine And.intro (by omega) ?_)
    try simp only [sN, d1, hkl, hpl, gk, gp, Int.toNat_natCast, avT, VTy.width, VTy.isAgg, VTy.storable, VTy.cells, avI, ↓OD, OA, Nat.reduceEqDiff, reduceCtorEq, Nat.reduceAdd, Nat.reduceLT, Nat.reduceLeDiff, reduceIte]
    cases hl : lookM x.N es with
    | none =>
      rw [hl] at hf
      simp only [hl, Option.isSome_none, sN, hkl, hpl, gk, gp, Int.toNat_natCast, avT, VTy.width, VTy.isAgg, VTy.storable, VTy.cells, avI, ↓OD, OA, Nat.reduceEqDiff, reduceCtorEq, Nat.reduceAdd, Nat.reduceLT, Nat.reduceLeDiff, reduceIte]
      refine ⟨by omega, by omega, by omega, by omega, by omega, by omega, by rw [tyA_width]; omega, ?_⟩
      have e1 := knownA_set hnd hj hl y
      simp only [avT] at e1
      rw [hf, upd_ty (tyA_width _), putA_set hnd hj hl, e1]
      exact ret_keep (.inl rfl) rfl rfl (by simp) (fitsO_scoped _ _)
    | some t =>
      rw [hl] at hf
      have tw : (tyA (some t)) = t.av := rfl
      simp only [hl, Option.isSome_some, tw, sN, hkl, hpl, gk, gp, Int.toNat_natCast, avT, VTy.width, VTy.isAgg, VTy.storable, VTy.cells, avI, ↓OD, OA, Nat.reduceEqDiff, reduceCtorEq, Nat.reduceAdd, Nat.reduceLT, Nat.reduceLeDiff, reduceIte]
      refine drawK_intro ?_
      simp only [hl, Option.isSome_some, tw, sN, hkl, hpl, gk, gp, Int.toNat_natCast, avT, VTy.width, VTy.isAgg, VTy.storable, VTy.cells, avI, ↓OD, OA, Nat.reduceEqDiff, reduceCtorEq, Nat.reduceAdd, Nat.reduceLT, Nat.reduceLeDiff, reduceIte]
      refine ⟨by omega, by omega, by omega, ?_⟩
      refine qcallK_intro _ (spec_SameTy_c t y (he.look hl)) (by simp [AV.norefs, VTy.noref]) ?_
      simp only [VTy.width, VTy.isAgg, VTy.storable, VTy.cells, avI, ↓OD, OA, Nat.reduceEqDiff, reduceCtorEq, Nat.reduceAdd, Nat.reduceLT, Nat.reduceLeDiff, reduceIte]
      refine ⟨by kernel_rfl, ?_⟩
      rw [hf]
      exact ret_keep (.inl rfl) rfl rfl (by simp) (fitsO_scoped _ _)
  · have h9 : ¬ x.Kind = 9 := by simpa using hc
    rw [if_neg h9] at hf sN
    have sl : s.Kids.length = x.Kids.length := by rw [sK, List.length_map]
    by_cases h1 : x.Kind = y.Kind
    rotate_left
    · have d1 : decide (x.Kind = y.Kind) = false := decide_eq_false h1
      rw [if_neg (fun h => h1 h.1)] at hf
      simp only [sk, d1, VTy.width, VTy.isAgg, VTy.storable, VTy.cells, avI, ↓OD, OA, Nat.reduceEqDiff, reduceCtorEq, Nat.reduceAdd, Nat.reduceLT, Nat.reduceLeDiff, reduceIte]
      rw [hf]
      exact ret_keep (.inl rfl) rfl rfl (by simp) (fitsO_scoped _ _)
    have d1 : decide (x.Kind = y.Kind) = true := decide_eq_true h1
    by_cases h2 : x.N = y.N
    rotate_left
    · have d2 : decide (x.N = y.N) = false := decide_eq_false h2
      rw [if_neg (fun h => h2 h.2.1)] at hf
      simp only [sk, sN, d1, d2, VTy.width, VTy.isAgg, VTy.storable, VTy.cells, avI, ↓OD, OA, Nat.reduceEqDiff, reduceCtorEq, Nat.reduceAdd, Nat.reduceLT, Nat.reduceLeDiff, reduceIte]
      rw [hf]
      exact ret_keep (.inl rfl) rfl rfl (by simp) (fitsO_scoped _ _)
    have d2 : decide (x.N = y.N) = true := decide_eq_true h2
    by_cases h3 : x.Name = y.Name
    rotate_left
    · have d3 : decide (x.Name = y.Name) = false := decide_eq_false h3
      rw [if_neg (fun h => h3 h.2.2.1)] at hf
      simp only [sk, sN, sm, d1, d2, d3, avB, VTy.width, VTy.isAgg, VTy.storable, VTy.cells, avI, ↓OD, OA, Nat.reduceEqDiff, reduceCtorEq, Nat.reduceAdd, Nat.reduceLT, Nat.reduceLeDiff, reduceIte]
      rw [hf]
      exact ret_keep (.inl rfl) rfl rfl (by simp) (fitsO_scoped _ _)
    have d3 : decide (x.Name = y.Name) = true := decide_eq_true h3
    by_cases h4 : x.Kids.length = y.Kids.length
    rotate_left
    · have d4 : decide ((x.Kids.length : Int) = (y.Kids.length : Int)) = false := decide_eq_false (by omega)
      rw [if_neg (fun h => h4 h.2.2.2)] at hf
      simp only [sk, sN, sm, sl, d1, d2, d3, d4, avB, List.length_map, VTy.width, VTy.isAgg, VTy.storable, VTy.cells, avI, ↓OD, OA, Nat.reduceEqDiff, reduceCtorEq, Nat.reduceAdd, Nat.reduceLT, Nat.reduceLeDiff, reduceIte]
      rw [hf]
      exact ret_keep (.inl rfl) rfl rfl (by simp) (fitsO_scoped _ _)
    have d4 : decide ((x.Kids.length : Int) = (y.Kids.length : Int)) = true := decide_eq_true (by omega)
    rw [if_pos ⟨h1, h2, h3, h4⟩] at hf
    simp only [sk, sN, sm, sl, d1, d2, d3, d4, avB, List.length_map, VTy.width, VTy.isAgg, VTy.storable, VTy.cells, avI, ↓OD, OA, Nat.reduceEqDiff, reduceCtorEq, Nat.reduceAdd, Nat.reduceLT, Nat.reduceLeDiff, reduceIte]
    refine loopK_intro (ι := Nat × List (Int × VTy)) (fun q => smallE 1048576 q.2 ∧ VTy.fits (x.Kids.drop q.1) (y.Kids.drop q.1) q.2 = x.fit y es ∧ q.1 ≤ x.Kids.length)
      (fun q => envL [(2, .row 0 names.length), (3, .row 1 names.length), (4, .ptr 2 1 0 0), (5, .ptr 3 1 0 0), (9, avI q.1)])
      (fun q => [.live 29 4 (putA names q.2), .live 4 1 (knownA names q.2), .live 29 4 [s.av], .live 29 4 [y.av]]) (fun q => x.Kids.length - q.1) (0, es)
      ⟨he, by rw [hf, List.drop_zero, List.drop_zero], Nat.zero_le _⟩ (.of_eq (by simp [avI]) rfl) ?_
    rintro ⟨i, es'⟩ ⟨he', hr, hle⟩
    simp only at he' hr hle
    simp only [sl, List.length_map, VTy.width, VTy.isAgg, VTy.storable, VTy.cells, avI, ↓OD, OA, Nat.reduceEqDiff, reduceCtorEq, Nat.reduceAdd, Nat.reduceLT, Nat.reduceLeDiff, reduceIte]
    refine condK_intro (fun hc => ?_) (fun hc => ?_)
    · have hlt : i < x.Kids.length := by simpa using hc
      have hlt2 : i < y.Kids.length := by omega
      rw [dropC hlt, dropC hlt2, VTy.fits] at hr
      have gx : (s.Kids.map VTy.av).getD i .top = (x.Kids[i].small names).av := by simp [List.getD, hlt, sK]
      have gy : (y.Kids.map VTy.av).getD i .top = (y.Kids[i]).av := by simp [List.getD, hlt2]
      have bx : (x.Kids[i]).wt ≤ 1048576 := by have := le_sum VTy.wt (List.getElem_mem hlt); omega
      have b_y : (y.Kids[i]).wt ≤ 1048576 := by have := le_sum VTy.wt (List.getElem_mem hlt2); omega
      simp only [VTy.width, VTy.isAgg, VTy.storable, VTy.cells, avI, ↓OD, OA, Nat.reduceEqDiff, reduceCtorEq, Nat.reduceAdd, Nat.reduceLT, Nat.reduceLeDiff, reduceIte]
      refine drawK_intro ?_
      simp only [sl, gx, gy, Int.toNat_natCast, List.length_map, VTy.width, VTy.isAgg, VTy.storable, VTy.cells, avI, ↓OD, OA, Nat.reduceEqDiff, reduceCtorEq, Nat.reduceAdd, Nat.reduceLT, Nat.reduceLeDiff, reduceIte]
      refine ⟨by omega, by omega, by omega, by omega, ?_⟩
      have hcall := (spec_l7Fits_own names hnd hlen x.Kids[i] y.Kids[i] es' bx b_y he' (fun n hn => hin n (VTy.frees_kid (List.getElem_mem hlt) hn))).front rfl (by simp [AV.scopeds, AV.inScope, noref_scoped _ (VTy.noref _), fitsO]) rfl (fitsO_scoped _ _) (fitsO_scoped _ _) [.live 29 4 [s.av], .live 29 4 [y.av]]
      simp only [fitsO, List.cons_append, List.nil_append] at hcall
      refine callK_intro _ _ hcall ?_
      have hsm := (x.Kids[i]).fit_small y.Kids[i] es' he' b_y
      generalize x.Kids[i].fit y.Kids[i] es' = r at *
      obtain ⟨r1, es2⟩ := r
      simp only at hr hsm hcall ⊢
      simp only [VTy.width, VTy.isAgg, VTy.storable, VTy.cells, avI, ↓OD, OA, Nat.reduceEqDiff, reduceCtorEq, Nat.reduceAdd, Nat.reduceLT, Nat.reduceLeDiff, reduceIte]
      refine ⟨by kernel_rfl, ?_⟩
      have hi1 : IntKind.i64.wrap ((i : Int) + 1) = ((i + 1 : Nat) : Int) := wrapA1 (by omega)
      cases r1 with
      | true =>
        rw [if_pos rfl] at hr
        simp only [hi1, avI, ↓OD, OA, Nat.reduceEqDiff, reduceCtorEq, Nat.reduceAdd, Nat.reduceLT, Nat.reduceLeDiff, reduceIte]
        exact roundQ_intro (i + 1, es2) ⟨hsm, hr, hlt⟩ (show x.Kids.length - (i + 1) < x.Kids.length - i by omega) (.of_eq (by simp [avI]) rfl)
      | false =>
        rw [if_neg (by simp)] at hr
        simp only [avI, ↓OD, OA, Nat.reduceEqDiff, reduceCtorEq, Nat.reduceAdd, Nat.reduceLT, Nat.reduceLeDiff, reduceIte]
        rw [← hr]
        exact ret_keep (.inl rfl) rfl rfl (by simp) (fitsO_scoped _ _)
    · have he0 : i = x.Kids.length := by have : ¬ i < x.Kids.length := by simpa using hc
                                         omega
      rw [List.drop_of_length_le (by omega), List.drop_of_length_le (by omega), show VTy.fits [] [] es' = (true, es') by simp [VTy.fits]] at hr
      simp only [avI, ↓OD, OA, Nat.reduceEqDiff, reduceCtorEq, Nat.reduceAdd, Nat.reduceLT, Nat.reduceLeDiff, reduceIte]
      rw [← hr]
      exact ret_keep (.inl rfl) rfl rfl (by simp) (fitsO_scoped _ _)
termination_by SizeOf.sizeOf x
decreasing_by all_goals exact VTy.Kids_lt (List.getElem_mem _)
theorem spec_l7Fits_no (x y : VTy) (hx : x.wt ≤ 1048576) (hy : y.wt ≤ 1048576) (hno : x.frees 9 = []) :
    PCon Try.prog F.spec_l7Fits [x.av, y.av, .sl [], .sl []] (.v (.bool (x.fit y []).1)) := by
  have hw := x.wt_eq
  have hv := y.wt_eq
  have hf := x.fit_eq y []
  refine con_of_wp A.spec_l7Fits_ok rfl ?_
  simp only [A.spec_l7Fits, VTy.width, VTy.isAgg, VTy.storable, VTy.cells, avI, ↓OD, OA, Nat.reduceEqDiff, reduceCtorEq, Nat.reduceAdd, Nat.reduceLT, Nat.reduceLeDiff, reduceIte]
  refine condK_intro (fun hc => ?_) (fun hc => ?_)
  · have h9 : x.Kind = 9 := by simpa using hc
    rw [x.frees_eq, if_pos h9] at hno
    simp at hno
  · have h9 : ¬ x.Kind = 9 := by simpa using hc
    rw [if_neg h9] at hf
    by_cases h1 : x.Kind = y.Kind
    rotate_left
    · have d1 : decide (x.Kind = y.Kind) = false := decide_eq_false h1
      rw [if_neg (fun h => h1 h.1)] at hf
      simp only [d1, VTy.width, VTy.isAgg, VTy.storable, VTy.cells, avI, ↓OD, OA, Nat.reduceEqDiff, reduceCtorEq, Nat.reduceAdd, Nat.reduceLT, Nat.reduceLeDiff, reduceIte]
      rw [hf]
      exact ret_keep (.inl rfl) rfl rfl (by simp) rfl
    have d1 : decide (x.Kind = y.Kind) = true := decide_eq_true h1
    by_cases h2 : x.N = y.N
    rotate_left
    · have d2 : decide (x.N = y.N) = false := decide_eq_false h2
      rw [if_neg (fun h => h2 h.2.1)] at hf
      simp only [d1, d2, VTy.width, VTy.isAgg, VTy.storable, VTy.cells, avI, ↓OD, OA, Nat.reduceEqDiff, reduceCtorEq, Nat.reduceAdd, Nat.reduceLT, Nat.reduceLeDiff, reduceIte]
      rw [hf]
      exact ret_keep (.inl rfl) rfl rfl (by simp) rfl
    have d2 : decide (x.N = y.N) = true := decide_eq_true h2
    by_cases h3 : x.Name = y.Name
    rotate_left
    · have d3 : decide (x.Name = y.Name) = false := decide_eq_false h3
      rw [if_neg (fun h => h3 h.2.2.1)] at hf
      simp only [d1, d2, d3, avB, VTy.width, VTy.isAgg, VTy.storable, VTy.cells, avI, ↓OD, OA, Nat.reduceEqDiff, reduceCtorEq, Nat.reduceAdd, Nat.reduceLT, Nat.reduceLeDiff, reduceIte]
      rw [hf]
      exact ret_keep (.inl rfl) rfl rfl (by simp) rfl
    have d3 : decide (x.Name = y.Name) = true := decide_eq_true h3
    by_cases h4 : x.Kids.length = y.Kids.length
    rotate_left
    · have d4 : decide ((x.Kids.length : Int) = (y.Kids.length : Int)) = false := decide_eq_false (by omega)
      rw [if_neg (fun h => h4 h.2.2.2)] at hf
      simp only [d1, d2, d3, d4, avB, List.length_map, VTy.width, VTy.isAgg, VTy.storable, VTy.cells, avI, ↓OD, OA, Nat.reduceEqDiff, reduceCtorEq, Nat.reduceAdd, Nat.reduceLT, Nat.reduceLeDiff, reduceIte]
      rw [hf]
      exact ret_keep (.inl rfl) rfl rfl (by simp) rfl
    have d4 : decide ((x.Kids.length : Int) = (y.Kids.length : Int)) = true := decide_eq_true (by omega)
    rw [if_pos ⟨h1, h2, h3, h4⟩] at hf
    simp only [d1, d2, d3, d4, avB, List.length_map, VTy.width, VTy.isAgg, VTy.storable, VTy.cells, avI, ↓OD, OA, Nat.reduceEqDiff, reduceCtorEq, Nat.reduceAdd, Nat.reduceLT, Nat.reduceLeDiff, reduceIte]
    refine loopK_intro (ι := Nat) (fun q => VTy.fits (x.Kids.drop q) (y.Kids.drop q) [] = x.fit y [] ∧ q ≤ x.Kids.length)
      (fun q => envL [(2, .sl []), (3, .sl []), (4, .ptr 0 1 0 0), (5, .ptr 1 1 0 0), (9, avI q)])
      (fun _ => [.live 29 4 [x.av], .live 29 4 [y.av]]) (fun q => x.Kids.length - q) 0
      ⟨by rw [hf, List.drop_zero, List.drop_zero], Nat.zero_le _⟩ (.of_eq (by simp [avI]) rfl) ?_
    rintro i ⟨hr, hle⟩
    simp only [List.length_map, VTy.width, VTy.isAgg, VTy.storable, VTy.cells, avI, ↓OD, OA, Nat.reduceEqDiff, reduceCtorEq, Nat.reduceAdd, Nat.reduceLT, Nat.reduceLeDiff, reduceIte]
    refine condK_intro (fun hc => ?_) (fun hc => ?_)
    · have hlt : i < x.Kids.length := by simpa using hc
      have hlt2 : i < y.Kids.length := by omega
      rw [dropC hlt, dropC hlt2, VTy.fits] at hr
      have gx : (x.Kids.map VTy.av).getD i .top = (x.Kids[i]).av := by simp [List.getD, hlt]
      have gy : (y.Kids.map VTy.av).getD i .top = (y.Kids[i]).av := by simp [List.getD, hlt2]
      have bx : (x.Kids[i]).wt ≤ 1048576 := by have := le_sum VTy.wt (List.getElem_mem hlt); omega
      have b_y : (y.Kids[i]).wt ≤ 1048576 := by have := le_sum VTy.wt (List.getElem_mem hlt2); omega
      simp only [VTy.width, VTy.isAgg, VTy.storable, VTy.cells, avI, ↓OD, OA, Nat.reduceEqDiff, reduceCtorEq, Nat.reduceAdd, Nat.reduceLT, Nat.reduceLeDiff, reduceIte]
      refine drawK_intro ?_
      simp only [gx, gy, Int.toNat_natCast, List.length_map, VTy.width, VTy.isAgg, VTy.storable, VTy.cells, avI, ↓OD, OA, Nat.reduceEqDiff, reduceCtorEq, Nat.reduceAdd, Nat.reduceLT, Nat.reduceLeDiff, reduceIte]
      refine ⟨by omega, by omega, by omega, by omega, ?_⟩
      have hnk : (x.Kids[i]).frees 9 = [] := List.eq_nil_iff_forall_not_mem.2 fun n hn => by
        have := VTy.frees_kid (List.getElem_mem hlt) hn
        rw [hno] at this; simp at this
      have hcall := (spec_l7Fits_no x.Kids[i] y.Kids[i] bx b_y hnk).any (by simp [AV.norefs, AV.noref, VTy.noref]) rfl [.live 29 4 [x.av], .live 29 4 [y.av]]
      refine callK_intro _ _ hcall ?_
      have hsm := (x.Kids[i]).fit_no y.Kids[i] [] hnk
      generalize x.Kids[i].fit y.Kids[i] [] = r at *
      obtain ⟨r1, es2⟩ := r
      simp only at hr hsm hcall ⊢
      subst hsm
      simp only [VTy.width, VTy.isAgg, VTy.storable, VTy.cells, avI, ↓OD, OA, Nat.reduceEqDiff, reduceCtorEq, Nat.reduceAdd, Nat.reduceLT, Nat.reduceLeDiff, reduceIte]
      refine ⟨by kernel_rfl, ?_⟩
      have hi1 : IntKind.i64.wrap ((i : Int) + 1) = ((i + 1 : Nat) : Int) := wrapA1 (by omega)
      cases r1 with
      | true =>
        rw [if_pos rfl] at hr
        simp only [hi1, avI, ↓OD, OA, Nat.reduceEqDiff, reduceCtorEq, Nat.reduceAdd, Nat.reduceLT, Nat.reduceLeDiff, reduceIte]
        exact roundQ_intro (i + 1) ⟨hr, hlt⟩ (show x.Kids.length - (i + 1) < x.Kids.length - i by omega) (.of_eq (by simp [avI]) rfl)
      | false =>
        rw [if_neg (by simp)] at hr
        simp only [avI, ↓OD, OA, Nat.reduceEqDiff, reduceCtorEq, Nat.reduceAdd, Nat.reduceLT, Nat.reduceLeDiff, reduceIte]
        rw [← hr]
        exact ret_keep (.inl rfl) rfl rfl (by simp) rfl
    · have he0 : i = x.Kids.length := by have : ¬ i < x.Kids.length := by simpa using hc
                                         omega
      rw [List.drop_of_length_le (by omega), List.drop_of_length_le (by omega), show VTy.fits [] [] [] = (true, []) by simp [VTy.fits]] at hr
      simp only [avI, ↓OD, OA, Nat.reduceEqDiff, reduceCtorEq, Nat.reduceAdd, Nat.reduceLT, Nat.reduceLeDiff, reduceIte]
      rw [← hr]
      exact ret_keep (.inl rfl) rfl rfl (by simp) rfl
termination_by SizeOf.sizeOf x
decreasing_by all_goals exact VTy.Kids_lt (List.getElem_mem _)
end Go.Proofs.Ab
