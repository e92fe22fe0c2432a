/-
  Homes: a register or a slot for each variable.
-/
import Derived.Test.YtlckfombibfhcaaCUses2
set_option linter.unusedVariables false
set_option linter.unusedSimpArgs false
set_option linter.defProp false
namespace Go.Ab
set_option maxRecDepth 100000
set_option maxHeartbeats 4000000
def takenM (last out : List Int) (fr : Int) : Nat → List Bool
  | 0 => List.replicate 75 false
  | v + 1 => if fr ≤ last.getD v 0 then (takenM last out fr v).set (out.getD v 0).toNat true else takenM last out fr v
theorem takenM_len (last out : List Int) (fr : Int) : ∀ v, (takenM last out fr v).length = 75
  | 0 => by simp [takenM]
  | v + 1 => by unfold takenM; split <;> simp [takenM_len last out fr v]
def freeM (t : List Bool) : Int := idxR (fun b => decide (false = b)) t 0
def homesL (last : List Int) (first : Nat) : Nat → List Int → List Int × Bool
  | 0, out => (out, true)
  | r + 1, out => if last.getD out.length 0 < 0 then homesL last first r (out ++ [-1])
    else if freeM (takenM last out ((max out.length first : Nat) : Int) out.length) < 0 then ([], false)
    else homesL last first r (out ++ [freeM (takenM last out ((max out.length first : Nat) : Int) out.length)])
structure OutOk (last out : List Int) : Prop where
  le : out.length ≤ last.length
  at_ : ∀ v, v < out.length → (last.getD v 0 < 0 → out.getD v 0 = -1) ∧ (0 ≤ last.getD v 0 → 0 ≤ out.getD v 0 ∧ out.getD v 0 < 75)
theorem idx_range {α : Type} (p : α → Bool) : ∀ (l : List α) (k : Nat), idxR p l k = -1 ∨ ((k : Int) ≤ idxR p l k ∧ idxR p l k < k + l.length)
  | [], k => .inl (by simp [idxR])
  | x :: r, k => by
    unfold idxR
    split
    · exact .inr ⟨by omega, by simp only [List.length_cons]; omega⟩
    · rcases idx_range p r (k + 1) with h | h
      · exact .inl h
      · exact .inr ⟨by omega, by simp only [List.length_cons]; omega⟩
theorem OutOk.snoc {last out : List Int} (h : OutOk last out) (hlt : out.length < last.length) {y : Int} (hy : (last.getD out.length 0 < 0 → y = -1) ∧ (0 ≤ last.getD out.length 0 → 0 ≤ y ∧ y < 75)) : OutOk last (out ++ [y]) := by
  refine ⟨by simp; omega, fun v hv => ?_⟩
  by_cases hq : v < out.length
  · have : (out ++ [y]).getD v 0 = out.getD v 0 := by simp [List.getD, List.getElem?_append_left hq]
    rw [this]; exact h.at_ v hq
  · have e : v = out.length := by simp at hv; omega
    subst e
    have : (out ++ [y]).getD out.length 0 = y := by simp [List.getD]
    rw [this]; exact hy
theorem homesL_len (last : List Int) (first : Nat) : ∀ (r : Nat) (out : List Int), (homesL last first r out).1.length ≤ out.length + r
  | 0, out => by simp [homesL]
  | r + 1, out => by
    unfold homesL
    split
    · have := homesL_len last first r (out ++ [-1]); simp at this; omega
    · split
      · simp
      · rename_i h1 h2
        have := homesL_len last first r (out ++ [freeM (takenM last out ((max out.length first : Nat) : Int) out.length)])
        simp at this; omega
def homesM (x : VKTerm) (first : Int) : List Int × Bool :=
  if inB first 0 9000 && decide (x.ks ≤ 9000) then homesL (x.uses first.toNat 0 (List.replicate (x.great first.toNat) (-1))) first.toNat (x.great first.toNat) [] else ([], false)
/-- the first that is free, sought by steps -/
theorem hole_step {t : List Bool} {h : Nat} (hlt : h < t.length) (hs : ∀ j, j < h → t.getD j false = true) :
    (t.getD h false = false → freeM t = h) ∧ (t.getD h false = true → ∀ j, j < h + 1 → t.getD j false = true) := by
  refine ⟨fun hf => ?_, fun ht j hj => ?_⟩
  · have key : ∀ (l : List Bool) (k n : Nat), n < l.length → (∀ j, j < n → l.getD j false = true) → l.getD n false = false → idxR (fun b => decide (false = b)) l k = ((k + n : Nat) : Int) := by
      intro l
      induction l with
      | nil => intro k n hn; simp at hn
      | cons x l ih =>
        intro k n hn ha hf
        cases n with
        | zero =>
          simp at hf; subst hf
          simp [idxR]
        | succ n =>
          have hx : x = true := by have := ha 0 (by omega); simpa using this
          subst hx
          rw [idxR, if_neg (by decide), ih (k + 1) n (by simpa using hn) (fun j hj => by have := ha (j + 1) (by omega); simpa using this) (by simpa using hf)]
          congr 1; omega
    have := key t 0 h hlt hs hf
    rw [freeM, this, Nat.zero_add]
  · by_cases he : j < h
    · exact hs j he
    · have : j = h := by omega
      subst this; exact ht
theorem free_none {t : List Bool} (hs : ∀ j, j < t.length → t.getD j false = true) : freeM t = -1 := by
  have key : ∀ (l : List Bool) (k : Nat), (∀ j, j < l.length → l.getD j false = true) → idxR (fun b => decide (false = b)) l k = -1 := by
    intro l
    induction l with
    | nil => intro k _; rfl
    | cons x l ih =>
      intro k ha
      have hx : x = true := by have := ha 0 (by simp); simpa using this
      subst hx
      rw [idxR, if_neg (by decide), ih (k + 1) fun j hj => by have := ha (j + 1) (by simpa using hj); simpa using this]
  exact key t 0 hs
end Go.Ab
namespace Go.Proofs.Ab
open Go.Ab
set_option maxRecDepth 100000
set_option maxHeartbeats 4000000
def avO (b : Bool) : AV := .v (.bool b)
theorem norBs (l : List Bool) : AV.norefs (l.map avO) = true := norefsM (f := avO) fun _ => rfl
theorem getO (l : List Bool) (i : Nat) (h : i < l.length) : (l.map avO).getD i .top = avO (l.getD i false) := by simp [List.getD, h]
theorem spec_Homes_c (x : VKTerm) (first : Int) (hb : x.wt ≤ 1048576) : PCon Try.prog F.spec_Homes [x.av, avI first] (.tup [.sl ((homesM x first).1.map avI), .v (.bool (homesM x first).2)]) := by
  have hks := x.ks_le
  refine T.spec_Homes_con rfl (by simp [AV.norefs, AV.noref, VKTerm.noref]) ?_
  simp only [T.spec_Homes, VKTerm.cells, VKTerm.isAgg, VKTerm.width, VKTerm.storable, WA, Nat.reduceEqDiff, Nat.reduceAdd, Nat.reduceLT, Nat.reduceLeDiff, Nat.reduceMul, reduceIte, reduceCtorEq, Int.reduceEq, Int.reduceLT, Int.reduceLE, Int.reduceNe]
  refine call_v (spec_l13Fine_c x first hb) ?_
  simp only [WA, Nat.reduceEqDiff, Nat.reduceAdd, Nat.reduceLT, Nat.reduceLeDiff, Nat.reduceMul, reduceIte, reduceCtorEq, Int.reduceEq, Int.reduceLT, Int.reduceLE, Int.reduceNe]
  refine ite_intro (fun hq => ?_) (fun hq => ?_)
  · have hq' : (inB first 0 9000 && decide (x.ks ≤ 9000)) = false := by simpa only [Bool.not_eq_true'] using hq
    simp only [WA, Nat.reduceEqDiff, Nat.reduceAdd, Nat.reduceLT, Nat.reduceLeDiff, Nat.reduceMul, reduceIte, reduceCtorEq, Int.reduceEq, Int.reduceLT, Int.reduceLE, Int.reduceNe]
    rw [homesM, hq']
    rfl
  · have hq' : (inB first 0 9000 && decide (x.ks ≤ 9000)) = true := by simpa only [Bool.not_eq_false'] using hq
    have h0 := hq'
    simp only [inB, Bool.and_eq_true, decide_eq_true_eq] at h0
    obtain ⟨n, rfl⟩ : ∃ n : Nat, first = n := ⟨first.toNat, by omega⟩
    have hgm := x.great_max n
    have hbl := x.bound_le n
    simp only [VKTerm.isAgg, VKTerm.width, VKTerm.storable, WA, Nat.reduceEqDiff, Nat.reduceAdd, Nat.reduceLT, Nat.reduceLeDiff, Nat.reduceMul, reduceIte, reduceCtorEq, Int.reduceEq, Int.reduceLT, Int.reduceLE, Int.reduceNe]
    have hu := spec_Uses_c x n hb
    have hm : homesM x n = homesL (x.uses n 0 (List.replicate (x.great n) (-1))) n (x.great n) [] := by rw [homesM, hq']; rfl
    rw [hq', if_pos rfl, Int.toNat_natCast] at hu
    rw [hm]
    have hlen : (x.uses n 0 (List.replicate (x.great n) (-1))).length = x.great n := by rw [VKTerm.uses_len, List.length_replicate]
    refine call_p hu (norIs _) ?_
    generalize x.uses n 0 (List.replicate (x.great n) (-1)) = last at *
    generalize x.great n = g at *
    simp only [List.length_map, hlen, WA, Nat.reduceEqDiff, Nat.reduceAdd, Nat.reduceLT, Nat.reduceLeDiff, Nat.reduceMul, reduceIte, reduceCtorEq, Int.reduceEq, Int.reduceLT, Int.reduceLE, Int.reduceNe]
    refine bind_push ?_
    simp only [WA, Nat.reduceEqDiff, Nat.reduceAdd, Nat.reduceLT, Nat.reduceLeDiff, Nat.reduceMul, reduceIte, reduceCtorEq, Int.reduceEq, Int.reduceLT, Int.reduceLE, Int.reduceNe]
    refine loop_intro (ι := List Int) (fun out => OutOk last out ∧ homesL last n (g - out.length) out = homesL last n g [] ∧ out.length ≤ g) (fun out => [.sl (out.map avI), avI out.length]) (fun out => g - out.length) []
      ⟨⟨Nat.zero_le _, fun v hv => by simp at hv⟩, rfl, Nat.zero_le _⟩ rfl ?_
    rintro out ⟨ho, hr, hle⟩
    simp only [List.length_map, hlen, WA, Nat.reduceEqDiff, Nat.reduceAdd, Nat.reduceLT, Nat.reduceLeDiff, Nat.reduceMul, reduceIte, reduceCtorEq, Int.reduceEq, Int.reduceLT, Int.reduceLE, Int.reduceNe]
    refine ite_dec (fun h => ?_) (fun h => ?_)
    · have hlt : out.length < g := by omega
      have hlt2 : out.length < last.length := by omega
      have hgd : last.getD out.length 0 = last[out.length] := by simp [List.getD, hlt2]
      obtain ⟨r, hr1⟩ : ∃ r, g - out.length = r + 1 := ⟨g - out.length - 1, by omega⟩
      have hr2 : r = g - (out.length + 1) := by omega
      rw [hr1, homesL, hgd] at hr
      simp only [WA, Nat.reduceEqDiff, Nat.reduceAdd, Nat.reduceLT, Nat.reduceLeDiff, Nat.reduceMul, reduceIte, reduceCtorEq, Int.reduceEq, Int.reduceLT, Int.reduceLE, Int.reduceNe]
      refine bind_push ?_
      simp only [WA, Nat.reduceEqDiff, Nat.reduceAdd, Nat.reduceLT, Nat.reduceLeDiff, Nat.reduceMul, reduceIte, reduceCtorEq, Int.reduceEq, Int.reduceLT, Int.reduceLE, Int.reduceNe]
      refine elemM avI hlt2 rfl ?_
      simp only [cells_v, List.getD_cons_zero, WA, Nat.reduceEqDiff, Nat.reduceAdd, Nat.reduceLT, Nat.reduceLeDiff, Nat.reduceMul, reduceIte, reduceCtorEq, Int.reduceEq, Int.reduceLT, Int.reduceLE, Int.reduceNe]
      refine ite_dec (fun h1 => ?_) (fun h1 => ?_)
      · rw [if_pos h1] at hr
        simp only [List.length_map, cells_v, isCell_v, WA, Nat.reduceEqDiff, Nat.reduceAdd, Nat.reduceLT, Nat.reduceLeDiff, Nat.reduceMul, reduceIte, reduceCtorEq, Int.reduceEq, Int.reduceLT, Int.reduceLE, Int.reduceNe]
        refine ⟨fun y hy => by rw [hy]; rfl, by omega, by omega, out ++ [-1], ⟨ho.snoc hlt2 ⟨fun _ => rfl, fun h => by omega⟩, by rw [← hr]; simp [hr2], by simp; omega⟩, by simp; omega, ?_⟩
        simp (disch := omega) only [wrapA1, List.map_append, List.length_append, List.map_cons, List.map_nil, List.length_cons, List.length_nil, Nat.zero_add]
      · rw [if_neg h1] at hr
        simp only [WA, Nat.reduceEqDiff, Nat.reduceAdd, Nat.reduceLT, Nat.reduceLeDiff, Nat.reduceMul, reduceIte, reduceCtorEq, Int.reduceEq, Int.reduceLT, Int.reduceLE, Int.reduceNe]
        refine bind_cut [avI ((max out.length n : Nat) : Int)] rfl ?_ ?_
        · simp only [WA, Nat.reduceEqDiff, Nat.reduceAdd, Nat.reduceLT, Nat.reduceLeDiff, Nat.reduceMul, reduceIte, reduceCtorEq, Int.reduceEq, Int.reduceLT, Int.reduceLE, Int.reduceNe]
          refine ite_dec (fun h2 => ?_) (fun h2 => ?_)
          · simp only [WA, Nat.reduceEqDiff, Nat.reduceAdd, Nat.reduceLT, Nat.reduceLeDiff, Nat.reduceMul, reduceIte, reduceCtorEq, Int.reduceEq, Int.reduceLT, Int.reduceLE, Int.reduceNe]
            rw [Nat.max_eq_right (by omega)]
          · simp only [WA, Nat.reduceEqDiff, Nat.reduceAdd, Nat.reduceLT, Nat.reduceLeDiff, Nat.reduceMul, reduceIte, reduceCtorEq, Int.reduceEq, Int.reduceLT, Int.reduceLE, Int.reduceNe]
            rw [Nat.max_eq_left (by omega)]
        · generalize hfr : ((max out.length n : Nat) : Int) = fr at *
          have hfr0 : 0 ≤ fr := by omega
          have htl := takenM_len last out fr
          simp only [WA, Nat.reduceEqDiff, Nat.reduceAdd, Nat.reduceLT, Nat.reduceLeDiff, Nat.reduceMul, reduceIte, reduceCtorEq, Int.reduceEq, Int.reduceLT, Int.reduceLE, Int.reduceNe]
          refine ⟨by decide, ?_⟩
          refine bind_cut [.sl ((takenM last out fr out.length).map avO)] rfl ?_ ?_
          · simp only [WA, Nat.reduceEqDiff, Nat.reduceAdd, Nat.reduceLT, Nat.reduceLeDiff, Nat.reduceMul, reduceIte, reduceCtorEq, Int.reduceEq, Int.reduceLT, Int.reduceLE, Int.reduceNe]
            refine loop_up out.length (fun v => [.sl ((takenM last out fr v).map avO), avI v]) (by simp [takenM, avO, List.replicate]) fun v hv => ?_
            simp only [WA, Nat.reduceEqDiff, Nat.reduceAdd, Nat.reduceLT, Nat.reduceLeDiff, Nat.reduceMul, reduceIte, reduceCtorEq, Int.reduceEq, Int.reduceLT, Int.reduceLE, Int.reduceNe]
            refine ite_dec (fun h3 => ?_) (fun h3 => ?_)
            · have hvl : v < out.length := by omega
              have hvg : last.getD v 0 = last[v]'(by omega) := by simp [List.getD, show v < last.length by omega]
              simp only [WA, Nat.reduceEqDiff, Nat.reduceAdd, Nat.reduceLT, Nat.reduceLeDiff, Nat.reduceMul, reduceIte, reduceCtorEq, Int.reduceEq, Int.reduceLT, Int.reduceLE, Int.reduceNe]
              refine bind_push ?_
              simp only [WA, Nat.reduceEqDiff, Nat.reduceAdd, Nat.reduceLT, Nat.reduceLeDiff, Nat.reduceMul, reduceIte, reduceCtorEq, Int.reduceEq, Int.reduceLT, Int.reduceLE, Int.reduceNe]
              refine elemM avI (show v < last.length by omega) rfl ?_
              simp only [cells_v, List.getD_cons_zero, WA, Nat.reduceEqDiff, Nat.reduceAdd, Nat.reduceLT, Nat.reduceLeDiff, Nat.reduceMul, reduceIte, reduceCtorEq, Int.reduceEq, Int.reduceLT, Int.reduceLE, Int.reduceNe]
              refine ite_dec (fun h4 => ?_) (fun h4 => ?_)
              · have h5 := (ho.at_ v hvl).2 (by rw [hvg]; omega)
                have hgo := getI2 out v hvl
                have hgt := getO (takenM last out fr v) (out.getD v 0).toNat (by rw [htl]; omega)
                simp only [List.length_map, hgo, htl, cells_v, List.getD_cons_zero, WA, Nat.reduceEqDiff, Nat.reduceAdd, Nat.reduceLT, Nat.reduceLeDiff, Nat.reduceMul, reduceIte, reduceCtorEq, Int.reduceEq, Int.reduceLT, Int.reduceLE, Int.reduceNe]
                refine ⟨by omega, hvl, by omega, by omega, by omega, by rw [hgt]; exact Nat.le_refl _, hvl, ?_⟩
                rw [hgt, takenM, hvg, if_pos h4, List.map_set, wrapA1 (by omega)]
                rfl
              · simp (disch := omega) only [wrapA1, WA, Nat.reduceEqDiff, Nat.reduceAdd, Nat.reduceLT, Nat.reduceLeDiff, Nat.reduceMul, reduceIte, reduceCtorEq, Int.reduceEq, Int.reduceLT, Int.reduceLE, Int.reduceNe]
                refine ⟨hvl, ?_⟩
                rw [takenM, hvg, if_neg h4]
            · have : v = out.length := by omega
              subst this
              simp only [WA, Nat.reduceEqDiff, Nat.reduceAdd, Nat.reduceLT, Nat.reduceLeDiff, Nat.reduceMul, reduceIte, reduceCtorEq, Int.reduceEq, Int.reduceLT, Int.reduceLE, Int.reduceNe]
          · generalize ht : takenM last out fr out.length = t at *
            have htl' : t.length = 75 := by rw [← ht]; exact htl _
            obtain ⟨F, hF⟩ : ∃ F : Nat, F = if freeM t < 0 then 75 else (freeM t).toNat := ⟨_, rfl⟩
            simp only [WA, Nat.reduceEqDiff, Nat.reduceAdd, Nat.reduceLT, Nat.reduceLeDiff, Nat.reduceMul, reduceIte, reduceCtorEq, Int.reduceEq, Int.reduceLT, Int.reduceLE, Int.reduceNe]
            refine bind_cut [avI (F : Int)] rfl ?_ ?_
            · simp only [WA, Nat.reduceEqDiff, Nat.reduceAdd, Nat.reduceLT, Nat.reduceLeDiff, Nat.reduceMul, reduceIte, reduceCtorEq, Int.reduceEq, Int.reduceLT, Int.reduceLE, Int.reduceNe]
              refine loop_intro (ι := Nat) (fun h => h ≤ 75 ∧ ∀ j, j < h → t.getD j false = true) (fun h => [avI h]) (fun h => 75 - h) 0 ⟨by omega, fun j hj => by omega⟩ rfl ?_
              rintro h ⟨h5, h6⟩
              simp only [WA, Nat.reduceEqDiff, Nat.reduceAdd, Nat.reduceLT, Nat.reduceLeDiff, Nat.reduceMul, reduceIte, reduceCtorEq, Int.reduceEq, Int.reduceLT, Int.reduceLE, Int.reduceNe]
              refine bind_push ?_
              simp only [WA, Nat.reduceEqDiff, Nat.reduceAdd, Nat.reduceLT, Nat.reduceLeDiff, Nat.reduceMul, reduceIte, reduceCtorEq, Int.reduceEq, Int.reduceLT, Int.reduceLE, Int.reduceNe]
              by_cases h7 : h < 75
              · have hgh := getO t h (by omega)
                by_cases h8 : t.getD h false = true
                · refine bind_cut [.v (.bool true)] rfl ?_ ?_
                  · simp only [List.length_map, htl', WA, Nat.reduceEqDiff, Nat.reduceAdd, Nat.reduceLT, Nat.reduceLeDiff, Nat.reduceMul, reduceIte, reduceCtorEq, Int.reduceEq, Int.reduceLT, Int.reduceLE, Int.reduceNe]
                    refine ite_dec (fun h9 => ?_) (fun h9 => by omega)
                    simp only [List.length_map, htl', WA, Nat.reduceEqDiff, Nat.reduceAdd, Nat.reduceLT, Nat.reduceLeDiff, Nat.reduceMul, reduceIte, reduceCtorEq, Int.reduceEq, Int.reduceLT, Int.reduceLE, Int.reduceNe]
                    refine ⟨by omega, h7, by rw [hgh]; exact Nat.le_refl _, ?_⟩
                    rw [hgh]
                    simp only [cells_v, List.getD_cons_zero, avO, h8, WA, Nat.reduceEqDiff, Nat.reduceAdd, Nat.reduceLT, Nat.reduceLeDiff, Nat.reduceMul, reduceIte, reduceCtorEq, Int.reduceEq, Int.reduceLT, Int.reduceLE, Int.reduceNe]
                  · simp only [WA, Nat.reduceEqDiff, Nat.reduceAdd, Nat.reduceLT, Nat.reduceLeDiff, Nat.reduceMul, reduceIte, reduceCtorEq, Int.reduceEq, Int.reduceLT, Int.reduceLE, Int.reduceNe]
                    refine ⟨h + 1, ⟨by omega, (hole_step (by omega) h6).2 h8⟩, by omega, ?_⟩
                    rw [wrapA1 (by omega)]
                · have h8' : t.getD h false = false := by simpa using h8
                  refine bind_cut [.v (.bool false)] rfl ?_ ?_
                  · simp only [List.length_map, htl', WA, Nat.reduceEqDiff, Nat.reduceAdd, Nat.reduceLT, Nat.reduceLeDiff, Nat.reduceMul, reduceIte, reduceCtorEq, Int.reduceEq, Int.reduceLT, Int.reduceLE, Int.reduceNe]
                    refine ite_dec (fun h9 => ?_) (fun h9 => by omega)
                    simp only [List.length_map, htl', WA, Nat.reduceEqDiff, Nat.reduceAdd, Nat.reduceLT, Nat.reduceLeDiff, Nat.reduceMul, reduceIte, reduceCtorEq, Int.reduceEq, Int.reduceLT, Int.reduceLE, Int.reduceNe]
                    refine ⟨by omega, h7, by rw [hgh]; exact Nat.le_refl _, ?_⟩
                    rw [hgh]
                    simp only [cells_v, List.getD_cons_zero, avO, h8', WA, Nat.reduceEqDiff, Nat.reduceAdd, Nat.reduceLT, Nat.reduceLeDiff, Nat.reduceMul, reduceIte, reduceCtorEq, Int.reduceEq, Int.reduceLT, Int.reduceLE, Int.reduceNe]
                  · simp only [WA, Nat.reduceEqDiff, Nat.reduceAdd, Nat.reduceLT, Nat.reduceLeDiff, Nat.reduceMul, reduceIte, reduceCtorEq, Int.reduceEq, Int.reduceLT, Int.reduceLE, Int.reduceNe]
                    have := (hole_step (by omega) h6).1 h8'
                    rw [hF, this, if_neg (by omega), Int.toNat_natCast]
              · have h75 : h = 75 := by omega
                subst h75
                refine bind_cut [.v (.bool false)] rfl ?_ ?_
                · simp only [List.length_map, htl', WA, Nat.reduceEqDiff, Nat.reduceAdd, Nat.reduceLT, Nat.reduceLeDiff, Nat.reduceMul, reduceIte, reduceCtorEq, Int.reduceEq, Int.reduceLT, Int.reduceLE, Int.reduceNe]
                  refine ite_dec (fun h9 => by omega) (fun h9 => ?_)
                  simp only [WA, Nat.reduceEqDiff, Nat.reduceAdd, Nat.reduceLT, Nat.reduceLeDiff, Nat.reduceMul, reduceIte, reduceCtorEq, Int.reduceEq, Int.reduceLT, Int.reduceLE, Int.reduceNe]
                · simp only [WA, Nat.reduceEqDiff, Nat.reduceAdd, Nat.reduceLT, Nat.reduceLeDiff, Nat.reduceMul, reduceIte, reduceCtorEq, Int.reduceEq, Int.reduceLT, Int.reduceLE, Int.reduceNe]
                  have := free_none (t := t) (by rw [htl']; exact h6)
                  rw [hF, this, if_pos (by decide)]
            · simp only [List.length_map, htl', WA, Nat.reduceEqDiff, Nat.reduceAdd, Nat.reduceLT, Nat.reduceLeDiff, Nat.reduceMul, reduceIte, reduceCtorEq, Int.reduceEq, Int.reduceLT, Int.reduceLE, Int.reduceNe]
              have hrg := idx_range (fun b => decide (false = b)) t 0
              refine ite_dec (fun h5 => ?_) (fun h5 => ?_)
              · have h6 : freeM t < 0 := by
                  rcases hrg with h | h
                  · rw [freeM, h]; decide
                  · have : freeM t = idxR (fun b => decide (false = b)) t 0 := rfl
                    rw [this] at hF
                    rw [if_neg (by omega)] at hF
                    omega
                rw [if_pos h6] at hr
                simp only [WA, Nat.reduceEqDiff, Nat.reduceAdd, Nat.reduceLT, Nat.reduceLeDiff, Nat.reduceMul, reduceIte, reduceCtorEq, Int.reduceEq, Int.reduceLT, Int.reduceLE, Int.reduceNe]
                rw [← hr]
                rfl
              · have h6 : ¬ freeM t < 0 := fun h => h5 (by rw [hF, if_pos h])
                rw [if_neg h6] at hr
                rw [if_neg h6] at hF
                have hfm : freeM t = (F : Int) := by omega
                have hrg2 : freeM t = -1 ∨ ((0 : Nat) : Int) ≤ freeM t ∧ freeM t < ((0 : Nat) : Int) + t.length := hrg
                rw [hfm] at hr hrg2
                simp only [List.length_map, cells_v, isCell_v, WA, Nat.reduceEqDiff, Nat.reduceAdd, Nat.reduceLT, Nat.reduceLeDiff, Nat.reduceMul, reduceIte, reduceCtorEq, Int.reduceEq, Int.reduceLT, Int.reduceLE, Int.reduceNe]
                refine ⟨fun y hy => by rw [hy]; rfl, by omega, by omega, out ++ [(F : Int)], ⟨ho.snoc hlt2 ⟨fun h => by omega, fun _ => by omega⟩, by rw [← hr]; simp [hr2], by simp; omega⟩, by simp; omega, ?_⟩
                simp (disch := omega) only [wrapA1, List.map_append, List.length_append, List.map_cons, List.map_nil, List.length_cons, List.length_nil, Nat.zero_add]
    · have he : out.length = g := by omega
      rw [he, Nat.sub_self, homesL] at hr
      simp only [WA, Nat.reduceEqDiff, Nat.reduceAdd, Nat.reduceLT, Nat.reduceLeDiff, Nat.reduceMul, reduceIte, reduceCtorEq, Int.reduceEq, Int.reduceLT, Int.reduceLE, Int.reduceNe]
      rw [← hr]
end Go.Proofs.Ab
