/-
  Homes of the program.
-/
import Derived.Test.YtlckfombibfhcaaCHomes
import Derived.Test.YtlckfombibfhcaaWUses
import Derived.Test.YtlckfombibfhcaaSH
set_option linter.unusedVariables false
set_option linter.unusedSimpArgs false
set_option linter.defProp false
namespace Go.Ab
set_option maxRecDepth 100000
theorem pre_get (out R : List Int) (v : Nat) (hv : v < out.length) : ((out ++ R).map avI).getD v .top = avI (out.getD v 0) := by
  rw [avI_getD _ _ (by simp; omega)]
  congr 1
  simp [List.getD, List.getElem?_append_left hv]
end Go.Ab
namespace Go.Proofs.Ab
open Go.Ab
set_option maxRecDepth 100000
set_option maxHeartbeats 4000000
theorem idxB_c (t : List Bool) (hl : t.length ≤ 1048576) : PCon Try.prog F.slices_Index__bool_bool [.sl (t.map avO), .v (.bool false)] (avI (freeM t)) := by
  refine T.slices_Index__bool_bool_con rfl (by simp [AV.norefs, AV.noref, norBs]) ?_
  simp only [T.slices_Index__bool_bool, WA, Nat.reduceEqDiff, Nat.reduceAdd, Nat.reduceLT, Nat.reduceLeDiff, Nat.reduceMul, reduceIte, reduceCtorEq, Int.reduceEq, Int.reduceLT, Int.reduceLE, Int.reduceNe]
  refine bind_push ?_
  simp only [List.length_map, WA, Nat.reduceEqDiff, Nat.reduceAdd, Nat.reduceLT, Nat.reduceLeDiff, Nat.reduceMul, reduceIte, reduceCtorEq, Int.reduceEq, Int.reduceLT, Int.reduceLE, Int.reduceNe]
  refine loop_inv t.length (fun i => idxR (fun y => decide (false = y)) t 0 = idxR (fun y => decide (false = y)) (t.drop i) i) (fun i => [.v (.int .i64 i)]) rfl rfl fun i hi hI => ?_
  simp only [WA, Nat.reduceEqDiff, Nat.reduceAdd, Nat.reduceLT, Nat.reduceLeDiff, Nat.reduceMul, reduceIte, reduceCtorEq, Int.reduceEq, Int.reduceLT, Int.reduceLE, Int.reduceNe]
  refine ite_dec (fun h => ?_) (fun h => ?_)
  · have hlt : i < t.length := by omega
    rw [dropC hlt, idxR] at hI
    simp only [WA, Nat.reduceEqDiff, Nat.reduceAdd, Nat.reduceLT, Nat.reduceLeDiff, Nat.reduceMul, reduceIte, reduceCtorEq, Int.reduceEq, Int.reduceLT, Int.reduceLE, Int.reduceNe]
    refine elemM avO hlt rfl ?_
    simp only [cells_v, List.getD_cons_zero, avO, WA, Nat.reduceEqDiff, Nat.reduceAdd, Nat.reduceLT, Nat.reduceLeDiff, Nat.reduceMul, reduceIte, reduceCtorEq, Int.reduceEq, Int.reduceLT, Int.reduceLE, Int.reduceNe]
    have hq : (false == t[i]) = decide (false = t[i]) := by cases t[i] <;> rfl
    rw [hq]
    refine ite_dec (fun h => ?_) (fun h => ?_)
    · rw [if_pos (decide_eq_true h)] at hI
      simp only [freeM, hI, WA, Nat.reduceEqDiff, Nat.reduceAdd, Nat.reduceLT, Nat.reduceLeDiff, Nat.reduceMul, reduceIte, reduceCtorEq, Int.reduceEq, Int.reduceLT, Int.reduceLE, Int.reduceNe]
    · rw [if_neg (by simpa using h)] at hI
      simp (disch := omega) only [wrapA1, WA, Nat.reduceEqDiff, Nat.reduceAdd, Nat.reduceLT, Nat.reduceLeDiff, Nat.reduceMul, reduceIte, reduceCtorEq, Int.reduceEq, Int.reduceLT, Int.reduceLE, Int.reduceNe]
      exact ⟨hlt, hI⟩
  · have he : i = t.length := by omega
    subst he
    rw [dropE, idxR] at hI
    simp only [freeM, hI, WA, Nat.reduceEqDiff, Nat.reduceAdd, Nat.reduceLT, Nat.reduceLeDiff, Nat.reduceMul, reduceIte, reduceCtorEq, Int.reduceEq, Int.reduceLT, Int.reduceLE, Int.reduceNe]
theorem impl_Homes_own (x : VKTerm) (first : Int) (hb : x.wt ≤ 1048576) : Con Try.prog F.impl_Homes [x.av, avI first] [] (.tup [.row 0 (homesM x first).1.length, .v (.bool (homesM x first).2)])
    [rowOb (!(homesM x first).2) 3 1 ((homesM x first).1.map avI)] := by
  have hn1 : AV.norefs [x.av] = true := by simp [AV.norefs, VKTerm.noref]
  refine con_of_wp A.impl_Homes_ok rfl ?_
  simp only [A.impl_Homes, VKTerm.width, VKTerm.isAgg, VKTerm.storable, avI, ↓OD, OA, Nat.reduceEqDiff, reduceCtorEq, Nat.reduceAdd, Nat.reduceLT, Nat.reduceLeDiff, reduceIte]
  refine callK_intro _ _ ((impl_within_c first 0 9000).any rfl rfl _) ?_
  by_cases h1 : inB first 0 9000 = true
  · simp only [h1, VKTerm.width, VKTerm.isAgg, VKTerm.storable, avI, ↓OD, OA, Nat.reduceEqDiff, reduceCtorEq, Nat.reduceAdd, Nat.reduceLT, Nat.reduceLeDiff, reduceIte]
    refine callK_intro _ _ ((impl_KSize_c x hb).any hn1 rfl _) ?_
    by_cases h2 : x.ks ≤ 9000
    · have h3 : decide ((9000 : Int) < (x.ks : Int)) = false := decide_eq_false (by omega)
      have h4 : decide (x.ks ≤ 9000) = true := decide_eq_true h2
      have h0 := h1
      simp only [inB, Bool.and_eq_true, decide_eq_true_eq] at h0
      obtain ⟨n, rfl⟩ : ∃ n : Nat, first = n := ⟨first.toNat, by omega⟩
      have hgm := x.great_max n
      have hbl := x.bound_le n
      have hu := (impl_Uses_f x n hb).plain (norIs _)
      have hm : homesM x n = homesL (x.uses n 0 (List.replicate (x.great n) (-1))) n (x.great n) [] := by rw [homesM, h1, h4]; rfl
      rw [h1, h4] at hu
      simp only [Bool.and_self, if_true, Int.toNat_natCast] at hu
      rw [hm]
      have hlen : (x.uses n 0 (List.replicate (x.great n) (-1))).length = x.great n := by rw [VKTerm.uses_len, List.length_replicate]
      simp only [h3, VKTerm.width, VKTerm.isAgg, VKTerm.storable, avI, ↓OD, OA, Nat.reduceEqDiff, reduceCtorEq, Nat.reduceAdd, Nat.reduceLT, Nat.reduceLeDiff, reduceIte]
      refine callK_intro _ _ (hu.any (by simp [AV.norefs, AV.noref, VKTerm.noref]) (norIs _) _) ?_
      generalize x.uses n 0 (List.replicate (x.great n) (-1)) = last at *
      generalize x.great n = g at *
      simp only [List.length_map, hlen, Int.toNat_natCast, VKTerm.width, VKTerm.isAgg, VKTerm.storable, avI, ↓OD, OA, Nat.reduceEqDiff, reduceCtorEq, Nat.reduceAdd, Nat.reduceLT, Nat.reduceLeDiff, reduceIte]
      refine ⟨by omega, by omega, by omega, by omega, ?_⟩
      refine loopK_intro (ι := List Int) (fun out => OutOk last out ∧ homesL last n (g - out.length) out = homesL last n g [] ∧ out.length ≤ g)
        (fun out => envL [(1, avI n), (6, .sl (last.map avI)), (7, .row 1 g), (26, avI g), (27, avI out.length)])
        (fun out => [.live 65 11 [x.av], .live 3 1 ((out ++ List.replicate (g - out.length) 0).map avI)]) (fun out => g - out.length) []
        ⟨⟨Nat.zero_le _, fun v hv => by simp at hv⟩, rfl, Nat.zero_le _⟩ (.of_eq rfl (by simp [avI])) ?_
      rintro out ⟨ho, hr, hle⟩
      simp only [avI, ↓OD, OA, Nat.reduceEqDiff, reduceCtorEq, Nat.reduceAdd, Nat.reduceLT, Nat.reduceLeDiff, reduceIte]
      refine condK_intro (fun hc => ?_) (fun hc => ?_)
      · have hlt : out.length < g := by simpa using hc
        have hlt2 : out.length < last.length := by omega
        obtain ⟨r, hr1⟩ : ∃ r, g - out.length = r + 1 := ⟨g - out.length - 1, by omega⟩
        have hr2 : r = g - (out.length + 1) := by omega
        rw [hr1, homesL] at hr
        have hl0 := avI_getD last out.length hlt2
        have hrow : ∀ y : Int, ((out ++ y :: List.replicate r 0).map avI).getD out.length .top = avI y := fun y => by rw [List.map_append, List.map_cons]; exact mid_get (by simp)
        have hset : ∀ y z : Int, ((out ++ y :: List.replicate r 0).map avI).set out.length (avI z) = (out ++ z :: List.replicate r 0).map avI := fun y z => by rw [List.map_append, List.map_cons, mid_set (by simp), List.map_append, List.map_cons]
        have hrl : ∀ y : Int, (out ++ y :: List.replicate r 0).length = g := fun y => by simp; omega
        have hsn : ∀ y : Int, out ++ y :: List.replicate r 0 = (out ++ [y]) ++ List.replicate (g - (out ++ [y]).length) 0 := fun y => by simp [hr2]
        simp only [avI] at hl0 hrow hset
        have hi1 : IntKind.i64.wrap ((out.length : Int) + 1) = ((out.length + 1 : Nat) : Int) := wrapA1 (by omega)
        simp only [hr1, List.replicate_succ, Int.toNat_natCast, List.length_map, hrow, hset, hrl, hl0, avI, ↓OD, OA, Nat.reduceEqDiff, reduceCtorEq, Nat.reduceAdd, Nat.reduceLT, Nat.reduceLeDiff, reduceIte]
        repeat (refine And.intro (by omega) ?_)
        try simp only [hr1, Int.toNat_natCast, List.length_map, hrow, hset, hrl, hl0, avI, ↓OD, OA, Nat.reduceEqDiff, reduceCtorEq, Nat.reduceAdd, Nat.reduceLT, Nat.reduceLeDiff, reduceIte]
        refine condK_intro (fun hc1 => ?_) (fun hc1 => ?_)
        · have h1n : last.getD out.length 0 < 0 := by simpa using hc1
          rw [if_pos h1n] at hr
          simp only [hi1, avI, ↓OD, OA, Nat.reduceEqDiff, reduceCtorEq, Nat.reduceAdd, Nat.reduceLT, Nat.reduceLeDiff, reduceIte]
          exact roundQ_intro (out ++ [-1]) ⟨ho.snoc hlt2 ⟨fun _ => rfl, fun h => by omega⟩, by rw [← hr]; simp [hr2], by simp; omega⟩ (by simp; omega) (.of_eq (by simp [avI]) (by rw [hsn]))
        · have h1n : ¬ last.getD out.length 0 < 0 := by simpa using hc1
          rw [if_neg h1n] at hr
          generalize hfr : ((max out.length n : Nat) : Int) = fr at *
          have hfr0 : 0 ≤ fr := by omega
          have hmx : max (out.length : Int) (n : Int) = fr := by omega
          have htl := takenM_len last out fr
          simp only [avI, ↓OD, OA, Nat.reduceEqDiff, reduceCtorEq, Nat.reduceAdd, Nat.reduceLT, Nat.reduceLeDiff, reduceIte]
          repeat (refine And.intro (by decide) ?_)
          refine loopK_intro (ι := Nat) (fun v => v ≤ out.length) (fun v => envL [(1, avI n), (6, .sl (last.map avI)), (7, .row 1 g), (8, avI out.length), (9, .row 2 75), (10, avI v), (26, avI g), (27, avI out.length)])
            (fun v => [.live 65 11 [x.av], .live 3 1 ((out ++ (-1) :: List.replicate r 0).map avI), .live 4 1 ((takenM last out fr v).map avO)]) (fun v => out.length - v) 0 (Nat.zero_le _) (.of_eq rfl (by simp [takenM, avO, avI])) ?_
          intro v hv
          simp only [avI, ↓OD, OA, Nat.reduceEqDiff, reduceCtorEq, Nat.reduceAdd, Nat.reduceLT, Nat.reduceLeDiff, reduceIte]
          refine condK_intro (fun hc2 => ?_) (fun hc2 => ?_)
          · have hvl : v < out.length := by simpa using hc2
            have hgo := pre_get out ((-1) :: List.replicate r 0) v hvl
            have hgl := avI_getD last v (by omega)
            have hv1 : IntKind.i64.wrap ((v : Int) + 1) = ((v + 1 : Nat) : Int) := wrapA1 (by omega)
            simp only [avI] at hgo hgl
            simp only [Int.toNat_natCast, List.length_map, hrl, hgo, avI, ↓OD, OA, Nat.reduceEqDiff, reduceCtorEq, Nat.reduceAdd, Nat.reduceLT, Nat.reduceLeDiff, reduceIte]
            repeat (refine And.intro (by omega) ?_)
            by_cases hfrv : fr ≤ last.getD v 0
            · have h5 := (ho.at_ v hvl).2 (by omega)
              have d1 : decide ((0 : Int) ≤ out.getD v 0) = true := decide_eq_true h5.1
              have d2 : decide (fr ≤ last.getD v 0) = true := decide_eq_true hfrv
              have hgt := getO (takenM last out fr v) (out.getD v 0).toNat (by rw [htl]; omega)
              have hst : ((takenM last out fr v).map avO).set (out.getD v 0).toNat (avO true) = (takenM last out fr (v + 1)).map avO := by rw [takenM, if_pos hfrv, List.map_set]
              simp only [avO] at hgt hst
              simp only [d1, d2, hmx, hgl, Int.toNat_natCast, List.length_map, hrl, hgo, avI, ↓OD, OA, Nat.reduceEqDiff, reduceCtorEq, Nat.reduceAdd, Nat.reduceLT, Nat.reduceLeDiff, reduceIte]
              repeat (refine And.intro (by omega) ?_)
              simp only [hgt, hst, htl, hv1, avO, avI, ↓OD, OA, Nat.reduceEqDiff, reduceCtorEq, Nat.reduceAdd, Nat.reduceLT, Nat.reduceLeDiff, reduceIte]
              repeat (refine And.intro (by omega) ?_)
              exact roundQ_intro (v + 1) (show v + 1 ≤ out.length by omega) (show out.length - (v + 1) < out.length - v by omega) (.of_eq rfl rfl)
            · have hst : takenM last out fr (v + 1) = takenM last out fr v := by rw [takenM, if_neg hfrv]
              have d2 : decide (fr ≤ last.getD v 0) = false := decide_eq_false hfrv
              by_cases h0o : 0 ≤ out.getD v 0
              · have d1 : decide ((0 : Int) ≤ out.getD v 0) = true := decide_eq_true h0o
                simp only [d1, d2, hmx, hgl, Int.toNat_natCast, List.length_map, hrl, hgo, avI, ↓OD, OA, Nat.reduceEqDiff, reduceCtorEq, Nat.reduceAdd, Nat.reduceLT, Nat.reduceLeDiff, reduceIte]
                repeat (refine And.intro (by omega) ?_)
                simp only [d1, d2, hmx, hgl, hv1, avI, ↓OD, OA, Nat.reduceEqDiff, reduceCtorEq, Nat.reduceAdd, Nat.reduceLT, Nat.reduceLeDiff, reduceIte]
                exact roundQ_intro (v + 1) (by omega) (by omega) (.of_eq rfl (by rw [hst]))
              · have d1 : decide ((0 : Int) ≤ out.getD v 0) = false := decide_eq_false h0o
                simp only [d1, hv1, avI, ↓OD, OA, Nat.reduceEqDiff, reduceCtorEq, Nat.reduceAdd, Nat.reduceLT, Nat.reduceLeDiff, reduceIte]
                exact roundQ_intro (v + 1) (by omega) (by omega) (.of_eq rfl (by rw [hst]))
          · have hve : v = out.length := by have : ¬ v < out.length := by simpa using hc2
                                            omega
            subst hve
            generalize ht : takenM last out fr out.length = t at *
            have htl' : t.length = 75 := by rw [← ht]; exact htl _
            have hrg : freeM t = -1 ∨ ((0 : Nat) : Int) ≤ freeM t ∧ freeM t < ((0 : Nat) : Int) + t.length := idx_range (fun b => decide (false = b)) t 0
            simp only [avI, ↓OD, OA, Nat.reduceEqDiff, reduceCtorEq, Nat.reduceAdd, Nat.reduceLT, Nat.reduceLeDiff, reduceIte]
            refine callK_intro _ _ ((idxB_c t (by omega)).lendv (.cons (.row 2 75 4 1 (t.map avO) rfl (by simp [htl']) (norBs t)) (.cons (.same _ rfl) .nil))) ?_
            simp only [Int.toNat_natCast, List.length_map, hrow, hset, hrl, avI, ↓OD, OA, Nat.reduceEqDiff, reduceCtorEq, Nat.reduceAdd, Nat.reduceLT, Nat.reduceLeDiff, reduceIte]
            repeat (refine And.intro (by omega) ?_)
            try simp only [Int.toNat_natCast, List.length_map, hrow, hset, hrl, avI, ↓OD, OA, Nat.reduceEqDiff, reduceCtorEq, Nat.reduceAdd, Nat.reduceLT, Nat.reduceLeDiff, reduceIte]
            refine condK_intro (fun hc3 => ?_) (fun hc3 => ?_)
            · have h6 : freeM t < 0 := by simpa using hc3
              rw [if_pos h6] at hr
              rw [← hr]
              simp only [↓OD, OA, Nat.reduceEqDiff, reduceCtorEq, Nat.reduceAdd, Nat.reduceLT, Nat.reduceLeDiff, reduceIte]
              exact ret_nil2 (.inl rfl) rfl rfl
            · have h6 : ¬ freeM t < 0 := by simpa using hc3
              rw [if_neg h6] at hr
              simp only [hi1, avI, ↓OD, OA, Nat.reduceEqDiff, reduceCtorEq, Nat.reduceAdd, Nat.reduceLT, Nat.reduceLeDiff, reduceIte]
              refine roundQ_intro (out ++ [freeM t]) ⟨ho.snoc hlt2 ⟨fun h => by omega, fun _ => by omega⟩, by rw [← hr]; simp [hr2], by simp; omega⟩ (by simp; omega) (.forgetE 2 (by simp [avI]) (by rw [hsn]; rfl) (by omega) (by simp) ?_ ?_)
              · have hsx := norI_scoped 2 ((out ++ [freeM t]) ++ List.replicate (g - (out ++ [freeM t]).length) 0)
                simp only [List.all_cons, List.all_nil, Bool.and_true, AObj.inScope, hsx]
                simp [AV.scopeds, noref_scoped _ (VKTerm.noref x)]
              · simp [AV.inScope, AV.scopeds, norefs_scopeds _ (norIs last), avI]
      · have he : out.length = g := by have : ¬ out.length < g := by simpa using hc
                                       omega
        rw [he, Nat.sub_self, homesL] at hr
        simp only [avI, he, Nat.sub_self, List.replicate_zero, List.append_nil, ↓OD, OA, Nat.reduceEqDiff, reduceCtorEq, Nat.reduceAdd, Nat.reduceLT, Nat.reduceLeDiff, reduceIte]
        rw [← hr, show rowOb (!true) 3 1 (out.map avI) = .live 3 1 (out.map avI) by simp [rowOb], he]
        exact ret_row2 (k := 1) (.inl rfl) rfl rfl rfl (norIs _)
    · have h3 : decide ((9000 : Int) < (x.ks : Int)) = true := decide_eq_true (by omega)
      have h4 : decide (x.ks ≤ 9000) = false := decide_eq_false h2
      have hm : homesM x first = ([], false) := by rw [homesM, h1, h4]; rfl
      simp only [h3, hm, avI, ↓OD, OA, Nat.reduceEqDiff, reduceCtorEq, Nat.reduceAdd, Nat.reduceLT, Nat.reduceLeDiff, reduceIte]
      exact ret_nil2 (.inl rfl) (by simp only [↓OD, OA, Nat.reduceEqDiff, reduceCtorEq, Nat.reduceAdd, Nat.reduceLT, Nat.reduceLeDiff, reduceIte]) (by simp only [↓OD, OA, Nat.reduceEqDiff, reduceCtorEq, Nat.reduceAdd, Nat.reduceLT, Nat.reduceLeDiff, reduceIte])
  · have h1' : inB first 0 9000 = false := by simpa using h1
    have hm : homesM x first = ([], false) := by rw [homesM, h1']; rfl
    simp only [h1', hm, avI, ↓OD, OA, Nat.reduceEqDiff, reduceCtorEq, Nat.reduceAdd, Nat.reduceLT, Nat.reduceLeDiff, reduceIte]
    exact ret_nil2 (.inl rfl) (by simp only [↓OD, OA, Nat.reduceEqDiff, reduceCtorEq, Nat.reduceAdd, Nat.reduceLT, Nat.reduceLeDiff, reduceIte]) (by simp only [↓OD, OA, Nat.reduceEqDiff, reduceCtorEq, Nat.reduceAdd, Nat.reduceLT, Nat.reduceLeDiff, reduceIte])
end Go.Proofs.Ab
