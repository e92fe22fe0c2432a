/-
  FnPut, walked.
-/
import Derived.Test.YtaefihlbielllaaDoorWPut
import Derived.Test.YtaefihlbielllaaDoorCPutD
import Derived.Test.YtaefihlbielllaaDoorCDrawTy
set_option linter.unusedVariables false
set_option linter.unusedSimpArgs false
set_option linter.defProp false
namespace Go.Proofs.Ab
open Go.Ab
set_option maxRecDepth 100000
set_option maxHeartbeats 4000000
theorem laws_big_c (l : List Int) (hl : l.length ≤ 1048576) : PCon Tryd.prog F.laws_big [.sl (bys l)] (.v (.bool false)) := by
  refine T.laws_big_con rfl (by simp [AV.norefs, AV.noref, bys_noref]) ?_
  have d0 : decide ((1048576 : Int) < (l.length : Int)) = false := decide_eq_false (by omega)
  simp only [T.laws_big, List.length_map, d0, WA, Nat.reduceEqDiff, Nat.reduceAdd, Nat.reduceLT, Nat.reduceLeDiff, Nat.reduceMul, reduceIte, reduceCtorEq, Int.reduceEq, Int.reduceLT, Int.reduceLE, Int.reduceNe]
theorem frz_tree (y : VTy) (n : Nat) (O : List AObj) (hO : O[n]? = some (.own (.sl (y.Kids.map VTy.av)))) : Frz O (spx n y.av).1 y.av := .tree (VTy.elem y) fun k d h => by
  have e2 : (spx 0 y.av).2 = [.own (.sl (y.Kids.map VTy.av))] := by rw [VTy.spx]
  rw [e2] at h
  match k, h with
  | 0, h => simp at h; subst h; exact hO
theorem law_FnPut (x0 : List Int) (hb : x0.length ≤ 1048576) (ho0 : ∀ y ∈ x0, 0 ≤ y ∧ y < 256) : PCon Tryd.prog F.laws_FnPut [.sl (x0.map fun y => .v (.int .u8 y))] (.v (.bool true)) := by
  obtain ⟨x, k, ts, hx, hts, htl, hk, hd⟩ := spec_DrawPut_c x0 hb ho0
  have hxw : x.wt ≤ 1048576 := by have := hx.wt; omega
  have htw : ts.length + (ts.map VTy.wt).sum ≤ 1048576 := by
    have := sum_leY VTy.wt 1000 ts fun y hy => (hts y hy).wt
    omega
  have hbig := laws_big_c x0 hb
  have hok := spec_TyOk_c x hxw
  have hn0 : AV.norefs [AV.sl (x0.map fun y => .v (.int .u8 y))] = true := by simp [AV.norefs, AV.noref, norefsM (f := fun y => AV.v (.int .u8 y)) (l := x0) fun _ => rfl]
  have hn1 : AV.norefs [x.av] = true := by simp [AV.norefs, VTy.noref]
  have hnt : (AV.tup [x.av, avI k, .sl (ts.map VTy.av)]).noref = true := by simp [AV.noref, AV.norefs, VTy.noref, norTy]
  have hr : (x.av).noref = true := VTy.noref x
  have e2 : ∀ y : VTy, (spx 0 y.av).2 = [.own (.sl (y.Kids.map VTy.av))] := fun y => by rw [VTy.spx]
  have hsm := impl_SameTy_c x x hxw
  rw [VTy.same_refl] at hsm
  have htx := impl_TyText_c x hxw hx.ok
  obtain ⟨w1, w2, w3⟩ := VTy.spx_w x 1
  obtain ⟨w4, w5, w6⟩ := VTy.spx_w x 2
  refine con_of_wp A.laws_FnPut_ok rfl ?_
  simp only [A.laws_FnPut, List.length_map, VTy.width, VTy.storable, VTy.isAgg, avI, spx_ren, w1, w2, w3, w4, w5, w6, lt0, List.cons_append, List.nil_append, ↓OD, OA, Nat.reduceEqDiff, reduceCtorEq, Nat.reduceAdd, Nat.reduceLT, Nat.reduceLeDiff, reduceIte]
  refine callK_intro _ _ (hbig.any hn0 rfl _) ?_
  simp only [List.length_map, VTy.width, VTy.storable, VTy.isAgg, avI, spx_ren, w1, w2, w3, w4, w5, w6, lt0, List.cons_append, List.nil_append, ↓OD, OA, Nat.reduceEqDiff, reduceCtorEq, Nat.reduceAdd, Nat.reduceLT, Nat.reduceLeDiff, reduceIte]
  refine callK_intro _ _ (hd.any hn0 hnt _) ?_
  simp only [List.length_map, VTy.width, VTy.storable, VTy.isAgg, avI, spx_ren, w1, w2, w3, w4, w5, w6, lt0, List.cons_append, List.nil_append, ↓OD, OA, Nat.reduceEqDiff, reduceCtorEq, Nat.reduceAdd, Nat.reduceLT, Nat.reduceLeDiff, reduceIte]
  refine callK_intro _ _ (hok.any hn1 rfl _) ?_
  by_cases ho : x.okM = true
  · have ht : putM x 11 (metasL 8) = x := by rw [putM, ho]; exact VTy.put_metas 8 x ho
    have hpi : putM x 11 (intsL 8) = x.put 11 (intsL 8) := by rw [putM, ho]; rfl
    have hm0 : ((metasL 8).map VTy.wt).sum ≤ (metasL 8).length * 0 := sum_leY VTy.wt 0 (metasL 8) (fun y hy => by obtain ⟨k, _, rfl⟩ := List.mem_map.1 hy; rw [VTy.wt_eq]; exact Nat.le_refl _)
    have hi0 : ((intsL 8).map VTy.wt).sum ≤ (intsL 8).length * 0 := sum_leY VTy.wt 0 (intsL 8) (fun y hy => by rw [(List.mem_replicate.1 hy).2, VTy.wt_eq]; exact Nat.le_refl _)
    have him8 := impl_Put_own x 11 (metasL 8) hxw (by have := metasL_len 8; omega)
    have himi := impl_Put_own x 11 (intsL 8) hxw (by have := intsL_len 8; omega)
    rw [ht, e2] at him8
    rw [hpi, e2] at himi
    have him8 := Con.argsD (as' := [x.av, .v (.int .i64 11), .sl (metasN 8)]) him8 rfl fun i a b ha hb => by
      rcases i with _ | _ | _ | i <;> simp at ha hb <;> subst ha <;> subst hb
      · exact .refl _
      · exact .refl _
      · exact metas_le 8
    have himi := Con.argsD (as' := [x.av, .v (.int .i64 11), .sl (mixN 8 8)]) himi rfl fun i a b ha hb => by
      rcases i with _ | _ | _ | i <;> simp at ha hb <;> subst ha <;> subst hb
      · exact .refl _
      · exact .refl _
      · exact ints_le 8
    have hyw := VTy.wt_ints 8 x ho
    have hys := VTy.siz_put 8 x ho
    have hyf := VTy.frees_ints 8 x ho
    generalize x.put 11 (intsL 8) = y at himi hyw hys hyf
    have hfr := impl_Free_f y 11 (by omega)
    have hty := impl_TySize_c y (by omega)
    have htx0 := impl_TySize_c x hxw
    rw [hys] at hty
    have htn : decide (tyTextM x = ⟨#[]⟩) = false := decide_eq_false (text_pos ho)
    have hscN : ∀ m k, AV.scopeds k (metasN m) = true := fun m k => norefs_scopeds _ (norefs_all metasN_noref)
    have hscM : ∀ m i k, AV.scopeds k (mixN m i) = true := fun m i k => norefs_scopeds _ (norefs_all (mixN_mem rfl metasN_noref))
    have hxs : ∀ k, x.av.inScope k = true := fun k => noref_scoped _ hr
    simp only [ho, Bool.not_true, List.length_map, VTy.width, VTy.storable, VTy.isAgg, avI, spx_ren, w1, w2, w3, w4, w5, w6, lt0, List.cons_append, List.nil_append, ↓OD, OA, Nat.reduceEqDiff, reduceCtorEq, Nat.reduceAdd, Nat.reduceLT, Nat.reduceLeDiff, reduceIte]
    refine loopK_intro (ι := Nat) (fun i => i ≤ 8) (fun i => envL [(3, .ptr 0 1 0 0), (6, .row 1 i), (7, .v (.int .i64 (i : Int)))]) (fun i => [.live 26 4 [x.av], .live 26 4 (metasN i)]) (fun i => 8 - i) 0 (Nat.zero_le _) (.of_eq (by simp) (by simp [metasN])) ?_
    intro i hi
    simp only [↓OD, OA, Nat.reduceEqDiff, reduceCtorEq, Nat.reduceAdd, Nat.reduceLT, Nat.reduceLeDiff, reduceIte]
    refine condK_intro (fun hc => ?_) (fun hc => ?_)
    · have hlt : i < 8 := by
        have : (i : Int) < 8 := by simpa using hc
        omega
      simp only [metasN_len, ↓OD, OA, Nat.reduceEqDiff, reduceCtorEq, Nat.reduceAdd, Nat.reduceLT, Nat.reduceLeDiff, reduceIte]
      have hml : i + 1 ≤ maxLen := by
        have : maxLen = 9223372036854775807 := rfl
        omega
      have hi1 : IntKind.i64.wrap ((i : Int) + 1) = ((i + 1 : Nat) : Int) := wrapA1 (by omega)
      refine ⟨fun z hz => by rw [List.mem_singleton.1 hz]; rfl, by omega, hml, ?_⟩
      refine roundQ_intro (i + 1) hlt (by omega) (.forgetE 2 (by simp [hi1]) (by simp [metasN_succ]) (by omega) (by simp) ?_ ?_)
      · simp [AObj.inScope, AV.scopeds, AV.inScope, hscN, hxs]
      · simp [AV.inScope]
    · have he : i = 8 := by
        have : ¬ (i : Int) < 8 := by simpa using hc
        omega
      subst he
      simp only [↓OD, OA, Nat.reduceEqDiff, reduceCtorEq, Nat.reduceAdd, Nat.reduceLT, Nat.reduceLeDiff, reduceIte]
      refine drawK_intro ?_
      simp only [List.length_map, VTy.width, VTy.storable, VTy.isAgg, avI, spx_ren, w1, w2, w3, w4, w5, w6, lt0, List.cons_append, List.nil_append, ↓OD, OA, Nat.reduceEqDiff, reduceCtorEq, Nat.reduceAdd, Nat.reduceLT, Nat.reduceLeDiff, reduceIte]
      refine lcallK_intro him8 (fun O' _ hg => .cons (.same _ hr) (.cons (.same _ rfl) (.cons (.row 1 8 26 4 _ ((hg 1 (by simp)).trans rfl) (metasN_len 8) (norefs_all metasN_noref)) .nil))) (by rw [VTy.spx]; rfl) rfl ?_
      simp only [List.length_map, VTy.width, VTy.storable, VTy.isAgg, avI, spx_ren, w1, w2, w3, w4, w5, w6, lt0, List.cons_append, List.nil_append, List.length_cons, List.length_nil, ↓OD, OA, Nat.reduceEqDiff, reduceCtorEq, Nat.reduceAdd, Nat.reduceLT, Nat.reduceLeDiff, reduceIte]
      refine kcallK_intro hsm (fun O' hg => .cons (frz_tree x 2 _ ((hg 2 (by simp)).trans rfl)) (.cons (.same _ hr) .nil)) ?_
      simp only [List.length_map, VTy.width, VTy.storable, VTy.isAgg, avI, spx_ren, w1, w2, w3, w4, w5, w6, lt0, List.cons_append, List.nil_append, ↓OD, OA, Nat.reduceEqDiff, reduceCtorEq, Nat.reduceAdd, Nat.reduceLT, Nat.reduceLeDiff, reduceIte]
      refine qcallK_intro _ htx hn1 ?_
      simp only [htn, List.length_map, VTy.width, VTy.storable, VTy.isAgg, avI, spx_ren, w1, w2, w3, w4, w5, w6, lt0, List.cons_append, List.nil_append, ↓OD, OA, Nat.reduceEqDiff, reduceCtorEq, Nat.reduceAdd, Nat.reduceLT, Nat.reduceLeDiff, reduceIte]
      refine ⟨by kernel_rfl, ?_⟩
      refine loopK_intro (ι := Nat) (fun i => i ≤ 8) (fun i => envL [(3, .ptr 0 1 0 0), (6, .row 1 8), (8, .v (.int .i64 (i : Int)))]) (fun i => [.live 26 4 [x.av], .live 26 4 (mixN 8 i), .own (.sl (x.Kids.map VTy.av))]) (fun i => 8 - i) 0 (Nat.zero_le _) (.of_eq (by simp) (by simp [mixN])) ?_
      intro i hi
      have hxl := mixN_len hi
      simp only [↓OD, OA, Nat.reduceEqDiff, reduceCtorEq, Nat.reduceAdd, Nat.reduceLT, Nat.reduceLeDiff, reduceIte]
      refine ⟨hxl, ?_⟩
      refine condK_intro (fun hc => ?_) (fun hc => ?_)
      · have hlt : i < 8 := by
          have : (i : Int) < 8 := by simpa [hxl] using hc
          omega
        simp only [hxl, Int.toNat_natCast, ↓OD, OA, Nat.reduceEqDiff, reduceCtorEq, Nat.reduceAdd, Nat.reduceLT, Nat.reduceLeDiff, reduceIte]
        have hwd : ((mixN 8 i).getD i .top).cells.length = 4 := by
          rw [List.getD, List.getElem?_eq_getElem (by rw [hxl]; exact hlt), Option.getD_some]
          exact mixN_mem (P := fun a => a.cells.length = 4) rfl metasN_wide _ (List.getElem_mem _)
        have hi1 : IntKind.i64.wrap ((i : Int) + 1) = ((i + 1 : Nat) : Int) := wrapA1 (by omega)
        have hse := mixN_set hlt
        unfold intN at hse
        refine ⟨by omega, by omega, hlt, by omega, ?_⟩
        refine roundQ_intro (i + 1) hlt (by omega) (.of_eq (by simp [hi1]) ?_)
        rw [upd_whole (by rw [hwd]; rfl), hse]
      · have he : i = 8 := by
          have : ¬ (i : Int) < 8 := by simpa [hxl] using hc
          omega
        subst he
        have hz : FrzL [AObj.live 26 4 [x.av], .live 26 4 (mixN 8 8), .own (.sl (x.Kids.map VTy.av))] [x.av, .v (.int .i64 11), .row 1 8] [x.av, .v (.int .i64 11), .sl (mixN 8 8)] :=
          .cons (.same _ hr) (.cons (.same _ rfl) (.cons (.row 1 8 26 4 _ rfl (mixN_len (Nat.le_refl _)) (norefs_all (mixN_mem rfl metasN_noref))) .nil))
        have hpl := Con.lend himi hz.get.1 hz.get.2 (by rw [VTy.spx]; rfl) rfl
        obtain ⟨u1, u2, u3⟩ := VTy.spx_w y 3
        simp only [List.length_map, VTy.width, VTy.storable, VTy.isAgg, avI, ↓OD, OA, Nat.reduceEqDiff, reduceCtorEq, Nat.reduceAdd, Nat.reduceLT, Nat.reduceLeDiff, reduceIte]
        refine callK_intro _ _ hpl ?_
        simp only [List.length_map, VTy.width, VTy.storable, VTy.isAgg, avI, spx_ren, u1, u2, u3, lt0, List.cons_append, List.nil_append, List.length_cons, List.length_nil, List.map_cons, List.map_nil, Nat.add_zero, Nat.zero_add, Nat.reduceAdd, ↓OD, OA, Nat.reduceEqDiff, reduceCtorEq, Nat.reduceAdd, Nat.reduceLT, Nat.reduceLeDiff, reduceIte]
        have hW8 : ∀ n ∈ (if y.okM && inB 11 9 11 then addAll [] (y.frees 11) else []), (8 : Int) ≤ n := by
          intro n hn
          split at hn
          · rcases (addAll_mem _ _ _).1 hn with h | h
            · cases h
            · exact hyf n h
          · cases hn
        have hWl : (if y.okM && inB 11 9 11 then addAll [] (y.frees 11) else []).length ≤ 4194304 := by
          have h1 := addAll_len (y.frees 11) []
          have h2 := y.frees_len 11
          simp only [List.length_nil] at h1
          split <;> simp <;> omega
        generalize (if y.okM && inB 11 9 11 then addAll [] (y.frees 11) else []) = W at hfr hW8 hWl
        refine callK_intro _ _ (hfr.lend (.cons (frz_tree y 3 _ rfl) (.cons (.same _ rfl) .nil)) (memlesses_vals (fun _ => rfl) W) (norI W)) ?_
        have hob : ∃ ob : AObj, rowOb true 3 1 (W.map avI) = ob ∧ ((W = [] ∧ ob = .nil 3 1) ∨ (W ≠ [] ∧ ob = .live 3 1 (W.map avI))) := by
          by_cases h : W = []
          · exact ⟨_, rfl, .inl ⟨h, by simp [rowOb, h]⟩⟩
          · exact ⟨_, rfl, .inr ⟨h, by simp [rowOb, h]⟩⟩
        obtain ⟨ob, hobe, hob⟩ := hob
        rw [hobe]
        simp only [List.length_map, VTy.width, VTy.storable, VTy.isAgg, avI, spx_ren, u1, u2, u3, lt0, List.cons_append, List.nil_append, List.length_cons, List.length_nil, List.map_cons, List.map_nil, Nat.add_zero, Nat.zero_add, Nat.reduceAdd, ↓OD, OA, Nat.reduceEqDiff, reduceCtorEq, Nat.reduceAdd, Nat.reduceLT, Nat.reduceLeDiff, reduceIte]
        refine loopK_intro (ι := Nat) (fun i => i ≤ W.length) (fun i => envL [(3, .ptr 0 1 0 0), (9, .ptr 4 1 0 0), (10, .row 5 W.length), (11, .v (.int .i64 (i : Int)))])
          (fun _ => [.live 26 4 [x.av], .live 26 4 (mixN 8 8), .own (.sl (x.Kids.map VTy.av)), .own (.sl (y.Kids.map VTy.av)), .live 26 4 [(spx 3 y.av).1], ob]) (fun i => W.length - i) 0 (Nat.zero_le _) (.of_eq (by simp) rfl) ?_
        intro i hi
        rcases hob with ⟨rfl, rfl⟩ | ⟨hW0, rfl⟩
        · obtain rfl : i = 0 := by simpa using hi
          simp only [List.length_nil, ↓OD, OA, Nat.reduceEqDiff, reduceCtorEq, Nat.reduceAdd, Nat.reduceLT, Nat.reduceLeDiff, reduceIte]
          refine drawK_intro ?_
          simp only [List.length_map, VTy.width, VTy.storable, VTy.isAgg, avI, spx_ren, u1, u2, u3, lt0, List.cons_append, List.nil_append, List.length_cons, List.length_nil, ↓OD, OA, Nat.reduceEqDiff, reduceCtorEq, Nat.reduceAdd, Nat.reduceLT, Nat.reduceLeDiff, reduceIte]
          refine kcallK_intro hty (fun O' hg => .cons (frz_tree y 3 _ ((hg 3 (by simp)).trans rfl)) .nil) ?_
          simp only [List.length_map, VTy.width, VTy.storable, VTy.isAgg, avI, spx_ren, u1, u2, u3, lt0, List.cons_append, List.nil_append, List.length_cons, List.length_nil, ↓OD, OA, Nat.reduceEqDiff, reduceCtorEq, Nat.reduceAdd, Nat.reduceLT, Nat.reduceLeDiff, reduceIte]
          refine kcallK_intro htx0 (fun O' hg => .cons (.same _ hr) .nil) ?_
          simp only [List.length_map, VTy.width, VTy.storable, VTy.isAgg, avI, spx_ren, u1, u2, u3, lt0, List.cons_append, List.nil_append, List.length_cons, List.length_nil, ↓OD, OA, Nat.reduceEqDiff, reduceCtorEq, Nat.reduceAdd, Nat.reduceLT, Nat.reduceLeDiff, reduceIte]
          refine ⟨by kernel_rfl, ?_⟩
          refine pret_tmp (.inl rfl) ?_ rfl
          simp only [List.length_map, VTy.width, VTy.storable, VTy.isAgg, avI, spx_ren, u1, u2, u3, lt0, decide_true, List.cons_append, List.nil_append, List.length_cons, List.length_nil, ↓OD, OA, Nat.reduceEqDiff, reduceCtorEq, Nat.reduceAdd, Nat.reduceLT, Nat.reduceLeDiff, reduceIte]
        · simp only [↓OD, OA, Nat.reduceEqDiff, reduceCtorEq, Nat.reduceAdd, Nat.reduceLT, Nat.reduceLeDiff, reduceIte]
          refine ⟨by rw [List.length_map], ?_⟩
          refine condK_intro (fun hc => ?_) (fun hc => ?_)
          · have hlt : i < W.length := by
              have : (i : Int) < W.length := by simpa using hc
              omega
            have hg : (W.map avI).getD i .top = .v (.int .i64 W[i]) := by simp [List.getD, hlt, avI]
            have h8 := hW8 _ (List.getElem_mem hlt)
            have hd8 : decide (W[i] < 8) = false := decide_eq_false (by omega)
            have hi1 : IntKind.i64.wrap ((i : Int) + 1) = ((i + 1 : Nat) : Int) := wrapA1 (by omega)
            simp only [Int.toNat_natCast, List.length_map, hg, hd8, ↓OD, OA, Nat.reduceEqDiff, reduceCtorEq, Nat.reduceAdd, Nat.reduceLT, Nat.reduceLeDiff, reduceIte]
            refine ⟨by omega, by omega, hlt, ?_⟩
            exact roundQ_intro (i + 1) hlt (by omega) (.of_eq (by simp [hi1]) rfl)
          · simp only [↓OD, OA, Nat.reduceEqDiff, reduceCtorEq, Nat.reduceAdd, Nat.reduceLT, Nat.reduceLeDiff, reduceIte]
            refine drawK_intro ?_
            simp only [List.length_map, VTy.width, VTy.storable, VTy.isAgg, avI, spx_ren, u1, u2, u3, lt0, List.cons_append, List.nil_append, List.length_cons, List.length_nil, ↓OD, OA, Nat.reduceEqDiff, reduceCtorEq, Nat.reduceAdd, Nat.reduceLT, Nat.reduceLeDiff, reduceIte]
            refine kcallK_intro hty (fun O' hg => .cons (frz_tree y 3 _ ((hg 3 (by simp)).trans rfl)) .nil) ?_
            simp only [List.length_map, VTy.width, VTy.storable, VTy.isAgg, avI, spx_ren, u1, u2, u3, lt0, List.cons_append, List.nil_append, List.length_cons, List.length_nil, ↓OD, OA, Nat.reduceEqDiff, reduceCtorEq, Nat.reduceAdd, Nat.reduceLT, Nat.reduceLeDiff, reduceIte]
            refine kcallK_intro htx0 (fun O' hg => .cons (.same _ hr) .nil) ?_
            simp only [List.length_map, VTy.width, VTy.storable, VTy.isAgg, avI, spx_ren, u1, u2, u3, lt0, List.cons_append, List.nil_append, List.length_cons, List.length_nil, ↓OD, OA, Nat.reduceEqDiff, reduceCtorEq, Nat.reduceAdd, Nat.reduceLT, Nat.reduceLeDiff, reduceIte]
            refine ⟨by kernel_rfl, ?_⟩
            refine pret_tmp (.inl rfl) ?_ rfl
            simp only [List.length_map, VTy.width, VTy.storable, VTy.isAgg, avI, spx_ren, u1, u2, u3, lt0, decide_true, List.cons_append, List.nil_append, List.length_cons, List.length_nil, ↓OD, OA, Nat.reduceEqDiff, reduceCtorEq, Nat.reduceAdd, Nat.reduceLT, Nat.reduceLeDiff, reduceIte]
  · have ho' : x.okM = false := by simpa using ho
    have hpm : putM x 11 ts = x := by rw [putM, ho']; rfl
    have him := impl_Put_own x 11 ts hxw htw
    rw [hpm, e2] at him
    have htxe : tyTextM x = ⟨#[]⟩ := by rw [tyTextM, ho']; rfl
    rw [htxe] at htx
    have hn3 : AV.norefs [x.av, .v (.int .i64 11), .sl (ts.map VTy.av)] = true := by simp [AV.norefs, AV.noref, VTy.noref, norTy]
    have hnl : (AV.sl (ts.map VTy.av)).noref = true := norTy ts
    simp only [ho', Bool.not_false, List.length_map, VTy.width, VTy.storable, VTy.isAgg, avI, spx_ren, w1, w2, w3, w4, w5, w6, lt0, List.cons_append, List.nil_append, ↓OD, OA, Nat.reduceEqDiff, reduceCtorEq, Nat.reduceAdd, Nat.reduceLT, Nat.reduceLeDiff, reduceIte]
    refine drawK_intro ?_
    simp only [List.length_map, VTy.width, VTy.storable, VTy.isAgg, avI, spx_ren, w1, w2, w3, w4, w5, w6, lt0, List.cons_append, List.nil_append, ↓OD, OA, Nat.reduceEqDiff, reduceCtorEq, Nat.reduceAdd, Nat.reduceLT, Nat.reduceLeDiff, reduceIte]
    refine lcallK_intro him (fun O' _ _ => .cons (.same _ hr) (.cons (.same _ rfl) (.cons (.same _ hnl) .nil))) (by rw [VTy.spx]; rfl) rfl ?_
    simp only [List.length_map, VTy.width, VTy.storable, VTy.isAgg, avI, spx_ren, w1, w2, w3, w4, w5, w6, lt0, List.cons_append, List.nil_append, List.length_cons, List.length_nil, ↓OD, OA, Nat.reduceEqDiff, reduceCtorEq, Nat.reduceAdd, Nat.reduceLT, Nat.reduceLeDiff, reduceIte]
    refine kcallK_intro hsm (fun O' hg => .cons (frz_tree x 1 _ ((hg 1 (by simp)).trans rfl)) (.cons (.same _ hr) .nil)) ?_
    simp only [List.length_map, VTy.width, VTy.storable, VTy.isAgg, avI, spx_ren, w1, w2, w3, w4, w5, w6, lt0, List.cons_append, List.nil_append, ↓OD, OA, Nat.reduceEqDiff, reduceCtorEq, Nat.reduceAdd, Nat.reduceLT, Nat.reduceLeDiff, reduceIte]
    refine qcallK_intro _ htx hn1 ?_
    simp only [List.length_map, VTy.width, VTy.storable, VTy.isAgg, avI, spx_ren, w1, w2, w3, w4, w5, w6, lt0, List.cons_append, List.nil_append, ↓OD, OA, Nat.reduceEqDiff, reduceCtorEq, Nat.reduceAdd, Nat.reduceLT, Nat.reduceLeDiff, reduceIte]
    refine ⟨by kernel_rfl, ?_⟩
    refine pret_tmp (.inl rfl) ?_ rfl
    simp only [List.length_map, VTy.width, VTy.storable, VTy.isAgg, avI, spx_ren, w1, w2, w3, w4, w5, w6, lt0, List.cons_append, List.nil_append, ↓OD, OA, Nat.reduceEqDiff, reduceCtorEq, Nat.reduceAdd, Nat.reduceLT, Nat.reduceLeDiff, reduceIte]
end Go.Proofs.Ab
