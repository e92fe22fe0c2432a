/-
  Uses of the reference.
-/
import Derived.Test.YtlckfombibfhcaaCUses
set_option linter.unusedVariables false
set_option linter.unusedSimpArgs false
set_option linter.defProp false
namespace Go.Proofs.Ab
open Go.Ab
set_option maxRecDepth 100000
set_option maxHeartbeats 4000000
theorem ksL_mem {k : VKTerm} : ∀ {l : List VKTerm}, k ∈ l → k.ks ≤ VKTerm.ksL l
  | x :: l, h => by
    rcases List.mem_cons.1 h with rfl | h
    · simp [VKTerm.ksL]
    · have := ksL_mem h; simp only [VKTerm.ksL]; omega
theorem getI2 (l : List Int) (i : Nat) (h : i < l.length) : (l.map avI).getD i .top = avI (l.getD i 0) := by simp [List.getD, h]
theorem spec_l13Uses_c (x : VKTerm) (n least : Nat) (last : List Int) (hb : x.wt ≤ 1048576) (hn : n + x.ks ≤ 4194304) (hle : least ≤ 4194304) (hl : last.length ≤ 4194304) :
    SCon Try.prog F.spec_l13Uses G.spec_l13Uses [x.av, avI n, avI least, .sl (last.map avI)] [.sl ((x.uses n least last).map avI)] := by
  have hw := x.wt_eq
  have hk := x.ks_eq
  have hks := x.ks_le
  have hv := x.uses_eq n least last
  generalize hlow : (if x.Kind = 9 then max least (mostF x.Kids n) else least) = low1 at hv
  refine T.spec_l13Uses_scon rfl rfl (by simp [AV.norefs, AV.noref, VKTerm.noref, norIs]) ?_
  simp only [T.spec_l13Uses, VKTerm.cells, VKTerm.isAgg, VKTerm.storable, WA, Nat.reduceEqDiff, Nat.reduceAdd, Nat.reduceLT, Nat.reduceLeDiff, Nat.reduceMul, reduceIte, reduceCtorEq, Int.reduceEq, Int.reduceLT, Int.reduceLE, Int.reduceNe]
  refine bind_cut [avI ((max n least : Nat) : Int)] rfl ?_ ?_
  · repeat' (first | (simp (disch := (first | omega | rfl | exact rfl | (simp only [cells_v, List.length_cons, List.length_nil]; done) | exact VKTerm.width _)) only [VKTerm.cells, VKTerm.isAgg, VKTerm.storable, VKTerm.eta, VKTerm.load_T, VTy.eta, wrapS, wrapA, wrapA1, lt0, WA, Nat.reduceEqDiff, Nat.reduceAdd, Nat.reduceLT, Nat.reduceLeDiff, Nat.reduceMul, reduceIte, reduceCtorEq, Int.reduceEq, Int.reduceLT, Int.reduceLE, Int.reduceNe]) | (refine ite_dec (fun hq => ?_) (fun hq => ?_) <;> (try simp only [hq, decide_true, decide_false, Bool.not_true, Bool.not_false, Bool.not_eq_true', Bool.not_eq_false'])) | (refine ite_ndec (fun hq => ?_) (fun hq => ?_) <;> (try simp only [hq, decide_true, decide_false, Bool.not_true, Bool.not_false, Bool.not_eq_true', Bool.not_eq_false'])) | (refine ite_intro (fun hq => ?_) (fun hq => ?_) <;> (try simp only [hq, decide_true, decide_false, Bool.not_true, Bool.not_false, Bool.not_eq_true', Bool.not_eq_false'])) | (refine bind_push ?_))
    all_goals first | (rw [Nat.max_eq_right (by omega)]; done) | (rw [Nat.max_eq_left (by omega)]; done)
  · simp only [VKTerm.cells, VKTerm.isAgg, VKTerm.storable, WA, Nat.reduceEqDiff, Nat.reduceAdd, Nat.reduceLT, Nat.reduceLeDiff, Nat.reduceMul, reduceIte, reduceCtorEq, Int.reduceEq, Int.reduceLT, Int.reduceLE, Int.reduceNe]
    refine bind_cut [.sl ((usesV ((max n least : Nat) : Int) last x.Vs).map avI)] rfl ?_ ?_
    · repeat' (first | (simp (disch := (first | omega | rfl | exact rfl | (simp only [cells_v, List.length_cons, List.length_nil]; done) | exact VKTerm.width _ | exact VKVal.width _)) only [hel, hely, hd, hdy, VKTerm.cells, VKTerm.isAgg, VKTerm.storable, VKTerm.eta, VKTerm.load_T, VTy.eta, VKVal.cells, VKVal.isAgg, VKVal.storable, VKVal.eta, List.length_map, wrapS, wrapA, wrapA1, lt0, WA, Nat.reduceEqDiff, Nat.reduceAdd, Nat.reduceLT, Nat.reduceLeDiff, Nat.reduceMul, reduceIte, reduceCtorEq, Int.reduceEq, Int.reduceLT, Int.reduceLE, Int.reduceNe]) | (simp (disch := (first | omega | rfl | exact rfl | (simp only [cells_v, List.length_cons, List.length_nil]; done) | exact VKTerm.width _ | exact VKVal.width _)) only [hel, hd, VKTerm.cells, VKTerm.isAgg, VKTerm.storable, VKTerm.eta, VKTerm.load_T, VTy.eta, VKVal.cells, VKVal.isAgg, VKVal.storable, VKVal.eta, List.length_map, wrapS, wrapA, wrapA1, lt0, WA, Nat.reduceEqDiff, Nat.reduceAdd, Nat.reduceLT, Nat.reduceLeDiff, Nat.reduceMul, reduceIte, reduceCtorEq, Int.reduceEq, Int.reduceLT, Int.reduceLE, Int.reduceNe]) | (simp (disch := (first | omega | rfl | exact rfl | (simp only [cells_v, List.length_cons, List.length_nil]; done) | exact VKTerm.width _ | exact VKVal.width _)) only [hd, hdy, VKTerm.cells, VKTerm.isAgg, VKTerm.storable, VKTerm.eta, VKTerm.load_T, VTy.eta, VKVal.cells, VKVal.isAgg, VKVal.storable, VKVal.eta, List.length_map, wrapS, wrapA, wrapA1, lt0, WA, Nat.reduceEqDiff, Nat.reduceAdd, Nat.reduceLT, Nat.reduceLeDiff, Nat.reduceMul, reduceIte, reduceCtorEq, Int.reduceEq, Int.reduceLT, Int.reduceLE, Int.reduceNe]) | (simp (disch := (first | omega | rfl | exact rfl | (simp only [cells_v, List.length_cons, List.length_nil]; done) | exact VKTerm.width _ | exact VKVal.width _)) only [hix, hd, VKTerm.cells, VKTerm.isAgg, VKTerm.storable, VKTerm.eta, VKTerm.load_T, VTy.eta, VKVal.cells, VKVal.isAgg, VKVal.storable, VKVal.eta, List.length_map, wrapS, wrapA, wrapA1, lt0, WA, Nat.reduceEqDiff, Nat.reduceAdd, Nat.reduceLT, Nat.reduceLeDiff, Nat.reduceMul, reduceIte, reduceCtorEq, Int.reduceEq, Int.reduceLT, Int.reduceLE, Int.reduceNe]) | (simp (disch := (first | omega | rfl | exact rfl | (simp only [cells_v, List.length_cons, List.length_nil]; done) | exact VKTerm.width _ | exact VKVal.width _)) only [hd, VKTerm.cells, VKTerm.isAgg, VKTerm.storable, VKTerm.eta, VKTerm.load_T, VTy.eta, VKVal.cells, VKVal.isAgg, VKVal.storable, VKVal.eta, List.length_map, wrapS, wrapA, wrapA1, lt0, WA, Nat.reduceEqDiff, Nat.reduceAdd, Nat.reduceLT, Nat.reduceLeDiff, Nat.reduceMul, reduceIte, reduceCtorEq, Int.reduceEq, Int.reduceLT, Int.reduceLE, Int.reduceNe]) | (simp (disch := (first | omega | rfl | exact rfl | (simp only [cells_v, List.length_cons, List.length_nil]; done) | exact VKTerm.width _ | exact VKVal.width _)) only [VKTerm.cells, VKTerm.isAgg, VKTerm.storable, VKTerm.eta, VKTerm.load_T, VTy.eta, VKVal.cells, VKVal.isAgg, VKVal.storable, VKVal.eta, List.length_map, wrapS, wrapA, wrapA1, lt0, WA, Nat.reduceEqDiff, Nat.reduceAdd, Nat.reduceLT, Nat.reduceLeDiff, Nat.reduceMul, reduceIte, reduceCtorEq, Int.reduceEq, Int.reduceLT, Int.reduceLE, Int.reduceNe]) | (refine ite_dec (fun hq => ?_) (fun hq => ?_) <;> (try simp only [hq, decide_true, decide_false, Bool.not_true, Bool.not_false, Bool.not_eq_true', Bool.not_eq_false'])) | (refine ite_ndec (fun hq => ?_) (fun hq => ?_) <;> (try simp only [hq, decide_true, decide_false, Bool.not_true, Bool.not_false, Bool.not_eq_true', Bool.not_eq_false'])) | (refine ite_intro (fun hq => ?_) (fun hq => ?_) <;> (try simp only [hq, decide_true, decide_false, Bool.not_true, Bool.not_false, Bool.not_eq_true', Bool.not_eq_false'])) | (refine bind_push ?_) | (refine loop_list x.Vs (fun i (q : List Int) => [.sl (q.map avI), avI i]) (fun i rest q => usesV ((max n least : Nat) : Int) q rest = usesV ((max n least : Nat) : Int) last x.Vs ∧ q.length = last.length) last rfl ?_ (fun i k rest b hi hx hm hel hd hg => ?_) (fun b hd hg => ?_)) | (refine bind_cut [.sl ((useV ((max n least : Nat) : Int) b k).map avI), avI k.Kind, avI k.N, avI k.Num, avB k.Text] rfl ?_ ?_) | (refine call_v (spec_l1In_c _ _ _) ?_))
      · have h0 : inB k.N 0 ((b.length : Int) - 1) = true := by rw [← hq]; congr 1; rw [wrapI (by have := hg.2; omega) (by have := hg.2; omega)]
        have h1 := h0
        simp only [inB, Bool.and_eq_true, decide_eq_true_eq] at h1
        have hlt : k.N.toNat < b.length := by omega
        have hgi := getI2 b k.N.toNat hlt
        refine ⟨by omega, by omega, hlt, by rw [hgi]; exact Nat.le_refl _, ?_⟩
        have hk1 : k.Kind = 1 := by assumption
        have hu : useV ((max n least : Nat) : Int) b k = useN b k.N ((max n least : Nat) : Int) := by rw [useV, if_pos hk1]
        rw [hgi]
        simp only [cells_v, List.getD_cons_zero, WA, Nat.reduceEqDiff, Nat.reduceAdd, Nat.reduceLT, Nat.reduceLeDiff, Nat.reduceMul, reduceIte, reduceCtorEq, Int.reduceEq, Int.reduceLT, Int.reduceLE, Int.reduceNe]
        refine ite_dec (fun h => ?_) (fun h => ?_)
        · simp only [List.length_map, hgi, cells_v, isCell_v, VKVal.cells, WA, Nat.reduceEqDiff, Nat.reduceAdd, Nat.reduceLT, Nat.reduceLeDiff, Nat.reduceMul, reduceIte, reduceCtorEq, Int.reduceEq, Int.reduceLT, Int.reduceLE, Int.reduceNe]
          refine ⟨by omega, by omega, hlt, ?_⟩
          have h9 : usesV ((max n least : Nat) : Int) (useV ((max n least : Nat) : Int) b k) rest = usesV ((max n least : Nat) : Int) last x.Vs := hg.1
          refine ⟨hi, _, ⟨h9, by rw [useV_len]; exact hg.2⟩, ?_⟩
          rw [hu, use_lt h0 h, List.map_set]
          rfl
        · simp only [List.length_map, VKVal.cells, WA, Nat.reduceEqDiff, Nat.reduceAdd, Nat.reduceLT, Nat.reduceLeDiff, Nat.reduceMul, reduceIte, reduceCtorEq, Int.reduceEq, Int.reduceLT, Int.reduceLE, Int.reduceNe]
          have h9 : usesV ((max n least : Nat) : Int) (useV ((max n least : Nat) : Int) b k) rest = usesV ((max n least : Nat) : Int) last x.Vs := hg.1
          refine ⟨hi, _, ⟨h9, by rw [useV_len]; exact hg.2⟩, ?_⟩
          rw [hu, use_ge h0 h]
      · have h0 : inB k.N 0 ((b.length : Int) - 1) = false := by rw [← hq]; congr 1; rw [wrapI (by have := hg.2; omega) (by have := hg.2; omega)]
        have hk1 : k.Kind = 1 := by assumption
        have h9 : usesV ((max n least : Nat) : Int) (useV ((max n least : Nat) : Int) b k) rest = usesV ((max n least : Nat) : Int) last x.Vs := hg.1
        refine ⟨hi, _, ⟨h9, by rw [useV_len]; exact hg.2⟩, ?_⟩
        rw [useV, if_pos hk1, useN, if_neg (by rw [h0]; decide)]
      · have h9 : usesV ((max n least : Nat) : Int) (useV ((max n least : Nat) : Int) b k) rest = usesV ((max n least : Nat) : Int) last x.Vs := hg.1
        refine ⟨hi, _, ⟨h9, by rw [useV_len]; exact hg.2⟩, ?_⟩
        rw [useV, if_neg hq]
      · have h9 : b = usesV ((max n least : Nat) : Int) last x.Vs := hg.1
        rw [h9]
    · simp only [VKTerm.cells, VKTerm.isAgg, VKTerm.storable, WA, Nat.reduceEqDiff, Nat.reduceAdd, Nat.reduceLT, Nat.reduceLeDiff, Nat.reduceMul, reduceIte, reduceCtorEq, Int.reduceEq, Int.reduceLT, Int.reduceLE, Int.reduceNe]
      refine loop_list x.Kids (fun i (q : List Int) => [.sl (q.map avI), avI i]) (fun i rest q => VKTerm.usesL x.binds n least low1 i rest q = x.uses n least last ∧ q.length = last.length ∧ i + rest.length = x.Kids.length) (usesV ((max n least : Nat) : Int) last x.Vs) rfl ⟨hv.symm, usesV_len _ _ _, by omega⟩ (fun i k rest b hi hx hm hel hd hg => ?_) (fun b hd hg => ?_)
      · have hsm := le_sum VKTerm.wt hm
        have hg3 : i + (rest.length + 1) = x.Kids.length := hg.2.2
        have hkn := kidN_le x.binds rest.length n
        have hksm : k.ks ≤ VKTerm.ksL x.Kids := ksL_mem hm
        have hlb : lowK i low1 least ≤ 4194304 := by
          unfold lowK
          split
          · rw [← hlow]
            split
            · cases hkk : x.Kids with
              | nil => simp [mostF]; omega
              | cons k0 ks0 =>
                have h1 := k0.most_le n
                have h2 : VKTerm.ksL x.Kids = k0.ks + VKTerm.ksL ks0 := by rw [hkk]; rfl
                simp only [mostF]
                omega
            · omega
          · omega
        simp only [List.length_map, hd, VKTerm.cells, WA, Nat.reduceEqDiff, Nat.reduceAdd, Nat.reduceLT, Nat.reduceLeDiff, Nat.reduceMul, reduceIte, reduceCtorEq, Int.reduceEq, Int.reduceLT, Int.reduceLE, Int.reduceNe]
        refine bind_push ?_
        simp only [WA, Nat.reduceEqDiff, Nat.reduceAdd, Nat.reduceLT, Nat.reduceLeDiff, Nat.reduceMul, reduceIte, reduceCtorEq, Int.reduceEq, Int.reduceLT, Int.reduceLE, Int.reduceNe]
        refine bind_cut [avI ((lowK i low1 least : Nat) : Int)] rfl ?_ ?_
        · by_cases h9 : x.Kind = 9
          · have hd9 : decide (x.Kind = 9) = true := decide_eq_true h9
            by_cases h1 : i = 1
            · have hd1 : decide ((i : Int) = 1) = true := decide_eq_true (by omega)
              have hpos : 0 < x.Kids.length := by omega
              obtain ⟨k0, ks0, hk0⟩ := List.exists_cons_of_ne_nil (show x.Kids ≠ [] by intro h; rw [h] at hpos; simp at hpos)
              have hm0 : k0 ∈ x.Kids := by rw [hk0]; simp
              have hsm0 := le_sum VKTerm.wt hm0
              have hks0 := ksL_mem hm0
              have hmb := k0.most_le n
              have hL : lowK i low1 least = max least (k0.most n) := by rw [lowK, if_pos h1, ← hlow, if_pos h9, hk0]; rfl
              have hk00 : x.Kids[0] = k0 := by simp [hk0]
              simp only [WA, Nat.reduceEqDiff, Nat.reduceAdd, Nat.reduceLT, Nat.reduceLeDiff, Nat.reduceMul, reduceIte, reduceCtorEq, Int.reduceEq, Int.reduceLT, Int.reduceLE, Int.reduceNe]
              refine bind_push ?_
              simp only [VKTerm.cells, hd9, hd1, WA, Nat.reduceEqDiff, Nat.reduceAdd, Nat.reduceLT, Nat.reduceLeDiff, Nat.reduceMul, reduceIte, reduceCtorEq, Int.reduceEq, Int.reduceLT, Int.reduceLE, Int.reduceNe]
              refine elemM (n := 0) VKTerm.av hpos (VKTerm.width _) ?_
              simp only [hk00, VKTerm.isAgg, VKTerm.width, VKTerm.storable, WA, Nat.reduceEqDiff, Nat.reduceAdd, Nat.reduceLT, Nat.reduceLeDiff, Nat.reduceMul, reduceIte, reduceCtorEq, Int.reduceEq, Int.reduceLT, Int.reduceLE, Int.reduceNe]
              refine call_v (spec_l13Most_c k0 n (by omega) (by omega)) ?_
              simp only [WA, Nat.reduceEqDiff, Nat.reduceAdd, Nat.reduceLT, Nat.reduceLeDiff, Nat.reduceMul, reduceIte, reduceCtorEq, Int.reduceEq, Int.reduceLT, Int.reduceLE, Int.reduceNe]
              refine ite_dec (fun h => ?_) (fun h => ?_)
              · simp only [WA, Nat.reduceEqDiff, Nat.reduceAdd, Nat.reduceLT, Nat.reduceLeDiff, Nat.reduceMul, reduceIte, reduceCtorEq, Int.reduceEq, Int.reduceLT, Int.reduceLE, Int.reduceNe]
                rw [hL, Nat.max_eq_right (by omega)]
              · simp only [WA, Nat.reduceEqDiff, Nat.reduceAdd, Nat.reduceLT, Nat.reduceLeDiff, Nat.reduceMul, reduceIte, reduceCtorEq, Int.reduceEq, Int.reduceLT, Int.reduceLE, Int.reduceNe]
                rw [hL, Nat.max_eq_left (by omega)]
            · have hd1 : decide ((i : Int) = 1) = false := decide_eq_false (by omega)
              simp only [WA, Nat.reduceEqDiff, Nat.reduceAdd, Nat.reduceLT, Nat.reduceLeDiff, Nat.reduceMul, reduceIte, reduceCtorEq, Int.reduceEq, Int.reduceLT, Int.reduceLE, Int.reduceNe]
              refine bind_push ?_
              simp only [VKTerm.cells, hd9, hd1, WA, Nat.reduceEqDiff, Nat.reduceAdd, Nat.reduceLT, Nat.reduceLeDiff, Nat.reduceMul, reduceIte, reduceCtorEq, Int.reduceEq, Int.reduceLT, Int.reduceLE, Int.reduceNe]
              rw [lowK, if_neg h1]
          · have hd9 : decide (x.Kind = 9) = false := decide_eq_false h9
            simp only [WA, Nat.reduceEqDiff, Nat.reduceAdd, Nat.reduceLT, Nat.reduceLeDiff, Nat.reduceMul, reduceIte, reduceCtorEq, Int.reduceEq, Int.reduceLT, Int.reduceLE, Int.reduceNe]
            refine bind_push ?_
            simp only [VKTerm.cells, hd9, WA, Nat.reduceEqDiff, Nat.reduceAdd, Nat.reduceLT, Nat.reduceLeDiff, Nat.reduceMul, reduceIte, reduceCtorEq, Int.reduceEq, Int.reduceLT, Int.reduceLE, Int.reduceNe]
            rw [lowK, ← hlow, if_neg h9]
            split <;> rfl
        · simp only [VKTerm.cells, WA, Nat.reduceEqDiff, Nat.reduceAdd, Nat.reduceLT, Nat.reduceLeDiff, Nat.reduceMul, reduceIte, reduceCtorEq, Int.reduceEq, Int.reduceLT, Int.reduceLE, Int.reduceNe]
          rw [hel VKTerm.av 11 _ _ (VKTerm.width _)]
          simp only [VKTerm.isAgg, VKTerm.width, VKTerm.storable, WA, Nat.reduceEqDiff, Nat.reduceAdd, Nat.reduceLT, Nat.reduceLeDiff, Nat.reduceMul, reduceIte, reduceCtorEq, Int.reduceEq, Int.reduceLT, Int.reduceLE, Int.reduceNe]
          refine call_v (spec_l13Kid_c x i rest.length n hb hg3 (by omega)) ?_
          simp only [WA, Nat.reduceEqDiff, Nat.reduceAdd, Nat.reduceLT, Nat.reduceLeDiff, Nat.reduceMul, reduceIte, reduceCtorEq, Int.reduceEq, Int.reduceLT, Int.reduceLE, Int.reduceNe]
          refine scall_v (spec_l13Uses_c k (kidN x.binds rest.length n) (lowK i low1 least) b (by omega) (by omega) hlb (by rw [hg.2.1]; exact hl)) rfl (by simp [AV.norefs, AV.noref, norIs]) ?_
          simp only [List.length_map, VKTerm.uses_len, WA, Nat.reduceEqDiff, Nat.reduceAdd, Nat.reduceLT, Nat.reduceLeDiff, Nat.reduceMul, reduceIte, reduceCtorEq, Int.reduceEq, Int.reduceLT, Int.reduceLE, Int.reduceNe]
          have h9 := hg.1
          rw [VKTerm.usesL] at h9
          refine ⟨hi, _, ⟨h9, by rw [VKTerm.uses_len]; exact hg.2.1, by omega⟩, ?_⟩
          rw [wrapA1 (by omega)]
      · rw [VKTerm.usesL] at hg
        have e : x.av.cells.getD 10 .top = .sl (x.Kids.map VKTerm.av) := by rw [VKTerm.cells]; rfl
        simp only [e, List.length_map, hd, WA, Nat.reduceEqDiff, Nat.reduceAdd, Nat.reduceLT, Nat.reduceLeDiff, Nat.reduceMul, reduceIte, reduceCtorEq, Int.reduceEq, Int.reduceLT, Int.reduceLE, Int.reduceNe]
        rw [hg.1]
termination_by SizeOf.sizeOf x
decreasing_by all_goals exact VKTerm.Kids_lt hm
theorem spec_Uses_c (x : VKTerm) (first : Int) (hb : x.wt ≤ 1048576) : PCon Try.prog F.spec_Uses [x.av, avI first]
    (.sl ((if inB first 0 9000 && decide (x.ks ≤ 9000) then x.uses first.toNat 0 (List.replicate (x.great first.toNat) (-1)) else []).map avI)) := by
  have hks := x.ks_le
  refine T.spec_Uses_con rfl (by simp [AV.norefs, AV.noref, VKTerm.noref]) ?_
  simp only [T.spec_Uses, VKTerm.cells, VKTerm.isAgg, VKTerm.width, VKTerm.storable, WA, Nat.reduceEqDiff, Nat.reduceAdd, Nat.reduceLT, Nat.reduceLeDiff, Nat.reduceMul, reduceIte, reduceCtorEq, Int.reduceEq, Int.reduceLT, Int.reduceLE, Int.reduceNe]
  refine call_v (spec_l13Fine_c x first hb) ?_
  simp only [WA, Nat.reduceEqDiff, Nat.reduceAdd, Nat.reduceLT, Nat.reduceLeDiff, Nat.reduceMul, reduceIte, reduceCtorEq, Int.reduceEq, Int.reduceLT, Int.reduceLE, Int.reduceNe]
  refine ite_intro (fun hq => ?_) (fun hq => ?_)
  · have hq' : (inB first 0 9000 && decide (x.ks ≤ 9000)) = false := by simpa only [Bool.not_eq_true'] using hq
    simp only [WA, Nat.reduceEqDiff, Nat.reduceAdd, Nat.reduceLT, Nat.reduceLeDiff, Nat.reduceMul, reduceIte, reduceCtorEq, Int.reduceEq, Int.reduceLT, Int.reduceLE, Int.reduceNe]
    rw [hq']
    rfl
  · have hq' : (inB first 0 9000 && decide (x.ks ≤ 9000)) = true := by simpa only [Bool.not_eq_false'] using hq
    have h0 := hq'
    simp only [inB, Bool.and_eq_true, decide_eq_true_eq] at h0
    obtain ⟨n, rfl⟩ : ∃ n : Nat, first = n := ⟨first.toNat, by omega⟩
    have hgm := x.great_max n
    have hbl := x.bound_le n
    rw [hq']
    simp only [VKTerm.isAgg, VKTerm.width, VKTerm.storable, if_true, Int.toNat_natCast, WA, Nat.reduceEqDiff, Nat.reduceAdd, Nat.reduceLT, Nat.reduceLeDiff, Nat.reduceMul, reduceIte, reduceCtorEq, Int.reduceEq, Int.reduceLT, Int.reduceLE, Int.reduceNe]
    refine call_v (spec_l13Bound_c x n hb (by omega)) ?_
    simp only [WA, Nat.reduceEqDiff, Nat.reduceAdd, Nat.reduceLT, Nat.reduceLeDiff, Nat.reduceMul, reduceIte, reduceCtorEq, Int.reduceEq, Int.reduceLT, Int.reduceLE, Int.reduceNe]
    refine bind_cut [avI ((x.great n : Nat) : Int)] rfl ?_ ?_
    · simp only [WA, Nat.reduceEqDiff, Nat.reduceAdd, Nat.reduceLT, Nat.reduceLeDiff, Nat.reduceMul, reduceIte, reduceCtorEq, Int.reduceEq, Int.reduceLT, Int.reduceLE, Int.reduceNe]
      refine ite_dec (fun h => ?_) (fun h => ?_)
      · simp only [WA, Nat.reduceEqDiff, Nat.reduceAdd, Nat.reduceLT, Nat.reduceLeDiff, Nat.reduceMul, reduceIte, reduceCtorEq, Int.reduceEq, Int.reduceLT, Int.reduceLE, Int.reduceNe]
        rw [hgm, Nat.max_eq_left (by omega)]
      · simp only [WA, Nat.reduceEqDiff, Nat.reduceAdd, Nat.reduceLT, Nat.reduceLeDiff, Nat.reduceMul, reduceIte, reduceCtorEq, Int.reduceEq, Int.reduceLT, Int.reduceLE, Int.reduceNe]
        rw [hgm, Nat.max_eq_right (by omega)]
    · generalize hg : x.great n = g at *
      simp only [Int.toNat_natCast, WA, Nat.reduceEqDiff, Nat.reduceAdd, Nat.reduceLT, Nat.reduceLeDiff, Nat.reduceMul, reduceIte, reduceCtorEq, Int.reduceEq, Int.reduceLT, Int.reduceLE, Int.reduceNe]
      refine ⟨by omega, by omega, by omega, ?_⟩
      refine bind_cut [.sl ((List.replicate g (-1 : Int)).map avI)] rfl ?_ ?_
      · simp only [WA, Nat.reduceEqDiff, Nat.reduceAdd, Nat.reduceLT, Nat.reduceLeDiff, Nat.reduceMul, reduceIte, reduceCtorEq, Int.reduceEq, Int.reduceLT, Int.reduceLE, Int.reduceNe]
        refine loop_up g (fun i => [.sl ((List.replicate i (-1 : Int) ++ List.replicate (g - i) 0).map avI), avI i]) (by simp) fun i hi => ?_
        simp only [WA, Nat.reduceEqDiff, Nat.reduceAdd, Nat.reduceLT, Nat.reduceLeDiff, Nat.reduceMul, reduceIte, reduceCtorEq, Int.reduceEq, Int.reduceLT, Int.reduceLE, Int.reduceNe]
        refine ite_dec (fun h => ?_) (fun h => ?_)
        · have hlt : i < g := by omega
          have hle : (List.replicate i (-1 : Int) ++ List.replicate (g - i) 0).length = g := by simp; omega
          have hset : ((List.replicate i (-1 : Int) ++ List.replicate (g - i) 0).map avI).set i (avI (-1)) = (List.replicate (i + 1) (-1 : Int) ++ List.replicate (g - (i + 1)) 0).map avI := by
            obtain ⟨m, hm⟩ : ∃ m, g - i = m + 1 := ⟨g - i - 1, by omega⟩
            rw [hm, show g - (i + 1) = m by omega, List.replicate_succ, List.map_append, List.map_cons, mid_set (by simp), List.replicate_succ', List.map_append]
            simp
          have hgi := getI2 (List.replicate i (-1 : Int) ++ List.replicate (g - i) 0) i (by omega)
          simp (disch := omega) only [h_idxE, h_one, cells_v, isCell_v, List.length_map, hle, wrapA1, WA, Nat.reduceEqDiff, Nat.reduceAdd, Nat.reduceLT, Nat.reduceLeDiff, Nat.reduceMul, reduceIte, reduceCtorEq, Int.reduceEq, Int.reduceLT, Int.reduceLE, Int.reduceNe]
          refine ⟨by omega, hlt, by rw [hgi]; exact Nat.le_refl _, hlt, ?_⟩
          rw [hgi]
          exact congrArg (fun l => [AV.sl l, avI ((i + 1 : Nat) : Int)]) hset
        · have : i = g := by omega
          subst this
          simp only [Nat.sub_self, List.replicate_zero, List.append_nil, WA, Nat.reduceEqDiff, Nat.reduceAdd, Nat.reduceLT, Nat.reduceLeDiff, Nat.reduceMul, reduceIte, reduceCtorEq, Int.reduceEq, Int.reduceLT, Int.reduceLE, Int.reduceNe]
      · simp only [VKTerm.isAgg, VKTerm.width, VKTerm.storable, WA, Nat.reduceEqDiff, Nat.reduceAdd, Nat.reduceLT, Nat.reduceLeDiff, Nat.reduceMul, reduceIte, reduceCtorEq, Int.reduceEq, Int.reduceLT, Int.reduceLE, Int.reduceNe]
        refine scall_v (spec_l13Uses_c x n 0 (List.replicate g (-1)) hb (by omega) (by omega) (by simp; omega)) rfl (by simp only [AV.norefs, AV.noref, Bool.and_true]; exact norIs _) ?_
        simp only [List.length_map, VKTerm.uses_len, List.length_replicate, WA, Nat.reduceEqDiff, Nat.reduceAdd, Nat.reduceLT, Nat.reduceLeDiff, Nat.reduceMul, reduceIte, reduceCtorEq, Int.reduceEq, Int.reduceLT, Int.reduceLE, Int.reduceNe]
end Go.Proofs.Ab
