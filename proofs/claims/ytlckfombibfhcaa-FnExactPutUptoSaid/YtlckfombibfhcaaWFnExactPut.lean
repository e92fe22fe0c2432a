/-
  FnExactPut, walked.
-/
import Derived.Test.YtlckfombibfhcaaWPut
set_option linter.unusedVariables false
set_option linter.unusedSimpArgs false
set_option linter.defProp false
namespace Go.Ab
set_option maxRecDepth 100000
theorem eqS_T2 {fl : Bool} {P : Program} {L : AX → SS → List AV → Prop} {α : Type} {av : α → AV} {s : Nat} {f : FuncId} {l : List α} (hs : ∀ x, (av x).isAgg = true ∧ (av x).cells.length = s ∧ (av x).storable = true)
    (hl : l.length ≤ 1152921504606846976) (hc : ∀ x ∈ l, PCon P f [av x, av x] (.v (.bool true))) :
    wpT P L (fun a => a = .v (.bool true)) (TeqS s f fl) [.sl (l.map av), .sl (l.map av)] [] := by
  simp only [TeqS, WA, Nat.reduceEqDiff, Nat.reduceAdd, Nat.reduceLT, Nat.reduceLeDiff, Nat.reduceMul, reduceIte, reduceCtorEq, Int.reduceEq, Int.reduceLT, Int.reduceLE, Int.reduceNe]
  refine bind_cut [] rfl ?_ (by simp only [WA, Nat.reduceEqDiff, Nat.reduceAdd, Nat.reduceLT, Nat.reduceLeDiff, Nat.reduceMul, reduceIte, reduceCtorEq, Int.reduceEq, Int.reduceLT, Int.reduceLE, Int.reduceNe])
  simp only [WA, Nat.reduceEqDiff, Nat.reduceAdd, Nat.reduceLT, Nat.reduceLeDiff, Nat.reduceMul, reduceIte, reduceCtorEq, Int.reduceEq, Int.reduceLT, Int.reduceLE, Int.reduceNe]
  refine loop_up l.length (fun i => [.v (.int .i64 i)]) rfl fun i hi => ?_
  simp only [WA, Nat.reduceEqDiff, Nat.reduceAdd, Nat.reduceLT, Nat.reduceLeDiff, Nat.reduceMul, reduceIte, reduceCtorEq, Int.reduceEq, Int.reduceLT, Int.reduceLE, Int.reduceNe]
  refine ite_dec (fun h => ?_) (fun h => ?_)
  · have hlt : i < l.length := by omega
    obtain ⟨x1, x2, x3⟩ := hs l[i]
    simp only [WA, Nat.reduceEqDiff, Nat.reduceAdd, Nat.reduceLT, Nat.reduceLeDiff, Nat.reduceMul, reduceIte, reduceCtorEq, Int.reduceEq, Int.reduceLT, Int.reduceLE, Int.reduceNe]
    refine elemM av hlt x2 ?_
    simp only [x1, x2, x3, WA, Nat.reduceEqDiff, Nat.reduceAdd, Nat.reduceLT, Nat.reduceLeDiff, Nat.reduceMul, reduceIte, reduceCtorEq, Int.reduceEq, Int.reduceLT, Int.reduceLE, Int.reduceNe]
    refine elemM av hlt x2 ?_
    simp only [x1, x2, x3, WA, Nat.reduceEqDiff, Nat.reduceAdd, Nat.reduceLT, Nat.reduceLeDiff, Nat.reduceMul, reduceIte, reduceCtorEq, Int.reduceEq, Int.reduceLT, Int.reduceLE, Int.reduceNe]
    refine call_v (hc _ (List.getElem_mem hlt)) ?_
    simp (disch := omega) only [wrapA1, WA, Nat.reduceEqDiff, Nat.reduceAdd, Nat.reduceLT, Nat.reduceLeDiff, Nat.reduceMul, reduceIte, reduceCtorEq, Int.reduceEq, Int.reduceLT, Int.reduceLE, Int.reduceNe]
    exact hlt
  · simp only [WA, Nat.reduceEqDiff, Nat.reduceAdd, Nat.reduceLT, Nat.reduceLeDiff, Nat.reduceMul, reduceIte, reduceCtorEq, Int.reduceEq, Int.reduceLT, Int.reduceLE, Int.reduceNe]
theorem VTy.put_wt (kd : Int) (l : List VTy) (L : Nat) (hl : ∀ y ∈ l, y.wt ≤ L) (x : VTy) : (x.put kd l).wt + 1 ≤ (x.wt + 1) * (L + 1) := by
  have hpe := x.put_eq kd l
  have hw := x.wt_eq
  have h1 : 1 * (L + 1) ≤ (x.wt + 1) * (L + 1) := Nat.mul_le_mul_right _ (by omega)
  have hx0 : x.wt + 1 ≤ (x.wt + 1) * (L + 1) := Nat.le_mul_of_pos_right _ (by omega)
  split at hpe
  · rw [hpe]
    cases hq : l[x.N.toNat]? with
    | none => simp only [Option.getD_none]; exact hx0
    | some y =>
      simp only [Option.getD_some]
      have := hl y (List.mem_of_getElem? hq)
      omega
  · have hs : ∀ ks : List VTy, (∀ y ∈ ks, (y.put kd l).wt + 1 ≤ (y.wt + 1) * (L + 1)) → ks.length + ((ks.map fun y => y.put kd l).map VTy.wt).sum ≤ (ks.length + (ks.map VTy.wt).sum) * (L + 1) := by
      intro ks
      induction ks with
      | nil => intro _; simp
      | cons y ks ih =>
        intro h
        have h2 := ih fun z hz => h z (by simp [hz])
        have h3 := h y (by simp)
        simp only [List.length_cons, List.map_cons, List.sum_cons]
        have : (ks.length + 1 + (y.wt + (ks.map VTy.wt).sum)) * (L + 1) = (y.wt + 1) * (L + 1) + (ks.length + (ks.map VTy.wt).sum) * (L + 1) := by rw [← Nat.add_mul]; congr 1; omega
        omega
    have h2 := hs x.Kids fun y hy => VTy.put_wt kd l L hl y
    have hm : (x.put kd l).wt = x.Name.size + (x.Kids.length + ((x.Kids.map fun y => y.put kd l).map VTy.wt).sum) := by
      rw [hpe, VTy.wt_eq, VTy.Name_mk, VTy.Kids_mk, List.length_map]
    have h3 : (x.wt + 1) * (L + 1) = (x.Name.size + 1) * (L + 1) + (x.Kids.length + (x.Kids.map VTy.wt).sum) * (L + 1) := by rw [← Nat.add_mul]; congr 1; omega
    have h4 : x.Name.size + 1 ≤ (x.Name.size + 1) * (L + 1) := Nat.le_mul_of_pos_right _ (by omega)
    omega
termination_by SizeOf.sizeOf x
decreasing_by all_goals exact VTy.Kids_lt (by assumption)
end Go.Ab
namespace Go.Proofs.Ab
open Go.Ab
set_option maxRecDepth 100000
set_option maxHeartbeats 4000000
theorem eqTy_b (x : VTy) (hb : x.wt ≤ 1152921504606846976) : PCon Try.prog F.laws_eqTy [x.av, x.av] (.v (.bool true)) := by
  have hw := VTy.wt_eq x
  have hKids : PCon Try.prog F.laws_eqTyS [.sl (x.Kids.map VTy.av), .sl (x.Kids.map VTy.av)] (.v (.bool true)) :=
    T.laws_eqTyS_con rfl (by simp only [AV.norefs, AV.noref, Bool.and_true, Bool.and_self]; exact (norefsM (f := VTy.av) (l := x.Kids) VTy.noref)) (eqS_T2 VTy.shape (by omega) fun y hy => eqTy_b y (by have := le_sum VTy.wt hy; omega))
  refine T.laws_eqTy_con rfl (by simp [AV.norefs, AV.noref, VTy.noref]) ?_
  simp (disch := omega) only [T.laws_eqTy, VTy.cells, VTy.isAgg, VTy.storable, VTy.noref, VTy.eta, wrapS, lt0, WA, Nat.reduceEqDiff, Nat.reduceAdd, Nat.reduceLT, Nat.reduceLeDiff, Nat.reduceMul, reduceIte, reduceCtorEq, Int.reduceEq, Int.reduceLT, Int.reduceLE, Int.reduceNe]
  refine call_v hKids ?_
  simp (disch := omega) only [VTy.cells, VTy.isAgg, VTy.storable, VTy.noref, VTy.eta, wrapS, lt0, WA, Nat.reduceEqDiff, Nat.reduceAdd, Nat.reduceLT, Nat.reduceLeDiff, Nat.reduceMul, reduceIte, reduceCtorEq, Int.reduceEq, Int.reduceLT, Int.reduceLE, Int.reduceNe]
termination_by SizeOf.sizeOf x
decreasing_by all_goals first | exact VTy.Kids_lt (by assumption)
theorem putM_wt (x : VTy) (kd : Int) (l : List VTy) (hb : x.wt + (l.length + (l.map VTy.wt).sum) ≤ 1048576) : (putM x kd l).wt ≤ 1099515822080 := by
  have h1 := VTy.put_wt kd l 1048576 (fun y hy => by have := le_sum VTy.wt hy; omega) x
  have h2 : (x.wt + 1) * (1048576 + 1) ≤ 1048577 * (1048576 + 1) := Nat.mul_le_mul_right _ (by omega)
  unfold putM
  split <;> omega
theorem law_FnExactPut (x : VTy) (kd : Int) (l : List VTy) (hb : x.wt + (l.length + (l.map VTy.wt).sum) ≤ 1048576) (_ : x.ok) (hkd : inR kd) (_ : ∀ y ∈ l, y.ok) : PCon Try.prog F.laws_FnExactPut [x.av, avI kd, .sl (l.map VTy.av)] (.v (.bool true)) := by
  have hwt := putM_wt x kd l hb
  have hsz := szTy_c x 1048576 (by omega) (Nat.le_refl _)
  have hszl := szTyS_c l (1048576 - x.wt) (by omega) (by omega)
  have hsp := spec_Put_c x kd l (by omega) (by omega)
  have him := impl_Put_own x kd l (by omega) (by omega)
  have hto := toTy_c x (by omega)
  have htol := toTyS_c l (by omega)
  have hown := toTy_own x (by omega)
  have hownl := toTyS_own l (by omega)
  have heq := eqTy_c x (by omega)
  have heql := eqTyS_c l (by omega)
  generalize putM x kd l = w at *
  have heqw := eqTy_b w (by omega)
  have hn1 : AV.norefs [x.av] = true := by simp [AV.norefs, VTy.noref]
  have hn2 : ∀ v : Value, AV.norefs [x.av, .v v] = true := fun v => by simp [AV.norefs, AV.noref, VTy.noref]
  have hnl : (AV.sl (l.map VTy.av)).noref = true := norTy l
  have hnl1 : AV.norefs [AV.sl (l.map VTy.av)] = true := by simp only [AV.norefs, hnl, Bool.and_true]
  have hnl2 : ∀ v : Value, AV.norefs [AV.sl (l.map VTy.av), .v v] = true := fun v => by simp only [AV.norefs, hnl, Bool.and_true]; rfl
  have hn3 : AV.norefs [x.av, .v (.int .i64 kd), .sl (l.map VTy.av)] = true := by simp [AV.norefs, AV.noref, VTy.noref, norTy]
  have hr : (x.av).noref = true := VTy.noref x
  have hrw : (w.av).noref = true := VTy.noref w
  obtain ⟨w1, w2, w3⟩ := VTy.spx_w x 2
  obtain ⟨w4, w5, w6⟩ := VTy.spx_w w 5
  obtain ⟨w7, w8, w9⟩ := VTy.spx_w w 7
  have hcnt : ∀ y : VTy, AV.cnts (y.Kids.map VTy.av) ≤ 16 * (y.wt + 1) := fun y => by
    have := y.cnt_le
    rw [y.cnt_eq] at this
    omega
  have hcx := hcnt x
  have hcw := hcnt w
  have hcl : AV.cnts (l.map VTy.av) ≤ 16 * (l.length + (l.map VTy.wt).sum) := cnts_le VTy.wt 16 l fun y _ => VTy.cnt_le y
  have e2 : ∀ y : VTy, (spx 0 y.av).2 = [.own (.sl (y.Kids.map VTy.av))] := fun y => by rw [VTy.spx]
  have hco : ∀ y : VTy, (spx 0 y.av).2.all AObj.isOwn = true := fun y => by rw [e2]; rfl
  have htr : ∀ (y : VTy) (n : Nat) (O : List AObj), O[n]? = some (.own (.sl (y.Kids.map VTy.av))) → Frz O (spx n y.av).1 y.av := fun y n O hO => .tree (VTy.elem y) fun k d h => by
    rw [e2] at h
    match k, h with
    | 0, h => simp at h; subst h; exact hO
  have hhe := heldTy_c w 1 (by omega) (by omega)
  have hke : ∀ (n : Nat) (O : List AObj), O[n]? = some (.own (.sl ((VTy.markL w.Kids 1).map VTy.av))) → Frz O (spx n w.av).1 (VTy.kept w 1).av := fun n O hO => by
    rw [← VTy.kept_spx w 1 n]
    exact htr (VTy.kept w 1) n O hO
  have hmk : ∀ o0 o1 o3 o4 o5 o6, Con Try.prog F.laws_markTy [(spx 2 x.av).1, .v (.int .i64 1)] [o0, o1, .own (.sl (x.Kids.map VTy.av)), o3, o4, o5, o6] (.v (.int .i64 ((1 + AV.cnts (x.Kids.map VTy.av) : Nat) : Int))) [o0, o1, .dead, o3, o4, o5, o6] := fun o0 o1 o3 o4 o5 o6 => by
    have := (markTy_own x 1 (by omega)).at (spx_own 0 _) (by rw [VTy.spx]; intro a ha; simp at ha; rcases ha with rfl | rfl <;> rfl) rfl [o0, o1] [o3, o4, o5, o6]
    simp only [List.map_cons, List.map_nil, spx_ren, ren_v, e2, List.length_cons, List.length_nil, Nat.zero_add, Nat.add_zero, Nat.reduceAdd, List.replicate_succ, List.replicate_zero, List.cons_append, List.nil_append] at this
    exact this
  have hmw : ∀ o0 o1 o2 o3 o4 o6, Con Try.prog F.laws_markTy [(spx 5 w.av).1, .v (.int .i64 1)] [o0, o1, o2, o3, o4, .own (.sl (w.Kids.map VTy.av)), o6] (.v (.int .i64 ((1 + AV.cnts (w.Kids.map VTy.av) : Nat) : Int))) [o0, o1, o2, o3, o4, .own (.sl ((VTy.markL w.Kids 1).map VTy.av)), o6] := fun o0 o1 o2 o3 o4 o6 => by
    have := (markTy_keep w 1 (by omega)).atK (by rw [e2, e2]; rfl) (spx_own 0 _) (spx_own 0 _) (by rw [VTy.spx]; intro a ha; simp at ha; rcases ha with rfl | rfl <;> rfl) rfl [o0, o1, o2, o3, o4] [o6]
    simp only [List.map_cons, List.map_nil, spx_ren, ren_v, e2, List.length_cons, List.length_nil, Nat.zero_add, Nat.add_zero, Nat.reduceAdd, List.cons_append, List.nil_append] at this
    exact this
  have him1 : ∀ o0 o1 o3, Con Try.prog F.impl_Put [(spx 2 x.av).1, .v (.int .i64 kd), .own 4] [o0, o1, .own (.sl (x.Kids.map VTy.av)), o3, .own (.sl (l.map VTy.av))] (spx 5 w.av).1 [o0, o1, .own (.sl (x.Kids.map VTy.av)), o3, .own (.sl (l.map VTy.av)), .own (.sl (w.Kids.map VTy.av))] := fun o0 o1 o3 => by
    have hz : FrzL [o0, o1, .own (.sl (x.Kids.map VTy.av)), o3, .own (.sl (l.map VTy.av))] [(spx 2 x.av).1, .v (.int .i64 kd), .own 4] [x.av, .v (.int .i64 kd), .sl (l.map VTy.av)] := .cons (htr x 2 _ rfl) (.cons (.same _ rfl) (.cons (.own 4 _ rfl) .nil))
    have := Con.lend him hz.get.1 hz.get.2 (by rw [VTy.spx]; rfl) (by rw [e2]; rfl)
    rw [own_ren (owns_of (hco w)), spx_ren, e2] at this
    exact this
  refine con_of_wp A.laws_FnExactPut_ok rfl ?_
  simp only [A.laws_FnExactPut, List.length_map, VTy.width, VTy.storable, VTy.isAgg, avI, spx_ren, w1, w2, w3, w4, w5, w6, w7, w8, w9, e2, lt0, List.cons_append, List.nil_append, ↓OD, OA, Nat.reduceEqDiff, reduceCtorEq, Nat.reduceAdd, Nat.reduceLT, Nat.reduceLeDiff, reduceIte]
  refine callK_intro _ _ (hsz.any (hn2 _) rfl _) ?_
  simp only [List.length_map, VTy.width, VTy.storable, VTy.isAgg, avI, spx_ren, w1, w2, w3, w4, w5, w6, w7, w8, w9, e2, lt0, List.cons_append, List.nil_append, ↓OD, OA, Nat.reduceEqDiff, reduceCtorEq, Nat.reduceAdd, Nat.reduceLT, Nat.reduceLeDiff, reduceIte]
  refine callK_intro _ _ (hszl.any (hnl2 _) rfl _) ?_
  simp only [List.length_map, VTy.width, VTy.storable, VTy.isAgg, avI, spx_ren, w1, w2, w3, w4, w5, w6, w7, w8, w9, e2, lt0, List.cons_append, List.nil_append, ↓OD, OA, Nat.reduceEqDiff, reduceCtorEq, Nat.reduceAdd, Nat.reduceLT, Nat.reduceLeDiff, reduceIte]
  refine callK_intro _ _ (hto.any hn1 hr _) ?_
  simp only [List.length_map, VTy.width, VTy.storable, VTy.isAgg, avI, spx_ren, w1, w2, w3, w4, w5, w6, w7, w8, w9, e2, lt0, List.cons_append, List.nil_append, ↓OD, OA, Nat.reduceEqDiff, reduceCtorEq, Nat.reduceAdd, Nat.reduceLT, Nat.reduceLeDiff, reduceIte]
  refine callK_intro _ _ (htol.any hnl1 hnl _) ?_
  simp only [List.length_map, VTy.width, VTy.storable, VTy.isAgg, avI, spx_ren, w1, w2, w3, w4, w5, w6, w7, w8, w9, e2, lt0, List.cons_append, List.nil_append, ↓OD, OA, Nat.reduceEqDiff, reduceCtorEq, Nat.reduceAdd, Nat.reduceLT, Nat.reduceLeDiff, reduceIte]
  refine callK_intro _ _ (hsp.any hn3 hrw _) ?_
  simp only [List.length_map, VTy.width, VTy.storable, VTy.isAgg, avI, spx_ren, w1, w2, w3, w4, w5, w6, w7, w8, w9, e2, lt0, List.cons_append, List.nil_append, ↓OD, OA, Nat.reduceEqDiff, reduceCtorEq, Nat.reduceAdd, Nat.reduceLT, Nat.reduceLeDiff, reduceIte]
  refine callK_intro _ _ (kept_call hown hn1 (hco x) _) ?_
  simp only [List.length_map, VTy.width, VTy.storable, VTy.isAgg, avI, spx_ren, w1, w2, w3, w4, w5, w6, w7, w8, w9, e2, lt0, List.cons_append, List.nil_append, ↓OD, OA, Nat.reduceEqDiff, reduceCtorEq, Nat.reduceAdd, Nat.reduceLT, Nat.reduceLeDiff, reduceIte]
  refine callK_intro _ _ (kept_call hownl hnl1 rfl _) ?_
  simp only [List.length_map, VTy.width, VTy.storable, VTy.isAgg, avI, spx_ren, w1, w2, w3, w4, w5, w6, w7, w8, w9, e2, lt0, List.cons_append, List.nil_append, ↓OD, OA, Nat.reduceEqDiff, reduceCtorEq, Nat.reduceAdd, Nat.reduceLT, Nat.reduceLeDiff, reduceIte]
  refine callK_intro _ _ (him1 _ _ _) ?_
  simp only [List.length_map, VTy.width, VTy.storable, VTy.isAgg, avI, spx_ren, w1, w2, w3, w4, w5, w6, w7, w8, w9, e2, lt0, List.cons_append, List.nil_append, ↓OD, OA, Nat.reduceEqDiff, reduceCtorEq, Nat.reduceAdd, Nat.reduceLT, Nat.reduceLeDiff, reduceIte]
  refine callK_intro _ _ (heqw.lendv (.cons (htr w 5 _ rfl) (.cons (.same _ hrw) .nil))) ?_
  simp only [List.length_map, VTy.width, VTy.storable, VTy.isAgg, avI, spx_ren, w1, w2, w3, w4, w5, w6, w7, w8, w9, e2, lt0, List.cons_append, List.nil_append, ↓OD, OA, Nat.reduceEqDiff, reduceCtorEq, Nat.reduceAdd, Nat.reduceLT, Nat.reduceLeDiff, reduceIte]
  refine drawK_intro ?_
  simp only [List.length_map, VTy.width, VTy.storable, VTy.isAgg, avI, spx_ren, w1, w2, w3, w4, w5, w6, w7, w8, w9, e2, lt0, List.cons_append, List.nil_append, ↓OD, OA, Nat.reduceEqDiff, reduceCtorEq, Nat.reduceAdd, Nat.reduceLT, Nat.reduceLeDiff, reduceIte]
  refine qcallK_intro _ hto hn1 ?_
  simp only [List.length_map, VTy.width, VTy.storable, VTy.isAgg, avI, spx_ren, w1, w2, w3, w4, w5, w6, w7, w8, w9, e2, lt0, List.cons_append, List.nil_append, ↓OD, OA, Nat.reduceEqDiff, reduceCtorEq, Nat.reduceAdd, Nat.reduceLT, Nat.reduceLeDiff, reduceIte]
  refine callK_intro _ _ (heq.lendv (.cons (htr x 2 _ rfl) (.cons (.same _ hr) .nil))) ?_
  simp only [List.length_map, VTy.width, VTy.storable, VTy.isAgg, avI, spx_ren, w1, w2, w3, w4, w5, w6, w7, w8, w9, e2, lt0, List.cons_append, List.nil_append, ↓OD, OA, Nat.reduceEqDiff, reduceCtorEq, Nat.reduceAdd, Nat.reduceLT, Nat.reduceLeDiff, reduceIte]
  refine ⟨by kernel_rfl, ?_⟩
  refine callK_intro _ _ (htol.any hnl1 hnl _) ?_
  simp only [List.length_map, VTy.width, VTy.storable, VTy.isAgg, avI, spx_ren, w1, w2, w3, w4, w5, w6, w7, w8, w9, e2, lt0, List.cons_append, List.nil_append, ↓OD, OA, Nat.reduceEqDiff, reduceCtorEq, Nat.reduceAdd, Nat.reduceLT, Nat.reduceLeDiff, reduceIte]
  refine callK_intro _ _ (heql.lendv (.cons (.own 4 _ rfl) (.cons (.same _ hnl) .nil))) ?_
  simp only [List.length_map, VTy.width, VTy.storable, VTy.isAgg, avI, spx_ren, w1, w2, w3, w4, w5, w6, w7, w8, w9, e2, lt0, List.cons_append, List.nil_append, ↓OD, OA, Nat.reduceEqDiff, reduceCtorEq, Nat.reduceAdd, Nat.reduceLT, Nat.reduceLeDiff, reduceIte]
  refine callK_intro _ _ (hmk _ _ _ _ _ _) ?_
  simp only [List.length_map, VTy.width, VTy.storable, VTy.isAgg, avI, spx_ren, w1, w2, w3, w4, w5, w6, w7, w8, w9, e2, lt0, List.cons_append, List.nil_append, ↓OD, OA, Nat.reduceEqDiff, reduceCtorEq, Nat.reduceAdd, Nat.reduceLT, Nat.reduceLeDiff, reduceIte]
  refine callK_intro _ _ (Con.kill (markTyS_own l _ (by omega)) 4 rfl) ?_
  simp only [List.length_map, VTy.width, VTy.storable, VTy.isAgg, avI, spx_ren, w1, w2, w3, w4, w5, w6, w7, w8, w9, e2, lt0, List.cons_append, List.nil_append, ↓OD, OA, Nat.reduceEqDiff, reduceCtorEq, Nat.reduceAdd, Nat.reduceLT, Nat.reduceLeDiff, reduceIte]
  refine callK_intro _ _ (heqw.lendv (.cons (htr w 5 _ rfl) (.cons (.same _ hrw) .nil))) ?_
  simp only [List.length_map, VTy.width, VTy.storable, VTy.isAgg, avI, spx_ren, w1, w2, w3, w4, w5, w6, w7, w8, w9, e2, lt0, List.cons_append, List.nil_append, ↓OD, OA, Nat.reduceEqDiff, reduceCtorEq, Nat.reduceAdd, Nat.reduceLT, Nat.reduceLeDiff, reduceIte]
  refine callK_intro _ _ (hmw _ _ _ _ _ _) ?_
  simp only [List.length_map, VTy.width, VTy.storable, VTy.isAgg, avI, spx_ren, w1, w2, w3, w4, w5, w6, w7, w8, w9, e2, lt0, List.cons_append, List.nil_append, ↓OD, OA, Nat.reduceEqDiff, reduceCtorEq, Nat.reduceAdd, Nat.reduceLT, Nat.reduceLeDiff, reduceIte]
  refine callK_intro _ _ (hhe.lendv (.cons (hke 5 _ rfl) (.cons (.same _ rfl) .nil))) ?_
  simp only [List.length_map, VTy.width, VTy.storable, VTy.isAgg, avI, spx_ren, w1, w2, w3, w4, w5, w6, w7, w8, w9, e2, lt0, List.cons_append, List.nil_append, ↓OD, OA, Nat.reduceEqDiff, reduceCtorEq, Nat.reduceAdd, Nat.reduceLT, Nat.reduceLeDiff, reduceIte]
  refine callK_intro _ _ (hto.any hn1 hr _) ?_
  simp only [List.length_map, VTy.width, VTy.storable, VTy.isAgg, avI, spx_ren, w1, w2, w3, w4, w5, w6, w7, w8, w9, e2, lt0, List.cons_append, List.nil_append, ↓OD, OA, Nat.reduceEqDiff, reduceCtorEq, Nat.reduceAdd, Nat.reduceLT, Nat.reduceLeDiff, reduceIte]
  refine callK_intro _ _ (htol.any hnl1 hnl _) ?_
  simp only [List.length_map, VTy.width, VTy.storable, VTy.isAgg, avI, spx_ren, w1, w2, w3, w4, w5, w6, w7, w8, w9, e2, lt0, List.cons_append, List.nil_append, ↓OD, OA, Nat.reduceEqDiff, reduceCtorEq, Nat.reduceAdd, Nat.reduceLT, Nat.reduceLeDiff, reduceIte]
  refine callK_intro _ _ (kept_call him hn3 (hco w) _) ?_
  simp only [List.length_map, VTy.width, VTy.storable, VTy.isAgg, avI, spx_ren, w1, w2, w3, w4, w5, w6, w7, w8, w9, e2, lt0, List.cons_append, List.nil_append, ↓OD, OA, Nat.reduceEqDiff, reduceCtorEq, Nat.reduceAdd, Nat.reduceLT, Nat.reduceLeDiff, reduceIte]
  refine callK_intro _ _ (heqw.lendv (.cons (htr w 7 _ rfl) (.cons (.same _ hrw) .nil))) ?_
  simp only [List.length_map, VTy.width, VTy.storable, VTy.isAgg, avI, spx_ren, w1, w2, w3, w4, w5, w6, w7, w8, w9, e2, lt0, List.cons_append, List.nil_append, ↓OD, OA, Nat.reduceEqDiff, reduceCtorEq, Nat.reduceAdd, Nat.reduceLT, Nat.reduceLeDiff, reduceIte]
  refine callK_intro _ _ (hhe.lendv (.cons (hke 5 _ rfl) (.cons (.same _ rfl) .nil))) ?_
  simp only [List.length_map, VTy.width, VTy.storable, VTy.isAgg, avI, spx_ren, w1, w2, w3, w4, w5, w6, w7, w8, w9, e2, lt0, List.cons_append, List.nil_append, ↓OD, OA, Nat.reduceEqDiff, reduceCtorEq, Nat.reduceAdd, Nat.reduceLT, Nat.reduceLeDiff, reduceIte]
  refine pret_tmp (.inl rfl) ?_ rfl
  simp only [List.length_map, VTy.width, VTy.storable, VTy.isAgg, avI, spx_ren, w1, w2, w3, w4, w5, w6, w7, w8, w9, e2, lt0, List.cons_append, List.nil_append, ↓OD, OA, Nat.reduceEqDiff, reduceCtorEq, Nat.reduceAdd, Nat.reduceLT, Nat.reduceLeDiff, reduceIte]
end Go.Proofs.Ab
