/-
  FnExactHomes, walked (printed by wip/tool/lawown.py).
-/
import Derived.Test.YtlckfombibfhcaaCHomes
import Derived.Test.YtlckfombibfhcaaWHomes
import Derived.Test.YtlckfombibfhcaaWInts
import Derived.Test.YtlckfombibfhcaaCInts
import Derived.Test.YtlckfombibfhcaaOwn
set_option linter.unusedVariables false
set_option linter.unusedSimpArgs false
set_option linter.defProp false
namespace Go.Proofs.Ab
open Go.Ab
set_option maxRecDepth 100000
set_option maxHeartbeats 4000000
theorem law_FnExactHomes (x : VKTerm) (kd : Int) (hb : x.wt ≤ 1048576) (_ : x.ok) (hkd : inR kd) : PCon Try.prog F.laws_FnExactHomes [x.av, avI kd] (.v (.bool true)) := by
  have hsz := szKTerm_c x 1048576 hb (Nat.le_refl _)
  have hsp : PCon Try.prog F.spec_Homes [x.av, avI kd] (.tup [.sl (((homesM x kd).1 : List Int).map avI), .v (.bool ((homesM x kd).2))]) := spec_Homes_c x kd hb
  have him : Con Try.prog F.impl_Homes [x.av, avI kd] [] (.tup [.row 0 ((homesM x kd).1 : List Int).length, .v (.bool ((homesM x kd).2))]) [rowOb (!(homesM x kd).2) 3 1 (((homesM x kd).1 : List Int).map avI)] := impl_Homes_own x kd hb
  have hto := toKTerm_c x hb
  have hown := toKTerm_own x hb
  have heq := eqKTerm_c x hb
  have hWl : ((homesM x kd).1 : List Int).length ≤ 4194304 := by
    unfold homesM
    split
    · rename_i h
      simp only [inB, Bool.and_eq_true, decide_eq_true_eq] at h
      have h2 := homesL_len (x.uses kd.toNat 0 (List.replicate (x.great kd.toNat) (-1))) kd.toNat (x.great kd.toNat) []
      have h3 := x.great_le kd.toNat
      simp only [List.length_nil] at h2
      omega
    · simp
  generalize ((homesM x kd).1 : List Int) = W at *
  generalize (!(homesM x kd).2) = nl at *
  generalize ((homesM x kd).2) = bv at *
  have hei := eqIntS_big W hWl
  have hn1 : AV.norefs [x.av] = true := by simp [AV.norefs, VKTerm.noref]
  have hn2 : ∀ v : Value, AV.norefs [x.av, .v v] = true := fun v => by simp [AV.norefs, AV.noref, VKTerm.noref]
  have hnW : (AV.sl (W.map avI)).noref = true := norIs W
  obtain ⟨w1, w2, w3⟩ := VKTerm.spx_w x 1
  have hco : (spx 0 x.av).2.all AObj.isOwn = true := by rw [VKTerm.spx]; rfl
  have hr : (x.av).noref = true := VKTerm.noref x
  have hcnt : AV.cnts (x.T.Kids.map VTy.av) + AV.cnts (x.Ts.map VTy.av) + AV.cnts (x.Vs.map VKVal.av) + AV.cnts (x.Kids.map VKTerm.av) ≤ 16777232 := by
    have := x.cnt_le
    rw [x.cnt_eq] at this
    omega
  have hhe := heldIntS_c 1 W.length hWl (by omega)
  have hml : ((marksI 1 W.length).map avI).length = W.length := by rw [List.length_map, marksI_len]
  have e2 : (spx 0 x.av).2 = [.own (.sl (x.T.Kids.map VTy.av)), .own (.sl (x.Ts.map VTy.av)), .own (.sl (x.Vs.map VKVal.av)), .own (.sl (x.Kids.map VKTerm.av))] := by rw [VKTerm.spx]
  have htr : ∀ o1 B, Frz (o1 :: ([.own (.sl (x.T.Kids.map VTy.av)), .own (.sl (x.Ts.map VTy.av)), .own (.sl (x.Vs.map VKVal.av)), .own (.sl (x.Kids.map VKTerm.av))] ++ B)) (spx 1 x.av).1 x.av := fun o1 B => by
    rw [← e2]
    refine .tree (VKTerm.elem x) fun k d h => ?_
    rw [Nat.add_comm, List.getElem?_cons_succ, List.getElem?_append_left (List.getElem?_eq_some_iff.1 h).1, h]
  have hmk : ∀ o1 o2 o3, Con Try.prog F.laws_markKTerm [(spx 1 x.av).1, .v (.int .i64 1)] (o1 :: ([.own (.sl (x.T.Kids.map VTy.av)), .own (.sl (x.Ts.map VTy.av)), .own (.sl (x.Vs.map VKVal.av)), .own (.sl (x.Kids.map VKTerm.av))] ++ [o2, o3])) (.v (.int .i64 ((1 + AV.cnts (x.T.Kids.map VTy.av) + AV.cnts (x.Ts.map VTy.av) + AV.cnts (x.Vs.map VKVal.av) + AV.cnts (x.Kids.map VKTerm.av) : Nat) : Int))) (o1 :: ([.dead, .dead, .dead, .dead] ++ [o2, o3])) := fun o1 o2 o3 => by
    have := (markKTerm_own x 1 (by omega)).at (spx_own 0 _) (by rw [VKTerm.spx]; intro a ha; simp at ha; rcases ha with rfl | rfl <;> rfl) rfl [o1] [o2, o3]
    simp only [List.map_cons, List.map_nil, spx_ren, ren_v, e2, List.length_cons, List.length_nil, Nat.zero_add, Nat.add_zero, Nat.reduceAdd, List.replicate_succ, List.replicate_zero, List.cons_append, List.nil_append] at this
    exact this
  refine con_of_wp A.laws_FnExactHomes_ok rfl ?_
  simp only [A.laws_FnExactHomes, List.length_map, bb_ne, VKTerm.width, VKTerm.storable, VKTerm.isAgg, avI, spx_ren, w1, w2, w3, e2, lt0, List.cons_append, List.nil_append, ↓OD, OA, Nat.reduceEqDiff, reduceCtorEq, Nat.reduceAdd, Nat.reduceLT, Nat.reduceLeDiff, reduceIte]
  refine callK_intro _ _ (hsz.any (hn2 _) rfl _) ?_
  simp only [List.length_map, bb_ne, VKTerm.width, VKTerm.storable, VKTerm.isAgg, avI, spx_ren, w1, w2, w3, e2, lt0, List.cons_append, List.nil_append, ↓OD, OA, Nat.reduceEqDiff, reduceCtorEq, Nat.reduceAdd, Nat.reduceLT, Nat.reduceLeDiff, reduceIte]
  refine callK_intro _ _ (hto.any hn1 hr _) ?_
  simp only [List.length_map, bb_ne, VKTerm.width, VKTerm.storable, VKTerm.isAgg, avI, spx_ren, w1, w2, w3, e2, lt0, List.cons_append, List.nil_append, ↓OD, OA, Nat.reduceEqDiff, reduceCtorEq, Nat.reduceAdd, Nat.reduceLT, Nat.reduceLeDiff, reduceIte]
  refine callK_intro _ _ (hsp.any (hn2 _) (by simp [AV.noref, AV.norefs, norIs]) _) ?_
  simp only [List.length_map, bb_ne, VKTerm.width, VKTerm.storable, VKTerm.isAgg, avI, spx_ren, w1, w2, w3, e2, lt0, List.cons_append, List.nil_append, ↓OD, OA, Nat.reduceEqDiff, reduceCtorEq, Nat.reduceAdd, Nat.reduceLT, Nat.reduceLeDiff, reduceIte]
  refine callK_intro _ _ (kept_call hown hn1 hco _) ?_
  simp only [List.length_map, bb_ne, VKTerm.width, VKTerm.storable, VKTerm.isAgg, avI, spx_ren, w1, w2, w3, e2, lt0, List.cons_append, List.nil_append, ↓OD, OA, Nat.reduceEqDiff, reduceCtorEq, Nat.reduceAdd, Nat.reduceLT, Nat.reduceLeDiff, reduceIte]
  refine callK_intro _ _ (him.lendT (.cons (htr _ _) (.cons (.same _ rfl) .nil)) (memlesses_vals (fun _ => rfl) W) (norIs W)) ?_
  simp only [List.length_map, bb_ne, VKTerm.width, VKTerm.storable, VKTerm.isAgg, avI, spx_ren, w1, w2, w3, e2, lt0, List.cons_append, List.nil_append, ↓OD, OA, Nat.reduceEqDiff, reduceCtorEq, Nat.reduceAdd, Nat.reduceLT, Nat.reduceLeDiff, reduceIte]
  refine callK_intro _ _ (hei.lendv (.cons (.ob2 (n := 6) (List.length_map _) rfl (norIs W)) (.cons (.same _ hnW) .nil))) ?_
  simp only [List.length_map, bb_ne, VKTerm.width, VKTerm.storable, VKTerm.isAgg, avI, spx_ren, w1, w2, w3, e2, lt0, List.cons_append, List.nil_append, ↓OD, OA, Nat.reduceEqDiff, reduceCtorEq, Nat.reduceAdd, Nat.reduceLT, Nat.reduceLeDiff, reduceIte]
  refine drawK_intro ?_
  simp only [List.length_map, bb_ne, VKTerm.width, VKTerm.storable, VKTerm.isAgg, avI, spx_ren, w1, w2, w3, e2, lt0, List.cons_append, List.nil_append, ↓OD, OA, Nat.reduceEqDiff, reduceCtorEq, Nat.reduceAdd, Nat.reduceLT, Nat.reduceLeDiff, reduceIte]
  refine qcallK_intro _ hto hn1 ?_
  simp only [List.length_map, bb_ne, VKTerm.width, VKTerm.storable, VKTerm.isAgg, avI, spx_ren, w1, w2, w3, e2, lt0, List.cons_append, List.nil_append, ↓OD, OA, Nat.reduceEqDiff, reduceCtorEq, Nat.reduceAdd, Nat.reduceLT, Nat.reduceLeDiff, reduceIte]
  refine callK_intro _ _ (heq.lendv (.cons (htr _ _) (.cons (.same _ hr) .nil))) ?_
  simp only [List.length_map, bb_ne, VKTerm.width, VKTerm.storable, VKTerm.isAgg, avI, spx_ren, w1, w2, w3, e2, lt0, List.cons_append, List.nil_append, ↓OD, OA, Nat.reduceEqDiff, reduceCtorEq, Nat.reduceAdd, Nat.reduceLT, Nat.reduceLeDiff, reduceIte]
  refine ⟨by kernel_rfl, ?_⟩
  refine callK_intro _ _ (hmk _ _ _) ?_
  simp only [List.length_map, bb_ne, VKTerm.width, VKTerm.storable, VKTerm.isAgg, avI, spx_ren, w1, w2, w3, e2, lt0, List.cons_append, List.nil_append, ↓OD, OA, Nat.reduceEqDiff, reduceCtorEq, Nat.reduceAdd, Nat.reduceLT, Nat.reduceLeDiff, reduceIte]
  refine callK_intro _ _ (hei.lendv (.cons (.ob2 (n := 6) (List.length_map _) rfl (norIs W)) (.cons (.same _ hnW) .nil))) ?_
  simp only [List.length_map, bb_ne, VKTerm.width, VKTerm.storable, VKTerm.isAgg, avI, spx_ren, w1, w2, w3, e2, lt0, List.cons_append, List.nil_append, ↓OD, OA, Nat.reduceEqDiff, reduceCtorEq, Nat.reduceAdd, Nat.reduceLT, Nat.reduceLeDiff, reduceIte]
  refine callK_intro _ _ (markIntS_any nl W 1 hWl (by omega) 6 rfl) ?_
  simp only [List.length_map, bb_ne, VKTerm.width, VKTerm.storable, VKTerm.isAgg, avI, spx_ren, w1, w2, w3, e2, lt0, List.cons_append, List.nil_append, ↓OD, OA, Nat.reduceEqDiff, reduceCtorEq, Nat.reduceAdd, Nat.reduceLT, Nat.reduceLeDiff, reduceIte]
  refine callK_intro _ _ (hhe.lendv (.cons (.ob2 (n := 6) hml rfl (norIs _)) (.cons (.same _ rfl) .nil))) ?_
  simp only [List.length_map, bb_ne, VKTerm.width, VKTerm.storable, VKTerm.isAgg, avI, spx_ren, w1, w2, w3, e2, lt0, List.cons_append, List.nil_append, ↓OD, OA, Nat.reduceEqDiff, reduceCtorEq, Nat.reduceAdd, Nat.reduceLT, Nat.reduceLeDiff, reduceIte]
  refine callK_intro _ _ (hto.any hn1 hr _) ?_
  simp only [List.length_map, bb_ne, VKTerm.width, VKTerm.storable, VKTerm.isAgg, avI, spx_ren, w1, w2, w3, e2, lt0, List.cons_append, List.nil_append, ↓OD, OA, Nat.reduceEqDiff, reduceCtorEq, Nat.reduceAdd, Nat.reduceLT, Nat.reduceLeDiff, reduceIte]
  refine callK_intro _ _ (him.lendT (.cons (.same _ hr) (.cons (.same _ rfl) .nil)) (memlesses_vals (fun _ => rfl) W) (norIs W)) ?_
  simp only [List.length_map, bb_ne, VKTerm.width, VKTerm.storable, VKTerm.isAgg, avI, spx_ren, w1, w2, w3, e2, lt0, List.cons_append, List.nil_append, ↓OD, OA, Nat.reduceEqDiff, reduceCtorEq, Nat.reduceAdd, Nat.reduceLT, Nat.reduceLeDiff, reduceIte]
  refine callK_intro _ _ (hei.lendv (.cons (.ob2 (n := 7) (List.length_map _) rfl (norIs W)) (.cons (.same _ hnW) .nil))) ?_
  simp only [List.length_map, bb_ne, VKTerm.width, VKTerm.storable, VKTerm.isAgg, avI, spx_ren, w1, w2, w3, e2, lt0, List.cons_append, List.nil_append, ↓OD, OA, Nat.reduceEqDiff, reduceCtorEq, Nat.reduceAdd, Nat.reduceLT, Nat.reduceLeDiff, reduceIte]
  refine callK_intro _ _ (hhe.lendv (.cons (.ob2 (n := 6) hml rfl (norIs _)) (.cons (.same _ rfl) .nil))) ?_
  simp only [List.length_map, bb_ne, VKTerm.width, VKTerm.storable, VKTerm.isAgg, avI, spx_ren, w1, w2, w3, e2, lt0, List.cons_append, List.nil_append, ↓OD, OA, Nat.reduceEqDiff, reduceCtorEq, Nat.reduceAdd, Nat.reduceLT, Nat.reduceLeDiff, reduceIte]
  refine pret_tmp (.inl rfl) ?_ rfl
  simp only [List.length_map, bb_ne, VKTerm.width, VKTerm.storable, VKTerm.isAgg, avI, spx_ren, w1, w2, w3, e2, lt0, List.cons_append, List.nil_append, ↓OD, OA, Nat.reduceEqDiff, reduceCtorEq, Nat.reduceAdd, Nat.reduceLT, Nat.reduceLeDiff, reduceIte]
end Go.Proofs.Ab
