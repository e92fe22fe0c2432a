/-
  SLICES OF NUMBERS, marked.
-/
import Derived.Test.YtlckfombibfhcaaST
import Derived.Test.YtlckfombibfhcaaGM
import Derived.Test.YtlckfombibfhcaaCLex
set_option linter.unusedVariables false
set_option linter.unusedSimpArgs false
set_option linter.defProp false
namespace Go.Ab
set_option maxRecDepth 100000
set_option maxHeartbeats 4000000
def marksI (b n : Nat) : List Int := (List.range n).map fun j => ((b + j : Nat) : Int)
theorem marksI_len (b n : Nat) : (marksI b n).length = n := by simp [marksI]
def markToI (l : List Int) (b i : Nat) : List Int := marksI b i ++ l.drop i
theorem markToI_len (l : List Int) (b i : Nat) (h : i ≤ l.length) : (markToI l b i).length = l.length := by simp [markToI, marksI]; omega
theorem markToI_set (l : List Int) (b i : Nat) (h : i < l.length) : (markToI l b i).set i ((b + i : Nat) : Int) = markToI l b (i + 1) := by
  unfold markToI
  rw [List.drop_eq_getElem_cons h, mid_set (marksI_len b i)]
  simp [marksI, List.range_succ]
theorem markToI_end (l : List Int) (b i : Nat) (h : l.length ≤ i) : markToI l b i = marksI b i := by simp [markToI, List.drop_eq_nil_of_le h]
theorem avI_set (l : List Int) (i : Nat) (n : Int) : (l.map avI).set i (avI n) = (l.set i n).map avI := by rw [List.map_set]
theorem avI_cells (l : List Int) (i : Nat) (h : i < l.length) : ((l.map avI).getD i .top).cells.length = 1 := by
  have : (l.map avI).getD i .top = avI l[i] := by simp [List.getD, h]
  rw [this]; rfl
theorem row_ob {r : List AV} {e s : Nat} {d : D} : SO.ev r (.row true e s d) = rowOb true e s (listOf (d.ev r)) := by
  simp [SO.ev, rowOb]
theorem eqI_T2 {P : Program} {L : AX → SS → List AV → Prop} {α : Type} {g : α → Value} {l : List α} (hg : ∀ (x : α) (K : AV → Prop), goT K (.v (.bool false)) → binT .neq (.v (g x)) (.v (g x)) K) (hl : l.length ≤ 4194304) :
    wpT P L (fun a => a = .v (.bool true)) TeqI [.sl (l.map fun x => .v (g x)), .sl (l.map fun x => .v (g x))] [] := by
  simp only [TeqI, WA, Nat.reduceEqDiff, Nat.reduceAdd, Nat.reduceLT, Nat.reduceLeDiff, Nat.reduceMul, reduceIte, reduceCtorEq, Int.reduceEq, Int.reduceLT, Int.reduceLE, Int.reduceNe]
  refine bind_cut [] rfl ?_ (by simp only [WA, Nat.reduceEqDiff, Nat.reduceAdd, Nat.reduceLT, Nat.reduceLeDiff, Nat.reduceMul, reduceIte, reduceCtorEq, Int.reduceEq, Int.reduceLT, Int.reduceLE, Int.reduceNe])
  simp only [WA, Nat.reduceEqDiff, Nat.reduceAdd, Nat.reduceLT, Nat.reduceLeDiff, Nat.reduceMul, reduceIte, reduceCtorEq, Int.reduceEq, Int.reduceLT, Int.reduceLE, Int.reduceNe]
  refine loop_up l.length (fun i => [.v (.int .i64 i)]) rfl fun i hi => ?_
  simp only [WA, Nat.reduceEqDiff, Nat.reduceAdd, Nat.reduceLT, Nat.reduceLeDiff, Nat.reduceMul, reduceIte, reduceCtorEq, Int.reduceEq, Int.reduceLT, Int.reduceLE, Int.reduceNe]
  refine ite_dec (fun h => ?_) (fun h => ?_)
  · have hlt : i < l.length := by omega
    simp only [WA, Nat.reduceEqDiff, Nat.reduceAdd, Nat.reduceLT, Nat.reduceLeDiff, Nat.reduceMul, reduceIte, reduceCtorEq, Int.reduceEq, Int.reduceLT, Int.reduceLE, Int.reduceNe]
    refine elemM (fun x => .v (g x)) hlt rfl ?_
    simp only [WA, Nat.reduceEqDiff, Nat.reduceAdd, Nat.reduceLT, Nat.reduceLeDiff, Nat.reduceMul, reduceIte, reduceCtorEq, Int.reduceEq, Int.reduceLT, Int.reduceLE, Int.reduceNe]
    refine elemM (fun x => .v (g x)) hlt rfl ?_
    simp only [WA, Nat.reduceEqDiff, Nat.reduceAdd, Nat.reduceLT, Nat.reduceLeDiff, Nat.reduceMul, reduceIte, reduceCtorEq, Int.reduceEq, Int.reduceLT, Int.reduceLE, Int.reduceNe]
    refine hg _ _ ?_
    simp (disch := omega) only [wrapA1, WA, Nat.reduceEqDiff, Nat.reduceAdd, Nat.reduceLT, Nat.reduceLeDiff, Nat.reduceMul, reduceIte, reduceCtorEq, Int.reduceEq, Int.reduceLT, Int.reduceLE, Int.reduceNe]
    exact hlt
  · simp only [WA, Nat.reduceEqDiff, Nat.reduceAdd, Nat.reduceLT, Nat.reduceLeDiff, Nat.reduceMul, reduceIte, reduceCtorEq, Int.reduceEq, Int.reduceLT, Int.reduceLE, Int.reduceNe]
end Go.Ab
namespace Go.Proofs.Ab
open Go.Ab
set_option maxRecDepth 100000
set_option maxHeartbeats 4000000
theorem norIs (l : List Int) : AV.norefs (l.map avI) = true := norefsM (f := avI) fun _ => rfl
theorem markIntS_c (l : List Int) (b : Nat) (hm : l.length ≤ 4194304) (hb : b ≤ 1048576) : SCon Try.prog F.laws_markIntS G.laws_markIntS [.sl (l.map avI), .v (.int .i64 b)] [.sl ((marksI b l.length).map avI), .v (.int .i64 (b + l.length : Nat))] := by
  refine T.laws_markIntS_scon rfl rfl (by simp [AV.norefs, AV.noref, norIs]) ?_
  simp only [T.laws_markIntS, WA, Nat.reduceEqDiff, Nat.reduceAdd, Nat.reduceLT, Nat.reduceLeDiff, Nat.reduceMul, reduceIte, reduceCtorEq, Int.reduceEq, Int.reduceLT, Int.reduceLE, Int.reduceNe]
  refine bind_push ?_
  simp only [WA, Nat.reduceEqDiff, Nat.reduceAdd, Nat.reduceLT, Nat.reduceLeDiff, Nat.reduceMul, reduceIte, reduceCtorEq, Int.reduceEq, Int.reduceLT, Int.reduceLE, Int.reduceNe]
  refine loop_up l.length (fun i => [.sl ((markToI l b i).map avI), .v (.int .i64 (b + i : Nat)), .v (.int .i64 i)]) (by simp [markToI, marksI]) fun i hi => ?_
  have hl := markToI_len l b i hi
  simp only [List.length_map, hl, WA, Nat.reduceEqDiff, Nat.reduceAdd, Nat.reduceLT, Nat.reduceLeDiff, Nat.reduceMul, reduceIte, reduceCtorEq, Int.reduceEq, Int.reduceLT, Int.reduceLE, Int.reduceNe]
  refine ite_dec (fun h => ?_) (fun h => ?_)
  · have hlt : i < l.length := by omega
    simp (disch := omega) only [h_idxE, h_one, cells_v, isCell_v, List.length_map, hl, wrapA1, WA, Nat.reduceEqDiff, Nat.reduceAdd, Nat.reduceLT, Nat.reduceLeDiff, Nat.reduceMul, reduceIte, reduceCtorEq, Int.reduceEq, Int.reduceLT, Int.reduceLE, Int.reduceNe]
    have hc := avI_cells (markToI l b i) i (by omega)
    refine ⟨by omega, hlt, by rw [hc]; exact Nat.le_refl _, hlt, ?_⟩
    rw [upd_whole (by rw [hc]; rfl)]
    rw [show (AV.v (.int .i64 ((b + i : Nat) : Int))) = avI ((b + i : Nat) : Int) from rfl, avI_set, markToI_set l b i hlt]
    rfl
  · have he : i = l.length := by omega
    subst he
    rw [markToI_end _ _ _ (Nat.le_refl _)]
    simp only [WA, Nat.reduceEqDiff, Nat.reduceAdd, Nat.reduceLT, Nat.reduceLeDiff, Nat.reduceMul, reduceIte, reduceCtorEq, Int.reduceEq, Int.reduceLT, Int.reduceLE, Int.reduceNe]
theorem heldIntS_c (b n : Nat) (hm : n ≤ 4194304) (hb : b ≤ 1048576) : PCon Try.prog F.laws_heldIntS [.sl ((marksI b n).map avI), .v (.int .i64 b)] (.v (.int .i64 (b + n : Nat))) := by
  refine T.laws_heldIntS_con rfl (by simp [AV.norefs, AV.noref, norIs]) ?_
  simp only [T.laws_heldIntS, WA, Nat.reduceEqDiff, Nat.reduceAdd, Nat.reduceLT, Nat.reduceLeDiff, Nat.reduceMul, reduceIte, reduceCtorEq, Int.reduceEq, Int.reduceLT, Int.reduceLE, Int.reduceNe]
  refine bind_push ?_
  simp only [WA, Nat.reduceEqDiff, Nat.reduceAdd, Nat.reduceLT, Nat.reduceLeDiff, Nat.reduceMul, reduceIte, reduceCtorEq, Int.reduceEq, Int.reduceLT, Int.reduceLE, Int.reduceNe]
  have hl := marksI_len b n
  refine loop_up n (fun i => [.v (.int .i64 (b + i : Nat)), .v (.int .i64 i)]) (by simp) fun i hi => ?_
  simp only [List.length_map, hl, WA, Nat.reduceEqDiff, Nat.reduceAdd, Nat.reduceLT, Nat.reduceLeDiff, Nat.reduceMul, reduceIte, reduceCtorEq, Int.reduceEq, Int.reduceLT, Int.reduceLE, Int.reduceNe]
  refine ite_dec (fun h => ?_) (fun h => ?_)
  · have hlt : i < n := by omega
    have hlt2 : i < (marksI b n).length := by omega
    simp only [WA, Nat.reduceEqDiff, Nat.reduceAdd, Nat.reduceLT, Nat.reduceLeDiff, Nat.reduceMul, reduceIte, reduceCtorEq, Int.reduceEq, Int.reduceLT, Int.reduceLE, Int.reduceNe]
    refine elemM avI hlt2 rfl ?_
    have hv : (marksI b n)[i] = ((b + i : Nat) : Int) := by simp [marksI]
    simp (disch := omega) only [hv, wrapA1, WA, Nat.reduceEqDiff, Nat.reduceAdd, Nat.reduceLT, Nat.reduceLeDiff, Nat.reduceMul, reduceIte, reduceCtorEq, Int.reduceEq, Int.reduceLT, Int.reduceLE, Int.reduceNe]
    exact ⟨hlt, rfl⟩
  · have he : i = n := by omega
    subst he
    simp only [WA, Nat.reduceEqDiff, Nat.reduceAdd, Nat.reduceLT, Nat.reduceLeDiff, Nat.reduceMul, reduceIte, reduceCtorEq, Int.reduceEq, Int.reduceLT, Int.reduceLE, Int.reduceNe]
theorem eqIntS_big (l : List Int) (h : l.length ≤ 4194304) : PCon Try.prog F.laws_eqIntS [.sl (l.map avI), .sl (l.map avI)] (.v (.bool true)) :=
  T.laws_eqIntS_con rfl (by simp [AV.norefs, AV.noref, norIs]) (eqI_T2 (g := fun y => .int .i64 y) (fun y K h => neqI _ y K h) h)
/-- marks on a slice of one's own -/
theorem markIntS_at (l : List Int) (b : Nat) (hm : l.length ≤ 4194304) (hb : b ≤ 1048576) {O : List AObj} (m : Nat) (h : O[m]? = some (rowOb true 3 1 (l.map avI))) :
    Con Try.prog F.laws_markIntS [.row m l.length, .v (.int .i64 b)] O (.v (.int .i64 (b + l.length : Nat))) (O.set m (rowOb true 3 1 ((marksI b l.length).map avI))) := by
  have h0 := markIntS_c l b hm hb
  unfold SCon at h0
  simp only [G.laws_markIntS, SV.evs, SV.ev, List.map_cons, List.map_nil, row_ob, D.ev, listOf, List.getD_cons_zero, List.getD_cons_succ, List.length_map] at h0
  exact h0.one' rfl (rowOb_norefs (norIs _)) (rowOb_norefs (norIs _)) rfl m h
end Go.Proofs.Ab
