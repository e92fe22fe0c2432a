/-
  TEXTS OF TYPES.
-/
import Derived.Test.YtiakemdoealcoaaGreatDoorCForm
import Derived.Test.YtiakemdoealcoaaGreatDoorGM
import Derived.Test.YtiakemdoealcoaaGreatDoorCSmall
set_option linter.unusedVariables false
set_option linter.unusedSimpArgs false
set_option linter.defProp false
namespace Go.Ab
set_option maxRecDepth 100000
set_option maxHeartbeats 4000000
/-- as many kids as its kind asks -/
def VTypeExp.fitsH (x : VTypeExp) : Bool := (decide (x.Kind ≠ 3) || decide (x.Kids.length = 2)) && (decide (x.Kind ≠ 5) || decide (x.Kids.length = 1)) && (decide (x.Kind ≠ 2) || decide (x.Kids.length = 0))
mutual
def VTypeExp.fits : VTypeExp → Bool
  | .mk k name pos kids => (VTypeExp.mk k name pos kids).fitsH && VTypeExp.fitss kids
def VTypeExp.fitss : List VTypeExp → Bool
  | [] => true
  | x :: l => x.fits && VTypeExp.fitss l
end
end Go.Ab
namespace Go.Proofs.Ab
open Go.Ab
set_option maxRecDepth 100000
set_option maxHeartbeats 4000000
theorem b40 : (⟨#[40]⟩ : ByteArray) = byteB 40 := rfl
theorem b41 : (⟨#[41]⟩ : ByteArray) = byteB 41 := rfl
theorem impl_bracketed_c (s : ByteArray) (l a : Int) (hs : s.size ≤ 1000000000) : PCon Tryz.prog F.impl_bracketed [avB s, avI l, avI a] (avB (roundB s l a)) := by
  have h1 : (byteB 40).size = 1 := rfl
  have h2 : (byteB 41).size = 1 := rfl
  have h3 : (byteB 40 ++ s).size = 1 + s.size := by rw [app_size, h1]
  refine T.impl_bracketed_con rfl rfl ?_
  simp only [T.impl_bracketed, W00, W01, W02, W03, W04, W05, W06, W07, W08, W09, Nat.reduceEqDiff, Nat.reduceAdd, Nat.reduceLT, Nat.reduceLeDiff, Nat.reduceMul, reduceIte, reduceCtorEq, Int.reduceEq, Int.reduceLT, Int.reduceLE, Int.reduceNe]
  refine ite_dec (fun h => ?_) (fun h => ?_)
  · have : roundB s l a = byteB 40 ++ s ++ byteB 41 := by unfold roundB; rw [if_pos h, appA]
    simp (disch := omega) only [b40, b41, h1, h2, h3, this, W00, W01, W02, W03, W04, W05, W06, W07, W08, W09, Nat.reduceEqDiff, Nat.reduceAdd, Nat.reduceLT, Nat.reduceLeDiff, Nat.reduceMul, reduceIte, reduceCtorEq, Int.reduceEq, Int.reduceLT, Int.reduceLE, Int.reduceNe]
    exact ⟨by omega, by omega⟩
  · have : roundB s l a = s := by unfold roundB; rw [if_neg h]
    simp only [this, W00, W01, W02, W03, W04, W05, W06, W07, W08, W09, Nat.reduceEqDiff, Nat.reduceAdd, Nat.reduceLT, Nat.reduceLeDiff, Nat.reduceMul, reduceIte, reduceCtorEq, Int.reduceEq, Int.reduceLT, Int.reduceLE, Int.reduceNe]
theorem spec_l2Round_c (s : ByteArray) (l a : Int) (hs : s.size ≤ 1000000000) : PCon Tryz.prog F.spec_l2Round [avB s, avI l, avI a] (avB (roundB s l a)) := by
  have h1 : (byteB 40).size = 1 := rfl
  have h2 : (byteB 41).size = 1 := rfl
  have h3 : (byteB 40 ++ s).size = 1 + s.size := by rw [app_size, h1]
  refine T.spec_l2Round_con rfl rfl ?_
  simp only [T.spec_l2Round, W00, W01, W02, W03, W04, W05, W06, W07, W08, W09, Nat.reduceEqDiff, Nat.reduceAdd, Nat.reduceLT, Nat.reduceLeDiff, Nat.reduceMul, reduceIte, reduceCtorEq, Int.reduceEq, Int.reduceLT, Int.reduceLE, Int.reduceNe]
  refine ite_dec (fun h => ?_) (fun h => ?_)
  · have : roundB s l a = byteB 40 ++ s ++ byteB 41 := by unfold roundB; rw [if_pos h, appA]
    simp (disch := omega) only [b40, b41, h1, h2, h3, this, W00, W01, W02, W03, W04, W05, W06, W07, W08, W09, Nat.reduceEqDiff, Nat.reduceAdd, Nat.reduceLT, Nat.reduceLeDiff, Nat.reduceMul, reduceIte, reduceCtorEq, Int.reduceEq, Int.reduceLT, Int.reduceLE, Int.reduceNe]
    exact ⟨by omega, by omega⟩
  · have : roundB s l a = s := by unfold roundB; rw [if_neg h]
    simp only [this, W00, W01, W02, W03, W04, W05, W06, W07, W08, W09, Nat.reduceEqDiff, Nat.reduceAdd, Nat.reduceLT, Nat.reduceLeDiff, Nat.reduceMul, reduceIte, reduceCtorEq, Int.reduceEq, Int.reduceLT, Int.reduceLE, Int.reduceNe]
theorem kid_get {α : Type} (f : α → ByteArray) {l : List α} {i : Nat} (h : i < l.length) : kidB (l.map f) i = f l[i] := by
  unfold kidB; simp [List.getD, h]
def Tforms (s : Nat) (j : FuncId) : T :=
.bind 1 (
 .op (.lenL (.x 0)) (
 .loop [(.c (.sl [])), (.c (.v (.int .i64 0)))] (
  .op (.bin .lss (.x 6) (.x 4)) (
  .ite (.x 7)
   (.op (.elem s (.x 0) (.x 6)) (
   .chk (.cells (.x 8) s) (
   .chk (.cells (.x 8) s) (
   .chk (.cells (.x 8) s) (
   .op (.callv (.x 3) [(.x 8), (.x 1)] false) (
   .chk (.one (.x 9)) (
   .op (.mkl (.v (.string ⟨#[]⟩)) 1 [(0, (.x 9))]) (
   .op (.app 1 16 (.x 5) (.sl (.x 10))) (
   .op (.bin .add (.x 6) (.c (.v (.int .i64 1)))) (
   .jump [(.x 11), (.x 12)]))))))))))
   (.esc (.jump [(.x 5)])))))) (
.op (.call j [(.sl (.x 4)), (.x 2)] true) (
.ret [(.x 5)]))
theorem forms_T {P : Program} {L : AX → SS → List AV → Prop} {α : Type} {av : α → AV} {s : Nat} {g j : FuncId} {l : List α} {f : α → ByteArray} {a : Int} {sep : ByteArray} (hs : ∀ x, (av x).isAgg = true ∧ (av x).cells.length = s ∧ (av x).storable = true)
    (hl : l.length ≤ 1073741824) (hc : ∀ x ∈ l, PCon P g [av x, avI a] (avB (f x))) (hj : PCon P j [.sl ((l.map f).map avB), avB sep] (avB (joinB sep (l.map f)))) :
    wpT P L (fun r => r = avB (joinB sep (l.map f))) (Tforms s j) [.sl (l.map av), avI a, avB sep, .fn g []] [] := by
  simp only [Tforms, W00, W01, W02, W03, W04, W05, W06, W07, W08, W09, Nat.reduceEqDiff, Nat.reduceAdd, Nat.reduceLT, Nat.reduceLeDiff, Nat.reduceMul, reduceIte, reduceCtorEq, Int.reduceEq, Int.reduceLT, Int.reduceLE, Int.reduceNe]
  refine bind_cut [.sl ((l.map f).map avB)] rfl ?_ ?_
  · simp only [List.length_map, W00, W01, W02, W03, W04, W05, W06, W07, W08, W09, Nat.reduceEqDiff, Nat.reduceAdd, Nat.reduceLT, Nat.reduceLeDiff, Nat.reduceMul, reduceIte, reduceCtorEq, Int.reduceEq, Int.reduceLT, Int.reduceLE, Int.reduceNe]
    refine loop_list l (fun i (_ : Unit) => [.sl (((l.take i).map f).map avB), avI i]) (fun i rest _ => True) () rfl trivial (fun i k rest b hi hx hm hel hd hg => ?_) (fun b hd hg => ?_)
    · have hsn : (((l.take i).map f).map avB) ++ [avB (f k)] = ((l.take (i + 1)).map f).map avB := by
        rw [List.take_add_one, hx]; simp
      obtain ⟨x1, x2, x3⟩ := hs k
      simp only [hd, W00, W01, W02, W03, W04, W05, W06, W07, W08, W09, Nat.reduceEqDiff, Nat.reduceAdd, Nat.reduceLT, Nat.reduceLeDiff, Nat.reduceMul, reduceIte, reduceCtorEq, Int.reduceEq, Int.reduceLT, Int.reduceLE, Int.reduceNe]
      rw [hel av s _ _ x2]
      simp only [x1, x2, x3, W00, W01, W02, W03, W04, W05, W06, W07, W08, W09, Nat.reduceEqDiff, Nat.reduceAdd, Nat.reduceLT, Nat.reduceLeDiff, Nat.reduceMul, reduceIte, reduceCtorEq, Int.reduceEq, Int.reduceLT, Int.reduceLE, Int.reduceNe]
      refine call_v (hc k hm) ?_
      simp only [W00, W01, W02, W03, W04, W05, W06, W07, W08, W09, Nat.reduceEqDiff, Nat.reduceAdd, Nat.reduceLT, Nat.reduceLeDiff, Nat.reduceMul, reduceIte, reduceCtorEq, Int.reduceEq, Int.reduceLT, Int.reduceLE, Int.reduceNe]
      refine ⟨by simp [AV.cells], by simp; omega, by simp; omega, ?_⟩
      simp (disch := omega) only [hsn, wrapA1, W00, W01, W02, W03, W04, W05, W06, W07, W08, W09, Nat.reduceEqDiff, Nat.reduceAdd, Nat.reduceLT, Nat.reduceLeDiff, Nat.reduceMul, reduceIte, reduceCtorEq, Int.reduceEq, Int.reduceLT, Int.reduceLE, Int.reduceNe]
      exact ⟨hi, (), trivial⟩
    · simp only [List.take_length, hd, W00, W01, W02, W03, W04, W05, W06, W07, W08, W09, Nat.reduceEqDiff, Nat.reduceAdd, Nat.reduceLT, Nat.reduceLeDiff, Nat.reduceMul, reduceIte, reduceCtorEq, Int.reduceEq, Int.reduceLT, Int.reduceLE, Int.reduceNe]
  · simp only [W00, W01, W02, W03, W04, W05, W06, W07, W08, W09, Nat.reduceEqDiff, Nat.reduceAdd, Nat.reduceLT, Nat.reduceLeDiff, Nat.reduceMul, reduceIte, reduceCtorEq, Int.reduceEq, Int.reduceLT, Int.reduceLE, Int.reduceNe]
    refine call_v hj ?_
    simp only [W00, W01, W02, W03, W04, W05, W06, W07, W08, W09, Nat.reduceEqDiff, Nat.reduceAdd, Nat.reduceLT, Nat.reduceLeDiff, Nat.reduceMul, reduceIte, reduceCtorEq, Int.reduceEq, Int.reduceLT, Int.reduceLE, Int.reduceNe]
theorem sArrow_l : (⟨#[32, 45, 62, 32]⟩ : ByteArray) = sArrow := rfl
theorem sSp_l : (⟨#[32]⟩ : ByteArray) = sSp := rfl
end Go.Proofs.Ab
