/-
  Marks on a slice of numbers that may be nil or not.
-/
import Derived.Test.YtlckfombibfhcaaCInts
import Derived.Test.YtlckfombibfhcaaSB
set_option linter.unusedVariables false
set_option linter.unusedSimpArgs false
set_option linter.defProp false
namespace Go.Proofs.Ab
open Go.Ab
set_option maxRecDepth 100000
theorem markIntS_0 (b : Nat) : Con Try.prog F.laws_markIntS [.row 0 0, .v (.int .i64 (b : Int))] [.live 3 1 []] (.v (.int .i64 (b : Int))) [.live 3 1 []] := by
  refine con_of_wp A.laws_markIntS_ok rfl ?_
  simp only [A.laws_markIntS, ↓OD, OA, Nat.reduceEqDiff, reduceCtorEq, Nat.reduceAdd, Nat.reduceLT, Nat.reduceLeDiff, reduceIte]
  refine loopK_intro (ι := Unit) (fun _ => True) (fun _ => envL [(0, .row 0 0), (1, .v (.int .i64 (b : Int))), (5, .v (.int .i64 0))]) (fun _ => [.live 3 1 []]) (fun _ => 0) () trivial (.of_eq rfl rfl) ?_
  rintro ⟨⟩ _
  simp only [↓OD, OA, Nat.reduceEqDiff, reduceCtorEq, Nat.reduceAdd, Nat.reduceLT, Nat.reduceLeDiff, reduceIte]
  refine condK_intro (fun h => by simp at h) (fun h => ?_)
  simp only [↓OD, OA, Nat.reduceEqDiff, reduceCtorEq, Nat.reduceAdd, Nat.reduceLT, Nat.reduceLeDiff, reduceIte]
  exact ret_tmp (.inl rfl) rfl rfl (Nat.le_refl _) (by simp [AObj.inScope, AV.scopeds]) rfl
theorem markIntS_any (nl : Bool) (l : List Int) (b : Nat) (hm : l.length ≤ 4194304) (hb : b ≤ 1048576) {O : List AObj} (m : Nat) (h : O[m]? = some (rowOb nl 3 1 (l.map avI))) :
    Con Try.prog F.laws_markIntS [.row m l.length, .v (.int .i64 b)] O (.v (.int .i64 (b + l.length : Nat))) (O.set m (rowOb nl 3 1 ((marksI b l.length).map avI))) := by
  cases nl with
  | true => exact markIntS_at l b hm hb m h
  | false =>
    cases l with
    | nil => exact (markIntS_0 b).one' rfl rfl rfl rfl m h
    | cons x l =>
      have e : ∀ y : List AV, y ≠ [] → rowOb false 3 1 y = rowOb true 3 1 y := fun y hy => by simp [rowOb, hy]
      have hne : (marksI b (x :: l).length).map avI ≠ [] := by
        intro h0
        have := congrArg List.length h0
        simp [marksI] at this
      rw [e _ (by simp)] at h
      rw [e _ hne]
      exact markIntS_at (x :: l) b hm hb m h
end Go.Proofs.Ab
