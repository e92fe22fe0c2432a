/-
  Put: types for variables.
-/
import Derived.Test.YtaefihlbielllaaDoorCFree
set_option linter.unusedVariables false
set_option linter.unusedSimpArgs false
set_option linter.defProp false
namespace Go.Ab
set_option maxRecDepth 100000
set_option maxHeartbeats 4000000
mutual
def VTy.put : VTy → Int → List VTy → VTy
  | .mk kd n s kids, k, list => if kd = k ∧ n < (list.length : Int) then (list[n.toNat]?).getD (.mk kd n s kids) else .mk kd n s (VTy.puts kids k list)
def VTy.puts : List VTy → Int → List VTy → List VTy
  | [], _, _ => []
  | x :: l, k, list => x.put k list :: VTy.puts l k list
end
theorem VTy.puts_eq (l : List VTy) (k : Int) (list : List VTy) : VTy.puts l k list = l.map fun x => x.put k list := by
  induction l with
  | nil => rfl
  | cons x l ih => simp only [VTy.puts, ih, List.map_cons]
theorem VTy.put_eq (x : VTy) (k : Int) (list : List VTy) : x.put k list = if x.Kind = k ∧ x.N < (list.length : Int) then (list[x.N.toNat]?).getD x else .mk x.Kind x.N x.Name (x.Kids.map fun y => y.put k list) := by
  cases x; rw [VTy.put, VTy.puts_eq]; rfl
theorem VTy.okM_var {x : VTy} (h : x.okM = true) (hk : x.Kind = 9 ∨ x.Kind = 10 ∨ x.Kind = 11) : 0 ≤ x.N ∧ x.Kids = [] := by
  rw [x.okM_eq] at h
  simp only [Bool.and_eq_true, VTy.nodeM] at h
  have h1 := h.1.2
  have e1 : ¬ (x.Kind = 1 ∨ x.Kind = 2 ∨ x.Kind = 3 ∨ x.Kind = 4) := by omega
  have e2 : ¬ x.Kind = 5 := by omega
  have e3 : ¬ x.Kind = 6 := by omega
  have e4 : ¬ x.Kind = 7 := by omega
  have e5 : ¬ x.Kind = 8 := by omega
  rw [if_neg e1, if_neg e2, if_neg e3, if_neg e4, if_neg e5, if_pos hk] at h1
  simp only [Bool.and_eq_true, decide_eq_true_eq] at h1
  exact ⟨h1.2, List.eq_nil_of_length_eq_zero h1.1⟩
theorem VTy.okM_kid {x y : VTy} (h : x.okM = true) (hm : y ∈ x.Kids) : y.okM = true := by
  rw [x.okM_eq] at h
  simp only [Bool.and_eq_true] at h
  exact List.all_eq_true.1 h.2 y hm
end Go.Ab
namespace Go.Proofs.Ab
open Go.Ab
set_option maxRecDepth 100000
set_option maxHeartbeats 4000000
theorem norTy (l : List VTy) : AV.norefs (l.map VTy.av) = true := norefsM (f := VTy.av) VTy.noref
def putM (x : VTy) (kd : Int) (l : List VTy) : VTy := if x.okM && inB kd 9 11 then x.put kd l else x
end Go.Proofs.Ab
