/- Part of a proof: the functions that the law reaches, walked by the abstract logic of the texts Ab. -/
import Derived.Test.YtfebhekplhjigaaRows
import Derived.Test.YtfebhekplhjigaaAbM3
import Derived.WalkKit
import Derived.ProofKit
open Nat(le_refl)
set_option linter.unusedVariables false
set_option linter.unusedSimpArgs false
namespace Go.Proofs.Ytfebhekplhjigaa
open Go.Ab Go.ChangeShapes Go.WideShapes Go.ChangeAt Go.RowKit
theorem own:ownKnob Try.prog.godebug=none:=by kernel_rfl
theorem laid:laidOutB Try.prog=true:=by kernel_rfl
mutual
theorem wu{H:Type}:∀d:DataW H,rZ d<=Rows.uptoBulk d
 | .lit (.string _)=>le_refl _
 | .lit (.bool _)=>le_refl _
 | .lit (.int _ _)=>le_refl _
 | .lit (.float _ _)=>le_refl _
 | .lit .nil=>le_refl _
 | .nil=>le_refl _
 | .ptr d=>by have:=wu d;simp only[rZ,Rows.uptoBulk];omega
 | .slice es sp=>by have:=oL es;have:=oL sp;simp only[rZ,Rows.uptoBulk];omega
 | .agg ps=>by have:=oL ps;simp only[rZ,Rows.uptoBulk];omega
 | .iface _ d=>by have:=wu d;simp only[rZ,Rows.uptoBulk];omega
 | .map _=>by simp only[rZ,Rows.uptoBulk];omega
 | .held _=>le_refl _
theorem oL{H:Type}:∀l:List (DataW H),lD l<=Rows.uptoBulkAll l
 | []=>le_refl _
 |d::r=>by have:=wu d;have:=oL r;simp only[lD,Rows.uptoBulkAll];omega
end
end Go.Proofs.Ytfebhekplhjigaa
