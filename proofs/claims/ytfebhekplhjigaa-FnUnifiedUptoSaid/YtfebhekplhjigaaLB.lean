/- Part of a proof: the functions that the law reaches, walked by the abstract logic of the texts Ab. -/
import Derived.Test.YtfebhekplhjigaaRows
import Derived.Test.YtfebhekplhjigaaAbM3
import Derived.WalkKit
import Derived.ProofKit
open Nat(le_refl)
set_option linter.unusedSimpArgs false
set_option linter.unusedVariables false
namespace Go.Proofs.Ytfebhekplhjigaa
open Go.Ab Go.ChangeShapes Go.WideShapes Go.ChangeAt Go.RowKit
theorem own:ownKnob Try.prog.godebug=none:=by kernel_rfl
theorem laid:laidOutB Try.prog=true:=by kernel_rfl
mutual
theorem xG{H:Type}:∀d:DataW H,sW d<=Rows.uptoBulk d
 | .lit (.string _)=>le_refl _
 | .lit (.bool _)=>le_refl _
 | .lit (.int _ _)=>le_refl _
 | .lit (.float _ _)=>le_refl _
 | .lit .nil=>le_refl _
 | .nil=>le_refl _
 | .ptr d=>by have:=xG d;simp only[sW,Rows.uptoBulk];omega
 | .slice es sp=>by have:=pn es;have:=pn sp;simp only[sW,Rows.uptoBulk];omega
 | .agg ps=>by have:=pn ps;simp only[sW,Rows.uptoBulk];omega
 | .iface _ d=>by have:=xG d;simp only[sW,Rows.uptoBulk];omega
 | .map _=>by simp only[sW,Rows.uptoBulk];omega
 | .held _=>le_refl _
theorem pn{H:Type}:∀l:List (DataW H),mi l<=Rows.uptoBulkAll l
 | []=>le_refl _
 |d::r=>by have:=xG d;have:=pn r;simp only[mi,Rows.uptoBulkAll];omega
end
end Go.Proofs.Ytfebhekplhjigaa
