/- Part of a proof: the functions that the law reaches, walked by the abstract logic of the texts Ab. -/
import Derived.Test.YtkinchcjijhmgaaGreatDoorRows
import Derived.Test.YtkinchcjijhmgaaGreatDoorAbM3
import Derived.WalkKit
import Derived.ProofKit
open Nat(le_refl)
set_option linter.unusedVariables false
set_option linter.unusedSimpArgs false
namespace Go.Proofs.YtkinchcjijhmgaaGreatDoor
open Go.Ab Go.ChangeShapes Go.WideShapes Go.ChangeAt Go.RowKit
theorem own:ownKnob Tryz.prog.godebug=none:=by kernel_rfl
theorem laid:laidOutB Tryz.prog=true:=by kernel_rfl
mutual
theorem vY{H:Type}:∀d:DataW H,vL d<=Rows.uptoBulk d
 | .lit (.string _)=>le_refl _
 | .lit (.bool _)=>le_refl _
 | .lit (.int _ _)=>le_refl _
 | .lit (.float _ _)=>le_refl _
 | .lit .nil=>le_refl _
 | .nil=>le_refl _
 | .ptr d=>by have:=vY d;simp only[vL,Rows.uptoBulk];omega
 | .slice es sp=>by have:=nq es;have:=nq sp;simp only[vL,Rows.uptoBulk];omega
 | .agg ps=>by have:=nq ps;simp only[vL,Rows.uptoBulk];omega
 | .iface _ d=>by have:=vY d;simp only[vL,Rows.uptoBulk];omega
 | .map _=>by simp only[vL,Rows.uptoBulk];omega
 | .held _=>le_refl _
theorem nq{H:Type}:∀l:List (DataW H),pn l<=Rows.uptoBulkAll l
 | []=>le_refl _
 |d::r=>by have:=vY d;have:=nq r;simp only[pn,Rows.uptoBulkAll];omega
end
end Go.Proofs.YtkinchcjijhmgaaGreatDoor
