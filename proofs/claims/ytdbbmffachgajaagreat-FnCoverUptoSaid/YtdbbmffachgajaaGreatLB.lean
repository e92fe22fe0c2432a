/- Part of a proof: the functions that the law reaches, walked by the abstract logic of the texts Ab. -/
import Derived.Test.YtdbbmffachgajaaGreatRows
import Derived.Test.YtdbbmffachgajaaGreatAbM3
import Derived.WalkKit
import Derived.ProofKit
open Nat(le_refl)
set_option linter.unusedVariables false
set_option linter.unusedSimpArgs false
namespace Go.Proofs.YtdbbmffachgajaaGreat
open Go.Ab Go.ChangeShapes Go.WideShapes Go.ChangeAt Go.RowKit
theorem own:ownKnob Tryz.prog.godebug=none:=by kernel_rfl
theorem laid:laidOutB Tryz.prog=true:=by kernel_rfl
mutual
theorem adg{H:Type}:∀d:DataW H,xY d<=Rows.uptoBulk d
 | .lit (.string _)=>le_refl _
 | .lit (.bool _)=>le_refl _
 | .lit (.int _ _)=>le_refl _
 | .lit (.float _ _)=>le_refl _
 | .lit .nil=>le_refl _
 | .nil=>le_refl _
 | .ptr d=>by have:=adg d;simp only[xY,Rows.uptoBulk];omega
 | .slice es sp=>by have:=tn es;have:=tn sp;simp only[xY,Rows.uptoBulk];omega
 | .agg ps=>by have:=tn ps;simp only[xY,Rows.uptoBulk];omega
 | .iface _ d=>by have:=adg d;simp only[xY,Rows.uptoBulk];omega
 | .map _=>by simp only[xY,Rows.uptoBulk];omega
 | .held _=>le_refl _
theorem tn{H:Type}:∀l:List (DataW H),pA l<=Rows.uptoBulkAll l
 | []=>le_refl _
 |d::r=>by have:=adg d;have:=tn r;simp only[pA,Rows.uptoBulkAll];omega
end
end Go.Proofs.YtdbbmffachgajaaGreat
