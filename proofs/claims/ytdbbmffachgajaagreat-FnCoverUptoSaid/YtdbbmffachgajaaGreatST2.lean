/- Part of a proof: the functions that the law reaches, walked by the abstract logic of the texts Ab. -/
import Derived.Test.YtdbbmffachgajaaGreatST
set_option maxRecDepth 100000
set_option linter.unusedVariables false
set_option linter.unusedSimpArgs false
set_option linter.defProp false
namespace Go.Proofs.Ab
open Go.Ab
def FR2:List (Nat×Bool×Nat×Nat):=[(37,true,28,1),(33,true,28,1),(16,true,28,1)]
abbrev CF2:Cfg:=⟨FL,FR2,SG,false⟩
def T2.kv:T:= .bind 1 aPw (.ret [adE])
theorem T2.ahm:uU Tryz.prog CF2 true 28 1 Tryz.f16=some (1,T2.kv):=by kernel_rfl
def T2.aaF:= @sx _ _ _ _ _ _ _ _ _ Tryz.func16 T2.ahm
def T2.nD:T:= .bind 1 aLo (.ret [adE])
theorem T2.akC:uU Tryz.prog CF2 true 28 1 Tryz.f33=some (1,T2.nD):=by kernel_rfl
def T2.acy:= @sx _ _ _ _ _ _ _ _ _ Tryz.func33 T2.akC
def T2.jQ:T:= .aq avK aPu
theorem T2.acG:uU Tryz.prog CF2 true 28 1 Tryz.f37=some (2,T2.jQ):=by kernel_rfl
def T2.xH:= @sx _ _ _ _ _ _ _ _ _ Tryz.func37 T2.acG
end Go.Proofs.Ab
