/-
  THE ABSTRACT CODE of some of this seat's functions, printed by a program of ours (wip/tool/Gen3.lean) from the translation; each with the theorem that it is that function's.
-/
import Derived.Test.YtaefihlbielllaaDoorST
set_option linter.unusedVariables false
set_option linter.unusedSimpArgs false
set_option linter.defProp false
namespace Go.Proofs.Ab
open Go.Ab
set_option maxRecDepth 100000
def A.impl_Put : AFn where
  nargs := 3
  nt := 21
  res := [.cell 6 (some 4)]
  code := .seq (.keep [1, 2, 3, 6] (.region none [
     ⟨none, (some 3), .box 26 4 (.t 0)⟩,
     ⟨none, (some 6), .alloc 26 4 (.agg [(.v (.int .i64 0)), (.v (.int .i64 0)), (.v (.string ⟨#[]⟩)), .nils])⟩]))
   (.seq (.seq (.keep [1, 2, 3, 6, 14] (.region none [
     ⟨none, (some 7), .mov (.t 1)⟩,
     ⟨none, (some 8), .call F.impl_isVarKind [(.t 7)]⟩,
     ⟨none, (some 9), .un .not (.t 8)⟩,
     ⟨none, (some 10), .mov (.t 9)⟩,
     ⟨(some (10, false)), (some 11), .load (some 4) (.t 3)⟩,
     ⟨(some (10, false)), (some 12), .call F.impl_TyOk [(.t 11)]⟩,
     ⟨(some (10, false)), (some 13), .un .not (.t 12)⟩,
     ⟨none, (some 14), .pick (.t 10) (.c (.v (.bool true))) (.t 13)⟩]))
   (.cond (.t 14)
    (.seq (.keep [6] (.region none [
      ⟨none, (some 15), .load (some 4) (.t 3)⟩,
      ⟨none, (some 16), .call F.impl_copyTy [(.t 15)]⟩,
      ⟨none, none, .store 4 (.t 6) (.t 16)⟩]))
    (.ret))
    (.skip)))
   (.seq (.keep [6] (.region none [
     ⟨none, (some 17), .load (some 4) (.t 3)⟩,
     ⟨none, (some 18), .mov (.t 1)⟩,
     ⟨none, (some 19), .mov (.t 2)⟩,
     ⟨none, (some 20), .call F.impl_put [(.t 17), (.t 18), (.t 19)]⟩,
     ⟨none, none, .store 4 (.t 6) (.t 20)⟩]))
   (.ret)))
theorem A.impl_Put_ok : cFn Tryd.prog F.impl_Put A.impl_Put :=
  ⟨_, _, Tryd.func8, rfl, by kernel_rfl, rfl, by decide, by kernel_rfl, by kernel_rfl⟩
def A.impl_copyTy : AFn where
  nargs := 1
  nt := 24
  res := [.cell 2 (some 4)]
  code := .seq (.keep [1, 2] (.region none [
     ⟨none, (some 1), .box 26 4 (.t 0)⟩,
     ⟨none, (some 2), .alloc 26 4 (.agg [(.v (.int .i64 0)), (.v (.int .i64 0)), (.v (.string ⟨#[]⟩)), .nils])⟩]))
   (.seq (.keep [1, 2, 3] (.region none [
     ⟨none, (some 6), .faddr 3 (.t 1)⟩,
     ⟨none, (some 7), .load none (.t 6)⟩,
     ⟨none, (some 3), .mov (.t 7)⟩]))
   (.seq (.keep [1, 2, 3] (.region none [
     ⟨none, (some 8), .faddr 3 (.t 1)⟩,
     ⟨none, none, .store 1 (.t 8) (.c .nils)⟩]))
   (.seq (.seq (.keep [1, 2, 9, 10, 11] (.region none [
     ⟨none, (some 9), .mov (.t 3)⟩,
     ⟨none, (some 10), .lenL (.t 9)⟩,
     ⟨none, (some 11), .mov (.c (.v (.int .i64 0)))⟩]))
   (.block 0 (.loop (.seq (.keep [1, 2, 9, 10, 11, 12] (.region none [
       ⟨none, (some 12), .bin .lss (.t 11) (.t 10)⟩]))
     (.seq (.cond (.t 12)
      (.skip)
      (.exit 0))
     (.seq (.block 1 (.seq (.keep [1, 2, 5, 9, 10, 11] (.region none [
        ⟨none, (some 13), .iaddr 4 (.t 9) (.t 11)⟩,
        ⟨none, (some 14), .load (some 4) (.t 13)⟩,
        ⟨none, (some 5), .alloc 26 4 (.agg [(.v (.int .i64 0)), (.v (.int .i64 0)), (.v (.string ⟨#[]⟩)), .nils])⟩,
        ⟨none, none, .store 4 (.t 5) (.t 14)⟩]))
      (.keep [1, 2, 9, 10, 11] (.region (some [[], [0], [], [2], [3], [1, 4, 3], [0, 1, 2, 3, 4, 5], [6, 5, 5, 0, 1, 2, 3, 4, 5]]) [
        ⟨none, (some 15), .faddr 3 (.t 1)⟩,
        ⟨none, (some 16), .load none (.t 15)⟩,
        ⟨none, (some 17), .load (some 4) (.t 5)⟩,
        ⟨none, (some 18), .fcall true 0 0 F.impl_copyTy [(.t 17)]⟩,
        ⟨none, (some 19), .buildSlice 26 4 1 (.agg [(.v (.int .i64 0)), (.v (.int .i64 0)), (.v (.string ⟨#[]⟩)), .nils]) [(0, (.t 18))]⟩,
        ⟨none, (some 20), .app 26 4 56 (.t 16) (.t 19)⟩,
        ⟨none, (some 21), .faddr 3 (.t 1)⟩,
        ⟨none, none, .store 1 (.t 21) (.t 20)⟩]))))
     (.keep [1, 2, 9, 10, 11] (.region none [
       ⟨none, (some 22), .bin .add (.t 11) (.c (.v (.int .i64 1)))⟩,
       ⟨none, (some 11), .mov (.t 22)⟩]))))))))
   (.seq (.keep [2] (.region none [
     ⟨none, (some 23), .load (some 4) (.t 1)⟩,
     ⟨none, none, .store 4 (.t 2) (.t 23)⟩]))
   (.ret)))))
theorem A.impl_copyTy_ok : cFn Tryd.prog F.impl_copyTy A.impl_copyTy :=
  ⟨_, _, Tryd.func21, rfl, by kernel_rfl, rfl, by decide, by kernel_rfl, by kernel_rfl⟩
def A.impl_put : AFn where
  nargs := 3
  nt := 47
  res := [.cell 6 (some 4)]
  code := .seq (.keep [1, 2, 3, 6] (.region none [
     ⟨none, (some 3), .box 26 4 (.t 0)⟩,
     ⟨none, (some 6), .alloc 26 4 (.agg [(.v (.int .i64 0)), (.v (.int .i64 0)), (.v (.string ⟨#[]⟩)), .nils])⟩]))
   (.seq (.seq (.keep [1, 2, 3, 6, 20] (.region none [
     ⟨none, (some 10), .faddr 0 (.t 3)⟩,
     ⟨none, (some 11), .load none (.t 10)⟩,
     ⟨none, (some 12), .mov (.t 1)⟩,
     ⟨none, (some 13), .bin .eql (.t 11) (.t 12)⟩,
     ⟨none, (some 14), .mov (.t 13)⟩,
     ⟨(some (14, true)), (some 15), .faddr 1 (.t 3)⟩,
     ⟨(some (14, true)), (some 16), .load none (.t 15)⟩,
     ⟨(some (14, true)), (some 17), .mov (.t 2)⟩,
     ⟨(some (14, true)), (some 18), .lenL (.t 17)⟩,
     ⟨(some (14, true)), (some 19), .bin .lss (.t 16) (.t 18)⟩,
     ⟨none, (some 20), .pick (.t 14) (.t 19) (.c (.v (.bool false)))⟩]))
   (.cond (.t 20)
    (.seq (.keep [6] (.region none [
      ⟨none, (some 21), .mov (.t 2)⟩,
      ⟨none, (some 22), .faddr 1 (.t 3)⟩,
      ⟨none, (some 23), .load none (.t 22)⟩,
      ⟨none, (some 24), .iaddr 4 (.t 21) (.t 23)⟩,
      ⟨none, (some 25), .load (some 4) (.t 24)⟩,
      ⟨none, (some 26), .call F.impl_copyTy [(.t 25)]⟩,
      ⟨none, none, .store 4 (.t 6) (.t 26)⟩]))
    (.ret))
    (.skip)))
   (.seq (.keep [1, 2, 3, 6, 7] (.region none [
     ⟨none, (some 27), .load (some 4) (.t 3)⟩,
     ⟨none, (some 7), .alloc 26 4 (.agg [(.v (.int .i64 0)), (.v (.int .i64 0)), (.v (.string ⟨#[]⟩)), .nils])⟩,
     ⟨none, none, .store 4 (.t 7) (.t 27)⟩]))
   (.seq (.keep [1, 2, 3, 6, 7] (.region none [
     ⟨none, (some 28), .faddr 3 (.t 7)⟩,
     ⟨none, none, .store 1 (.t 28) (.c .nils)⟩]))
   (.seq (.seq (.keep [1, 2, 6, 7, 30, 31, 32] (.region none [
     ⟨none, (some 29), .faddr 3 (.t 3)⟩,
     ⟨none, (some 30), .load none (.t 29)⟩,
     ⟨none, (some 31), .lenL (.t 30)⟩,
     ⟨none, (some 32), .mov (.c (.v (.int .i64 0)))⟩]))
   (.block 0 (.loop (.seq (.keep [1, 2, 6, 7, 30, 31, 32, 33] (.region none [
       ⟨none, (some 33), .bin .lss (.t 32) (.t 31)⟩]))
     (.seq (.cond (.t 33)
      (.skip)
      (.exit 0))
     (.seq (.block 1 (.seq (.keep [1, 2, 6, 7, 9, 30, 31, 32] (.region none [
        ⟨none, (some 34), .iaddr 4 (.t 30) (.t 32)⟩,
        ⟨none, (some 35), .load (some 4) (.t 34)⟩,
        ⟨none, (some 9), .alloc 26 4 (.agg [(.v (.int .i64 0)), (.v (.int .i64 0)), (.v (.string ⟨#[]⟩)), .nils])⟩,
        ⟨none, none, .store 4 (.t 9) (.t 35)⟩]))
      (.keep [1, 2, 6, 7, 30, 31, 32] (.region (some [[], [0], [], [], [], [2, 3, 4], [5], [1, 6, 5], [0, 1, 2, 3, 4, 5, 6, 7], [8, 7, 7, 0, 1, 2, 3, 4, 5, 6, 7]]) [
        ⟨none, (some 36), .faddr 3 (.t 7)⟩,
        ⟨none, (some 37), .load none (.t 36)⟩,
        ⟨none, (some 38), .load (some 4) (.t 9)⟩,
        ⟨none, (some 39), .mov (.t 1)⟩,
        ⟨none, (some 40), .mov (.t 2)⟩,
        ⟨none, (some 41), .fcall true 0 0 F.impl_put [(.t 38), (.t 39), (.t 40)]⟩,
        ⟨none, (some 42), .buildSlice 26 4 1 (.agg [(.v (.int .i64 0)), (.v (.int .i64 0)), (.v (.string ⟨#[]⟩)), .nils]) [(0, (.t 41))]⟩,
        ⟨none, (some 43), .app 26 4 56 (.t 37) (.t 42)⟩,
        ⟨none, (some 44), .faddr 3 (.t 7)⟩,
        ⟨none, none, .store 1 (.t 44) (.t 43)⟩]))))
     (.keep [1, 2, 6, 7, 30, 31, 32] (.region none [
       ⟨none, (some 45), .bin .add (.t 32) (.c (.v (.int .i64 1)))⟩,
       ⟨none, (some 32), .mov (.t 45)⟩]))))))))
   (.seq (.keep [6] (.region none [
     ⟨none, (some 46), .load (some 4) (.t 7)⟩,
     ⟨none, none, .store 4 (.t 6) (.t 46)⟩]))
   (.ret))))))
theorem A.impl_put_ok : cFn Tryd.prog F.impl_put A.impl_put :=
  ⟨_, _, Tryd.func22, rfl, by kernel_rfl, rfl, by decide, by kernel_rfl, by kernel_rfl⟩
end Go.Proofs.Ab
