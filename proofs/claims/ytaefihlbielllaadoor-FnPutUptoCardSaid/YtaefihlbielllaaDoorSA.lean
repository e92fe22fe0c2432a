/-
  THE ABSTRACT CODE of some of this seat's functions, printed by a program of ours (wip/tool/Gen3.lean) from the translation; each with the theorem that it is that function's.
-/
import Derived.Test.YtaefihlbielllaaDoorST
set_option linter.unusedVariables false
set_option linter.unusedSimpArgs false
set_option linter.defProp false
namespace Go.Proofs.Ab
open Go.Ab
set_option maxRecDepth 100000
def A.laws_FnPut : AFn where
  nargs := 1
  nt := 85
  res := [.tmp 2]
  code := .seq (.keep [0] (.region none [
     ⟨none, (some 2), .mov (.c (.v (.bool false)))⟩]))
   (.seq (.seq (.keep [0, 13] (.region none [
     ⟨none, (some 12), .mov (.t 0)⟩,
     ⟨none, (some 13), .call F.laws_big [(.t 12)]⟩]))
   (.cond (.t 13)
    (.seq (.keep [2] (.region none [
      ⟨none, (some 2), .mov (.c (.v (.bool true)))⟩]))
    (.ret))
    (.skip)))
   (.seq (.keep [3, 5] (.region none [
     ⟨none, (some 15), .mov (.t 0)⟩,
     ⟨none, (some 16), .call F.spec_DrawPut [(.t 15)]⟩,
     ⟨none, (some 14), .mov (.t 16)⟩,
     ⟨none, (some 17), .ext (.t 14) 0⟩,
     ⟨none, (some 18), .ext (.t 14) 1⟩,
     ⟨none, (some 19), .ext (.t 14) 2⟩,
     ⟨none, (some 3), .alloc 26 4 (.agg [(.v (.int .i64 0)), (.v (.int .i64 0)), (.v (.string ⟨#[]⟩)), .nils])⟩,
     ⟨none, none, .store 4 (.t 3) (.t 17)⟩,
     ⟨none, (some 4), .mov (.t 18)⟩,
     ⟨none, (some 5), .mov (.t 19)⟩]))
   (.seq (.seq (.keep [3, 5, 22] (.region none [
     ⟨none, (some 20), .load (some 4) (.t 3)⟩,
     ⟨none, (some 21), .call F.spec_TyOk [(.t 20)]⟩,
     ⟨none, (some 22), .un .not (.t 21)⟩]))
   (.cond (.t 22)
    (.seq (.keep [2] (.region (some [[], [], [0, 1], [], [2, 3, 2], [4, 4], [5], [6, 5, 5], [7, 5], [5, 8], [9, 7, 0, 1, 2, 3, 4, 5, 6, 7, 8, 9]]) [
      ⟨none, (some 23), .load (some 4) (.t 3)⟩,
      ⟨none, (some 24), .mov (.t 5)⟩,
      ⟨none, (some 25), .lcall [1] F.impl_Put [(.t 23), (.c (.v (.int .i64 11))), (.t 24)]⟩,
      ⟨none, (some 26), .load (some 4) (.t 3)⟩,
      ⟨none, (some 27), .kcall [1, 2] F.impl_SameTy [(.t 25), (.t 26)]⟩,
      ⟨none, (some 28), .mov (.t 27)⟩,
      ⟨(some (28, true)), (some 29), .load (some 4) (.t 3)⟩,
      ⟨(some (28, true)), (some 30), .qcall F.impl_TyText [(.t 29)]⟩,
      ⟨(some (28, true)), (some 31), .bin .eql (.t 30) (.c (.v (.string ⟨#[]⟩)))⟩,
      ⟨none, (some 32), .pick (.t 28) (.t 31) (.c (.v (.bool false)))⟩,
      ⟨none, (some 2), .mov (.t 32)⟩]))
    (.ret))
    (.skip)))
   (.seq (.keep [3, 6] (.region none [
     ⟨none, (some 33), .buildSlice 26 4 0 (.agg [(.v (.int .i64 0)), (.v (.int .i64 0)), (.v (.string ⟨#[]⟩)), .nils]) []⟩,
     ⟨none, (some 6), .mov (.t 33)⟩]))
   (.seq (.seq (.keep [3, 6, 7] (.region none [
     ⟨none, (some 7), .mov (.c (.v (.int .i64 0)))⟩]))
   (.block 0 (.loop (.seq (.seq (.keep [3, 6, 7, 35] (.region none [
       ⟨none, (some 34), .mov (.t 7)⟩,
       ⟨none, (some 35), .bin .lss (.t 34) (.c (.v (.int .i64 8)))⟩]))
     (.cond (.t 35)
      (.skip)
      (.exit 0)))
     (.seq (.block 1 (.keep [3, 6, 7] (.region none [
        ⟨none, (some 38), .mov (.t 6)⟩,
        ⟨none, (some 39), .mov (.t 7)⟩,
        ⟨none, (some 40), .build [(.v (.int .i64 0)), (.v (.int .i64 0)), (.v (.string ⟨#[]⟩)), .nils] [(0, 1, (.c (.v (.int .i64 11)))), (1, 1, (.t 39))]⟩,
        ⟨none, (some 41), .buildSlice 26 4 1 (.agg [(.v (.int .i64 0)), (.v (.int .i64 0)), (.v (.string ⟨#[]⟩)), .nils]) [(0, (.t 40))]⟩,
        ⟨none, (some 42), .app 26 4 56 (.t 38) (.t 41)⟩,
        ⟨none, (some 6), .mov (.t 42)⟩])))
     (.keep [3, 6, 7] (.region none [
       ⟨none, (some 36), .mov (.t 7)⟩,
       ⟨none, (some 37), .bin .add (.t 36) (.c (.v (.int .i64 1)))⟩,
       ⟨none, (some 7), .mov (.t 37)⟩])))))))
   (.seq (.seq (.keep [3, 6, 53] (.region (some [[], [], [0, 1], [], [2, 3, 2], [4], [5, 4], [6], [7, 6, 6], [8, 6], [6, 9]]) [
     ⟨none, (some 43), .load (some 4) (.t 3)⟩,
     ⟨none, (some 44), .mov (.t 6)⟩,
     ⟨none, (some 45), .lcall [1] F.impl_Put [(.t 43), (.c (.v (.int .i64 11))), (.t 44)]⟩,
     ⟨none, (some 46), .load (some 4) (.t 3)⟩,
     ⟨none, (some 47), .kcall [1, 2] F.impl_SameTy [(.t 45), (.t 46)]⟩,
     ⟨none, (some 48), .un .not (.t 47)⟩,
     ⟨none, (some 49), .mov (.t 48)⟩,
     ⟨(some (49, false)), (some 50), .load (some 4) (.t 3)⟩,
     ⟨(some (49, false)), (some 51), .qcall F.impl_TyText [(.t 50)]⟩,
     ⟨(some (49, false)), (some 52), .bin .eql (.t 51) (.c (.v (.string ⟨#[]⟩)))⟩,
     ⟨none, (some 53), .pick (.t 49) (.c (.v (.bool true))) (.t 52)⟩]))
   (.cond (.t 53)
    (.seq (.keep [2] (.region none [
      ⟨none, (some 2), .mov (.c (.v (.bool false)))⟩]))
    (.ret))
    (.skip)))
   (.seq (.seq (.keep [3, 6, 8] (.region none [
     ⟨none, (some 8), .mov (.c (.v (.int .i64 0)))⟩]))
   (.block 2 (.loop (.seq (.seq (.keep [3, 6, 8, 57] (.region none [
       ⟨none, (some 54), .mov (.t 8)⟩,
       ⟨none, (some 55), .mov (.t 6)⟩,
       ⟨none, (some 56), .lenL (.t 55)⟩,
       ⟨none, (some 57), .bin .lss (.t 54) (.t 56)⟩]))
     (.cond (.t 57)
      (.skip)
      (.exit 2)))
     (.seq (.block 3 (.keep [3, 6, 8] (.region none [
        ⟨none, (some 60), .mov (.t 6)⟩,
        ⟨none, (some 61), .mov (.t 8)⟩,
        ⟨none, (some 62), .build [(.v (.int .i64 0)), (.v (.int .i64 0)), (.v (.string ⟨#[]⟩)), .nils] [(0, 1, (.c (.v (.int .i64 1))))]⟩,
        ⟨none, (some 63), .iaddr 4 (.t 60) (.t 61)⟩,
        ⟨none, none, .store 4 (.t 63) (.t 62)⟩])))
     (.keep [3, 6, 8] (.region none [
       ⟨none, (some 58), .mov (.t 8)⟩,
       ⟨none, (some 59), .bin .add (.t 58) (.c (.v (.int .i64 1)))⟩,
       ⟨none, (some 8), .mov (.t 59)⟩])))))))
   (.seq (.keep [3, 9] (.region none [
     ⟨none, (some 64), .load (some 4) (.t 3)⟩,
     ⟨none, (some 65), .mov (.t 6)⟩,
     ⟨none, (some 66), .call F.impl_Put [(.t 64), (.c (.v (.int .i64 11))), (.t 65)]⟩,
     ⟨none, (some 9), .alloc 26 4 (.agg [(.v (.int .i64 0)), (.v (.int .i64 0)), (.v (.string ⟨#[]⟩)), .nils])⟩,
     ⟨none, none, .store 4 (.t 9) (.t 66)⟩]))
   (.seq (.keep [3, 9, 10] (.region none [
     ⟨none, (some 67), .load (some 4) (.t 9)⟩,
     ⟨none, (some 68), .call F.impl_Free [(.t 67), (.c (.v (.int .i64 11)))]⟩,
     ⟨none, (some 10), .mov (.t 68)⟩]))
   (.seq (.seq (.keep [3, 9, 10, 11] (.region none [
     ⟨none, (some 11), .mov (.c (.v (.int .i64 0)))⟩]))
   (.block 4 (.loop (.seq (.seq (.keep [3, 9, 10, 11, 72] (.region none [
       ⟨none, (some 69), .mov (.t 11)⟩,
       ⟨none, (some 70), .mov (.t 10)⟩,
       ⟨none, (some 71), .lenL (.t 70)⟩,
       ⟨none, (some 72), .bin .lss (.t 69) (.t 71)⟩]))
     (.cond (.t 72)
      (.skip)
      (.exit 4)))
     (.seq (.block 5 (.seq (.keep [3, 9, 10, 11, 79] (.region none [
        ⟨none, (some 75), .mov (.t 10)⟩,
        ⟨none, (some 76), .mov (.t 11)⟩,
        ⟨none, (some 77), .iaddr 1 (.t 75) (.t 76)⟩,
        ⟨none, (some 78), .load none (.t 77)⟩,
        ⟨none, (some 79), .bin .lss (.t 78) (.c (.v (.int .i64 8)))⟩]))
      (.cond (.t 79)
       (.seq (.keep [2] (.region none [
         ⟨none, (some 2), .mov (.c (.v (.bool false)))⟩]))
       (.ret))
       (.skip))))
     (.keep [3, 9, 10, 11] (.region none [
       ⟨none, (some 73), .mov (.t 11)⟩,
       ⟨none, (some 74), .bin .add (.t 73) (.c (.v (.int .i64 1)))⟩,
       ⟨none, (some 11), .mov (.t 74)⟩])))))))
   (.seq (.keep [2] (.region (some [[], [0], [], [2, 1], [1, 3], [4, 3, 0, 1, 2, 3, 4]]) [
     ⟨none, (some 80), .load (some 4) (.t 9)⟩,
     ⟨none, (some 81), .kcall [1, 2, 3, 4] F.impl_TySize [(.t 80)]⟩,
     ⟨none, (some 82), .load (some 4) (.t 3)⟩,
     ⟨none, (some 83), .kcall [1, 2, 3, 4] F.impl_TySize [(.t 82)]⟩,
     ⟨none, (some 84), .bin .eql (.t 81) (.t 83)⟩,
     ⟨none, (some 2), .mov (.t 84)⟩]))
   (.ret))))))))))))
theorem A.laws_FnPut_ok : cFn Tryd.prog F.laws_FnPut A.laws_FnPut :=
  ⟨_, _, Tryd.func3, rfl, by kernel_rfl, rfl, by decide, by kernel_rfl, by kernel_rfl⟩
end Go.Proofs.Ab
