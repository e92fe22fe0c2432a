/-
  THE ABSTRACT CODE of some of this seat's functions, printed by a program of ours (wip/tool/Gen3.lean) from the translation; each with the theorem that it is that function's.
-/
import Derived.Test.YtlckfombibfhcaaST
set_option linter.unusedVariables false
set_option linter.unusedSimpArgs false
set_option linter.defProp false
namespace Go.Proofs.Ab
open Go.Ab
set_option maxRecDepth 100000
def A.impl_Homes : AFn where
  nargs := 2
  nt := 77
  res := [.tmp 4, .tmp 5]
  code := .seq (.keep [1, 2] (.region none [
     ⟨none, (some 2), .box 65 11 (.t 0)⟩,
     ⟨none, (some 4), .mov (.c .nils)⟩,
     ⟨none, (some 5), .mov (.c (.v (.bool false)))⟩]))
   (.seq (.seq (.keep [1, 2, 18] (.region none [
     ⟨none, (some 11), .mov (.t 1)⟩,
     ⟨none, (some 12), .call F.impl_within [(.t 11), (.c (.v (.int .i64 0))), (.c (.v (.int .i64 9000)))]⟩,
     ⟨none, (some 13), .un .not (.t 12)⟩,
     ⟨none, (some 14), .mov (.t 13)⟩,
     ⟨(some (14, false)), (some 15), .load (some 11) (.t 2)⟩,
     ⟨(some (14, false)), (some 16), .call F.impl_KSize [(.t 15)]⟩,
     ⟨(some (14, false)), (some 17), .bin .gtr (.t 16) (.c (.v (.int .i64 9000)))⟩,
     ⟨none, (some 18), .pick (.t 14) (.c (.v (.bool true))) (.t 17)⟩]))
   (.cond (.t 18)
    (.seq (.keep [4, 5] (.region none [
      ⟨none, (some 4), .mov (.c .nils)⟩,
      ⟨none, (some 5), .mov (.c (.v (.bool false)))⟩]))
    (.ret))
    (.skip)))
   (.seq (.keep [1, 6] (.region none [
     ⟨none, (some 19), .load (some 11) (.t 2)⟩,
     ⟨none, (some 20), .mov (.t 1)⟩,
     ⟨none, (some 21), .call F.impl_Uses [(.t 19), (.t 20)]⟩,
     ⟨none, (some 6), .mov (.t 21)⟩]))
   (.seq (.keep [1, 6, 7] (.region none [
     ⟨none, (some 22), .mov (.t 6)⟩,
     ⟨none, (some 23), .lenL (.t 22)⟩,
     ⟨none, (some 24), .mk 3 1 8 (.v (.int .i64 0)) (.t 23) (.t 23)⟩,
     ⟨none, (some 7), .mov (.t 24)⟩]))
   (.seq (.seq (.keep [1, 6, 7, 26, 27] (.region none [
     ⟨none, (some 25), .mov (.t 6)⟩,
     ⟨none, (some 26), .lenL (.t 25)⟩,
     ⟨none, (some 27), .mov (.c (.v (.int .i64 0)))⟩]))
   (.block 0 (.loop (.seq (.keep [1, 6, 7, 26, 27, 28] (.region none [
       ⟨none, (some 28), .bin .lss (.t 27) (.t 26)⟩]))
     (.seq (.cond (.t 28)
      (.skip)
      (.exit 0))
     (.seq (.block 1 (.seq (.keep [1, 6, 7, 8, 26, 27] (.region none [
        ⟨none, (some 29), .mov (.t 27)⟩,
        ⟨none, (some 8), .mov (.t 29)⟩]))
      (.seq (.keep [1, 6, 7, 8, 26, 27] (.region none [
        ⟨none, (some 30), .mov (.t 7)⟩,
        ⟨none, (some 31), .mov (.t 8)⟩,
        ⟨none, (some 32), .iaddr 1 (.t 30) (.t 31)⟩,
        ⟨none, none, .store 1 (.t 32) (.c (.v (.int .i64 (-1))))⟩]))
      (.seq (.seq (.keep [1, 6, 7, 8, 26, 27, 37] (.region none [
        ⟨none, (some 33), .mov (.t 6)⟩,
        ⟨none, (some 34), .mov (.t 8)⟩,
        ⟨none, (some 35), .iaddr 1 (.t 33) (.t 34)⟩,
        ⟨none, (some 36), .load none (.t 35)⟩,
        ⟨none, (some 37), .bin .lss (.t 36) (.c (.v (.int .i64 0)))⟩]))
      (.cond (.t 37)
       (.exit 1)
       (.skip)))
      (.seq (.keep [1, 6, 7, 8, 9, 26, 27] (.region none [
        ⟨none, (some 38), .mk 4 1 1 (.v (.bool false)) (.c (.v (.int .i64 75))) (.c (.v (.int .i64 75)))⟩,
        ⟨none, (some 9), .mov (.t 38)⟩]))
      (.seq (.seq (.keep [1, 6, 7, 8, 9, 10, 26, 27] (.region none [
        ⟨none, (some 10), .mov (.c (.v (.int .i64 0)))⟩]))
      (.block 2 (.loop (.seq (.seq (.keep [1, 6, 7, 8, 9, 10, 26, 27, 41] (.region none [
          ⟨none, (some 39), .mov (.t 10)⟩,
          ⟨none, (some 40), .mov (.t 8)⟩,
          ⟨none, (some 41), .bin .lss (.t 39) (.t 40)⟩]))
        (.cond (.t 41)
         (.skip)
         (.exit 2)))
        (.seq (.block 3 (.seq (.keep [1, 6, 7, 8, 9, 10, 26, 27, 58] (.region none [
           ⟨none, (some 44), .mov (.t 7)⟩,
           ⟨none, (some 45), .mov (.t 10)⟩,
           ⟨none, (some 46), .iaddr 1 (.t 44) (.t 45)⟩,
           ⟨none, (some 47), .load none (.t 46)⟩,
           ⟨none, (some 48), .bin .geq (.t 47) (.c (.v (.int .i64 0)))⟩,
           ⟨none, (some 49), .mov (.t 48)⟩,
           ⟨(some (49, true)), (some 50), .mov (.t 6)⟩,
           ⟨(some (49, true)), (some 51), .mov (.t 10)⟩,
           ⟨(some (49, true)), (some 52), .iaddr 1 (.t 50) (.t 51)⟩,
           ⟨(some (49, true)), (some 53), .load none (.t 52)⟩,
           ⟨(some (49, true)), (some 54), .mov (.t 8)⟩,
           ⟨(some (49, true)), (some 55), .mov (.t 1)⟩,
           ⟨(some (49, true)), (some 56), .pu .max [(.t 54), (.t 55)]⟩,
           ⟨(some (49, true)), (some 57), .bin .geq (.t 53) (.t 56)⟩,
           ⟨none, (some 58), .pick (.t 49) (.t 57) (.c (.v (.bool false)))⟩]))
         (.cond (.t 58)
          (.keep [1, 6, 7, 8, 9, 10, 26, 27] (.region none [
            ⟨none, (some 59), .mov (.t 9)⟩,
            ⟨none, (some 60), .mov (.t 7)⟩,
            ⟨none, (some 61), .mov (.t 10)⟩,
            ⟨none, (some 62), .iaddr 1 (.t 60) (.t 61)⟩,
            ⟨none, (some 63), .load none (.t 62)⟩,
            ⟨none, (some 64), .iaddr 1 (.t 59) (.t 63)⟩,
            ⟨none, none, .store 1 (.t 64) (.c (.v (.bool true)))⟩]))
          (.skip))))
        (.keep [1, 6, 7, 8, 9, 10, 26, 27] (.region none [
          ⟨none, (some 42), .mov (.t 10)⟩,
          ⟨none, (some 43), .bin .add (.t 42) (.c (.v (.int .i64 1)))⟩,
          ⟨none, (some 10), .mov (.t 43)⟩])))))))
      (.seq (.keep [1, 6, 7, 8, 26, 27] (.region none [
        ⟨none, (some 65), .mov (.t 7)⟩,
        ⟨none, (some 66), .mov (.t 8)⟩,
        ⟨none, (some 67), .mov (.t 9)⟩,
        ⟨none, (some 68), .call F.slices_Index__bool_bool [(.t 67), (.c (.v (.bool false)))]⟩,
        ⟨none, (some 69), .iaddr 1 (.t 65) (.t 66)⟩,
        ⟨none, none, .store 1 (.t 69) (.t 68)⟩]))
      (.seq (.keep [1, 6, 7, 26, 27, 74] (.region none [
        ⟨none, (some 70), .mov (.t 7)⟩,
        ⟨none, (some 71), .mov (.t 8)⟩,
        ⟨none, (some 72), .iaddr 1 (.t 70) (.t 71)⟩,
        ⟨none, (some 73), .load none (.t 72)⟩,
        ⟨none, (some 74), .bin .lss (.t 73) (.c (.v (.int .i64 0)))⟩]))
      (.cond (.t 74)
       (.seq (.keep [4, 5] (.region none [
         ⟨none, (some 4), .mov (.c .nils)⟩,
         ⟨none, (some 5), .mov (.c (.v (.bool false)))⟩]))
       (.ret))
       (.skip))))))))))
     (.keep [1, 6, 7, 26, 27] (.region none [
       ⟨none, (some 75), .bin .add (.t 27) (.c (.v (.int .i64 1)))⟩,
       ⟨none, (some 27), .mov (.t 75)⟩]))))))))
   (.seq (.keep [4, 5] (.region none [
     ⟨none, (some 76), .mov (.t 7)⟩,
     ⟨none, (some 4), .mov (.t 76)⟩,
     ⟨none, (some 5), .mov (.c (.v (.bool true)))⟩]))
   (.ret))))))
theorem A.impl_Homes_ok : cFn Try.prog F.impl_Homes A.impl_Homes :=
  ⟨_, _, Try.func38, rfl, by kernel_rfl, rfl, by decide, by kernel_rfl, by kernel_rfl⟩
end Go.Proofs.Ab
