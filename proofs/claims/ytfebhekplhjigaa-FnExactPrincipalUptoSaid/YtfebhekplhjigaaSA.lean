/-
  THE ABSTRACT CODE of some of this seat's functions, printed by a program of ours (wip/tool/Gen3.lean) from the translation; each with the theorem that it is that function's.
-/
import Derived.Test.YtfebhekplhjigaaST
set_option linter.unusedVariables false
set_option linter.unusedSimpArgs false
set_option linter.defProp false
namespace Go.Proofs.Ab
open Go.Ab
set_option maxRecDepth 100000
def A.spec_Principal : AFn where
  nargs := 2
  nt := 41
  res := [.tmp 4]
  code := .seq (.keep [2, 3] (.region none [
     ⟨none, (some 2), .box 29 4 (.t 0)⟩,
     ⟨none, (some 3), .box 29 4 (.t 1)⟩,
     ⟨none, (some 4), .mov (.c (.v (.bool false)))⟩]))
   (.seq (.seq (.keep [2, 3, 26] (.region none [
     ⟨none, (some 7), .load (some 4) (.t 2)⟩,
     ⟨none, (some 8), .call F.spec_TyOk [(.t 7)]⟩,
     ⟨none, (some 9), .un .not (.t 8)⟩,
     ⟨none, (some 10), .mov (.t 9)⟩,
     ⟨(some (10, false)), (some 11), .load (some 4) (.t 3)⟩,
     ⟨(some (10, false)), (some 12), .call F.spec_TyOk [(.t 11)]⟩,
     ⟨(some (10, false)), (some 13), .un .not (.t 12)⟩,
     ⟨none, (some 14), .pick (.t 10) (.c (.v (.bool true))) (.t 13)⟩,
     ⟨none, (some 15), .mov (.t 14)⟩,
     ⟨(some (15, false)), (some 16), .load (some 4) (.t 2)⟩,
     ⟨(some (15, false)), (some 17), .call F.spec_Free [(.t 16), (.c (.v (.int .i64 11)))]⟩,
     ⟨(some (15, false)), (some 18), .lenL (.t 17)⟩,
     ⟨(some (15, false)), (some 19), .bin .gtr (.t 18) (.c (.v (.int .i64 0)))⟩,
     ⟨none, (some 20), .pick (.t 15) (.c (.v (.bool true))) (.t 19)⟩,
     ⟨none, (some 21), .mov (.t 20)⟩,
     ⟨(some (21, false)), (some 22), .load (some 4) (.t 3)⟩,
     ⟨(some (21, false)), (some 23), .call F.spec_Free [(.t 22), (.c (.v (.int .i64 11)))]⟩,
     ⟨(some (21, false)), (some 24), .lenL (.t 23)⟩,
     ⟨(some (21, false)), (some 25), .bin .gtr (.t 24) (.c (.v (.int .i64 0)))⟩,
     ⟨none, (some 26), .pick (.t 21) (.c (.v (.bool true))) (.t 25)⟩]))
   (.cond (.t 26)
    (.seq (.keep [4] (.region none [
      ⟨none, (some 4), .mov (.c (.v (.bool false)))⟩]))
    (.ret))
    (.skip)))
   (.seq (.keep [2, 3, 5] (.region none [
     ⟨none, (some 27), .load (some 4) (.t 2)⟩,
     ⟨none, (some 28), .call F.spec_Free [(.t 27), (.c (.v (.int .i64 9)))]⟩,
     ⟨none, (some 5), .mov (.t 28)⟩]))
   (.seq (.keep [3, 5, 6] (.region none [
     ⟨none, (some 29), .load (some 4) (.t 2)⟩,
     ⟨none, (some 30), .mov (.t 5)⟩,
     ⟨none, (some 31), .call F.spec_l7Small [(.t 29), (.t 30)]⟩,
     ⟨none, (some 6), .alloc 29 4 (.agg [(.v (.int .i64 0)), (.v (.int .i64 0)), (.v (.string ⟨#[]⟩)), .nils])⟩,
     ⟨none, none, .store 4 (.t 6) (.t 31)⟩]))
   (.seq (.weak (.keep [4] (.region (some [[], [], [], [2], [3, 3], [], [5], [6, 6], [0, 1, 4, 7], [8, 8, 0, 1, 2, 3, 4, 5, 6, 7, 8]]) [
     ⟨none, (some 32), .load (some 4) (.t 6)⟩,
     ⟨none, (some 33), .load (some 4) (.t 3)⟩,
     ⟨none, (some 34), .mov (.t 5)⟩,
     ⟨none, (some 35), .lenL (.t 34)⟩,
     ⟨none, (some 36), .mk 29 4 56 (.agg [(.v (.int .i64 0)), (.v (.int .i64 0)), (.v (.string ⟨#[]⟩)), .nils]) (.t 35) (.t 35)⟩,
     ⟨none, (some 37), .mov (.t 5)⟩,
     ⟨none, (some 38), .lenL (.t 37)⟩,
     ⟨none, (some 39), .mk 4 1 1 (.v (.bool false)) (.t 38) (.t 38)⟩,
     ⟨none, (some 40), .call F.spec_l7Fits [(.t 32), (.t 33), (.t 36), (.t 39)]⟩,
     ⟨none, (some 4), .mov (.t 40)⟩])))
   (.ret)))))
theorem A.spec_Principal_ok : cFn Try.prog F.spec_Principal A.spec_Principal :=
  ⟨_, _, Try.func8, rfl, by kernel_rfl, rfl, by decide, by kernel_rfl, by kernel_rfl⟩
def A.impl_Principal : AFn where
  nargs := 2
  nt := 29
  res := [.tmp 4]
  code := .seq (.keep [2, 3] (.region none [
     ⟨none, (some 2), .box 29 4 (.t 0)⟩,
     ⟨none, (some 3), .box 29 4 (.t 1)⟩,
     ⟨none, (some 4), .mov (.c (.v (.bool false)))⟩]))
   (.seq (.keep [4] (.region none [
     ⟨none, (some 5), .load (some 4) (.t 2)⟩,
     ⟨none, (some 6), .call F.impl_TyOk [(.t 5)]⟩,
     ⟨none, (some 7), .mov (.t 6)⟩,
     ⟨(some (7, true)), (some 8), .load (some 4) (.t 3)⟩,
     ⟨(some (7, true)), (some 9), .call F.impl_TyOk [(.t 8)]⟩,
     ⟨none, (some 10), .pick (.t 7) (.t 9) (.c (.v (.bool false)))⟩,
     ⟨none, (some 11), .mov (.t 10)⟩,
     ⟨(some (11, true)), (some 12), .load (some 4) (.t 2)⟩,
     ⟨(some (11, true)), (some 13), .call F.impl_Free [(.t 12), (.c (.v (.int .i64 11)))]⟩,
     ⟨(some (11, true)), (some 14), .lenL (.t 13)⟩,
     ⟨(some (11, true)), (some 15), .bin .eql (.t 14) (.c (.v (.int .i64 0)))⟩,
     ⟨none, (some 16), .pick (.t 11) (.t 15) (.c (.v (.bool false)))⟩,
     ⟨none, (some 17), .mov (.t 16)⟩,
     ⟨(some (17, true)), (some 18), .load (some 4) (.t 3)⟩,
     ⟨(some (17, true)), (some 19), .call F.impl_Free [(.t 18), (.c (.v (.int .i64 11)))]⟩,
     ⟨(some (17, true)), (some 20), .lenL (.t 19)⟩,
     ⟨(some (17, true)), (some 21), .bin .eql (.t 20) (.c (.v (.int .i64 0)))⟩,
     ⟨none, (some 22), .pick (.t 17) (.t 21) (.c (.v (.bool false)))⟩,
     ⟨none, (some 23), .mov (.t 22)⟩,
     ⟨(some (23, true)), (some 24), .load (some 4) (.t 2)⟩,
     ⟨(some (23, true)), (some 25), .load (some 4) (.t 3)⟩,
     ⟨(some (23, true)), (some 26), .mkmap⟩,
     ⟨(some (23, true)), (some 27), .call F.impl_puts [(.t 24), (.t 25), (.t 26)]⟩,
     ⟨none, (some 28), .pick (.t 23) (.t 27) (.c (.v (.bool false)))⟩,
     ⟨none, (some 4), .mov (.t 28)⟩]))
   (.ret))
theorem A.impl_Principal_ok : cFn Try.prog F.impl_Principal A.impl_Principal :=
  ⟨_, _, Try.func10, rfl, by kernel_rfl, rfl, by decide, by kernel_rfl, by kernel_rfl⟩
def A.spec_l7Fits : AFn where
  nargs := 4
  nt := 88
  res := [.tmp 8]
  code := .seq (.keep [2, 3, 4, 5] (.region none [
     ⟨none, (some 4), .box 29 4 (.t 0)⟩,
     ⟨none, (some 5), .box 29 4 (.t 1)⟩,
     ⟨none, (some 8), .mov (.c (.v (.bool false)))⟩]))
   (.seq (.seq (.keep [2, 3, 4, 5, 12] (.region none [
     ⟨none, (some 10), .faddr 0 (.t 4)⟩,
     ⟨none, (some 11), .load none (.t 10)⟩,
     ⟨none, (some 12), .bin .eql (.t 11) (.c (.v (.int .i64 9)))⟩]))
   (.cond (.t 12)
    (.seq (.seq (.keep [2, 3, 4, 5, 17] (.region none [
      ⟨none, (some 13), .faddr 1 (.t 4)⟩,
      ⟨none, (some 14), .load none (.t 13)⟩,
      ⟨none, (some 15), .mov (.t 3)⟩,
      ⟨none, (some 16), .lenL (.t 15)⟩,
      ⟨none, (some 17), .bin .geq (.t 14) (.t 16)⟩]))
    (.cond (.t 17)
     (.seq (.keep [8] (.region none [
       ⟨none, (some 8), .mov (.c (.v (.bool false)))⟩]))
     (.ret))
     (.skip)))
    (.seq (.seq (.keep [2, 3, 4, 5, 22] (.region none [
      ⟨none, (some 18), .mov (.t 3)⟩,
      ⟨none, (some 19), .faddr 1 (.t 4)⟩,
      ⟨none, (some 20), .load none (.t 19)⟩,
      ⟨none, (some 21), .iaddr 1 (.t 18) (.t 20)⟩,
      ⟨none, (some 22), .load none (.t 21)⟩]))
    (.cond (.t 22)
     (.seq (.keep [8] (.region (some [[], [], [1], [0, 2], [3], [], [4, 5], [6, 6, 0, 1, 2, 3, 4, 5, 6]]) [
       ⟨none, (some 23), .mov (.t 2)⟩,
       ⟨none, (some 24), .faddr 1 (.t 4)⟩,
       ⟨none, (some 25), .load none (.t 24)⟩,
       ⟨none, (some 26), .iaddr 4 (.t 23) (.t 25)⟩,
       ⟨none, (some 27), .load (some 4) (.t 26)⟩,
       ⟨none, (some 28), .load (some 4) (.t 5)⟩,
       ⟨none, (some 29), .qcall F.spec_SameTy [(.t 27), (.t 28)]⟩,
       ⟨none, (some 8), .mov (.t 29)⟩]))
     (.ret))
     (.skip)))
    (.seq (.keep [2, 4, 5] (.region none [
      ⟨none, (some 30), .mov (.t 3)⟩,
      ⟨none, (some 31), .faddr 1 (.t 4)⟩,
      ⟨none, (some 32), .load none (.t 31)⟩,
      ⟨none, (some 33), .iaddr 1 (.t 30) (.t 32)⟩,
      ⟨none, none, .store 1 (.t 33) (.c (.v (.bool true)))⟩]))
    (.seq (.keep [] (.region none [
      ⟨none, (some 34), .mov (.t 2)⟩,
      ⟨none, (some 35), .faddr 1 (.t 4)⟩,
      ⟨none, (some 36), .load none (.t 35)⟩,
      ⟨none, (some 37), .load (some 4) (.t 5)⟩,
      ⟨none, (some 38), .iaddr 4 (.t 34) (.t 36)⟩,
      ⟨none, none, .store 4 (.t 38) (.t 37)⟩]))
    (.seq (.keep [8] (.region none [
      ⟨none, (some 8), .mov (.c (.v (.bool true)))⟩]))
    (.ret))))))
    (.skip)))
   (.seq (.seq (.keep [2, 3, 4, 5, 66] (.region none [
     ⟨none, (some 39), .faddr 0 (.t 4)⟩,
     ⟨none, (some 40), .load none (.t 39)⟩,
     ⟨none, (some 41), .faddr 0 (.t 5)⟩,
     ⟨none, (some 42), .load none (.t 41)⟩,
     ⟨none, (some 43), .bin .neq (.t 40) (.t 42)⟩,
     ⟨none, (some 44), .mov (.t 43)⟩,
     ⟨(some (44, false)), (some 45), .faddr 1 (.t 4)⟩,
     ⟨(some (44, false)), (some 46), .load none (.t 45)⟩,
     ⟨(some (44, false)), (some 47), .faddr 1 (.t 5)⟩,
     ⟨(some (44, false)), (some 48), .load none (.t 47)⟩,
     ⟨(some (44, false)), (some 49), .bin .neq (.t 46) (.t 48)⟩,
     ⟨none, (some 50), .pick (.t 44) (.c (.v (.bool true))) (.t 49)⟩,
     ⟨none, (some 51), .mov (.t 50)⟩,
     ⟨(some (51, false)), (some 52), .faddr 2 (.t 4)⟩,
     ⟨(some (51, false)), (some 53), .load none (.t 52)⟩,
     ⟨(some (51, false)), (some 54), .faddr 2 (.t 5)⟩,
     ⟨(some (51, false)), (some 55), .load none (.t 54)⟩,
     ⟨(some (51, false)), (some 56), .bin .neq (.t 53) (.t 55)⟩,
     ⟨none, (some 57), .pick (.t 51) (.c (.v (.bool true))) (.t 56)⟩,
     ⟨none, (some 58), .mov (.t 57)⟩,
     ⟨(some (58, false)), (some 59), .faddr 3 (.t 4)⟩,
     ⟨(some (58, false)), (some 60), .load none (.t 59)⟩,
     ⟨(some (58, false)), (some 61), .lenL (.t 60)⟩,
     ⟨(some (58, false)), (some 62), .faddr 3 (.t 5)⟩,
     ⟨(some (58, false)), (some 63), .load none (.t 62)⟩,
     ⟨(some (58, false)), (some 64), .lenL (.t 63)⟩,
     ⟨(some (58, false)), (some 65), .bin .neq (.t 61) (.t 64)⟩,
     ⟨none, (some 66), .pick (.t 58) (.c (.v (.bool true))) (.t 65)⟩]))
   (.cond (.t 66)
    (.seq (.keep [8] (.region none [
      ⟨none, (some 8), .mov (.c (.v (.bool false)))⟩]))
    (.ret))
    (.skip)))
   (.seq (.seq (.keep [2, 3, 4, 5, 9] (.region none [
     ⟨none, (some 9), .mov (.c (.v (.int .i64 0)))⟩]))
   (.block 0 (.loop (.seq (.seq (.keep [2, 3, 4, 5, 9, 71] (.region none [
       ⟨none, (some 67), .mov (.t 9)⟩,
       ⟨none, (some 68), .faddr 3 (.t 4)⟩,
       ⟨none, (some 69), .load none (.t 68)⟩,
       ⟨none, (some 70), .lenL (.t 69)⟩,
       ⟨none, (some 71), .bin .lss (.t 67) (.t 70)⟩]))
     (.cond (.t 71)
      (.skip)
      (.exit 0)))
     (.seq (.block 1 (.seq (.keep [2, 3, 4, 5, 9, 87] (.region (some [[], [0], [], [1, 2], [3], [], [5], [], [6, 7], [8], [], [], [4, 9, 10, 11], [12]]) [
        ⟨none, (some 74), .faddr 3 (.t 4)⟩,
        ⟨none, (some 75), .load none (.t 74)⟩,
        ⟨none, (some 76), .mov (.t 9)⟩,
        ⟨none, (some 77), .iaddr 4 (.t 75) (.t 76)⟩,
        ⟨none, (some 78), .load (some 4) (.t 77)⟩,
        ⟨none, (some 79), .faddr 3 (.t 5)⟩,
        ⟨none, (some 80), .load none (.t 79)⟩,
        ⟨none, (some 81), .mov (.t 9)⟩,
        ⟨none, (some 82), .iaddr 4 (.t 80) (.t 81)⟩,
        ⟨none, (some 83), .load (some 4) (.t 82)⟩,
        ⟨none, (some 84), .mov (.t 2)⟩,
        ⟨none, (some 85), .mov (.t 3)⟩,
        ⟨none, (some 86), .call F.spec_l7Fits [(.t 78), (.t 83), (.t 84), (.t 85)]⟩,
        ⟨none, (some 87), .un .not (.t 86)⟩]))
      (.cond (.t 87)
       (.seq (.keep [8] (.region none [
         ⟨none, (some 8), .mov (.c (.v (.bool false)))⟩]))
       (.ret))
       (.skip))))
     (.keep [2, 3, 4, 5, 9] (.region none [
       ⟨none, (some 72), .mov (.t 9)⟩,
       ⟨none, (some 73), .bin .add (.t 72) (.c (.v (.int .i64 1)))⟩,
       ⟨none, (some 9), .mov (.t 73)⟩])))))))
   (.seq (.keep [8] (.region none [
     ⟨none, (some 8), .mov (.c (.v (.bool true)))⟩]))
   (.ret)))))
theorem A.spec_l7Fits_ok : cFn Try.prog F.spec_l7Fits A.spec_l7Fits :=
  ⟨_, _, Try.func28, rfl, by kernel_rfl, rfl, by decide, by kernel_rfl, by kernel_rfl⟩
def A.impl_puts : AFn where
  nargs := 3
  nt := 81
  res := [.tmp 6]
  code := .seq (.keep [2, 3, 4] (.region none [
     ⟨none, (some 3), .box 29 4 (.t 0)⟩,
     ⟨none, (some 4), .box 29 4 (.t 1)⟩,
     ⟨none, (some 6), .mov (.c (.v (.bool false)))⟩]))
   (.seq (.seq (.keep [2, 3, 4, 12] (.region none [
     ⟨none, (some 10), .faddr 0 (.t 3)⟩,
     ⟨none, (some 11), .load none (.t 10)⟩,
     ⟨none, (some 12), .bin .eql (.t 11) (.c (.v (.int .i64 9)))⟩]))
   (.cond (.t 12)
    (.seq (.keep [2, 3, 4, 7, 8] (.region none [
      ⟨none, (some 14), .mov (.t 2)⟩,
      ⟨none, (some 15), .faddr 1 (.t 3)⟩,
      ⟨none, (some 16), .load none (.t 15)⟩,
      ⟨none, (some 17), .mget true (.int .i64) (.agg [(.v (.int .i64 0)), (.v (.int .i64 0)), (.v (.string ⟨#[]⟩)), .nils]) (.t 14) (.t 16)⟩,
      ⟨none, (some 13), .mov (.t 17)⟩,
      ⟨none, (some 18), .ext (.t 13) 0⟩,
      ⟨none, (some 19), .ext (.t 13) 1⟩,
      ⟨none, (some 7), .alloc 29 4 (.agg [(.v (.int .i64 0)), (.v (.int .i64 0)), (.v (.string ⟨#[]⟩)), .nils])⟩,
      ⟨none, none, .store 4 (.t 7) (.t 18)⟩,
      ⟨none, (some 8), .mov (.t 19)⟩]))
    (.seq (.seq (.keep [2, 3, 4, 7, 8, 21] (.region none [
      ⟨none, (some 20), .mov (.t 8)⟩,
      ⟨none, (some 21), .un .not (.t 20)⟩]))
    (.cond (.t 21)
     (.keep [4, 7, 8] (.region none [
       ⟨none, (some 22), .mov (.t 2)⟩,
       ⟨none, (some 23), .faddr 1 (.t 3)⟩,
       ⟨none, (some 24), .load none (.t 23)⟩,
       ⟨none, (some 25), .load (some 4) (.t 4)⟩,
       ⟨none, none, .mset (.int .i64) (.t 22) (.t 24) (.t 25)⟩]))
     (.skip)))
    (.seq (.keep [6] (.region none [
      ⟨none, (some 26), .mov (.t 8)⟩,
      ⟨none, (some 27), .un .not (.t 26)⟩,
      ⟨none, (some 28), .mov (.t 27)⟩,
      ⟨(some (28, false)), (some 29), .load (some 4) (.t 7)⟩,
      ⟨(some (28, false)), (some 30), .load (some 4) (.t 4)⟩,
      ⟨(some (28, false)), (some 31), .call F.impl_SameTy [(.t 29), (.t 30)]⟩,
      ⟨none, (some 32), .pick (.t 28) (.c (.v (.bool true))) (.t 31)⟩,
      ⟨none, (some 6), .mov (.t 32)⟩]))
    (.ret))))
    (.skip)))
   (.seq (.seq (.keep [2, 3, 4, 60] (.region none [
     ⟨none, (some 33), .faddr 0 (.t 3)⟩,
     ⟨none, (some 34), .load none (.t 33)⟩,
     ⟨none, (some 35), .faddr 0 (.t 4)⟩,
     ⟨none, (some 36), .load none (.t 35)⟩,
     ⟨none, (some 37), .bin .neq (.t 34) (.t 36)⟩,
     ⟨none, (some 38), .mov (.t 37)⟩,
     ⟨(some (38, false)), (some 39), .faddr 1 (.t 3)⟩,
     ⟨(some (38, false)), (some 40), .load none (.t 39)⟩,
     ⟨(some (38, false)), (some 41), .faddr 1 (.t 4)⟩,
     ⟨(some (38, false)), (some 42), .load none (.t 41)⟩,
     ⟨(some (38, false)), (some 43), .bin .neq (.t 40) (.t 42)⟩,
     ⟨none, (some 44), .pick (.t 38) (.c (.v (.bool true))) (.t 43)⟩,
     ⟨none, (some 45), .mov (.t 44)⟩,
     ⟨(some (45, false)), (some 46), .faddr 2 (.t 3)⟩,
     ⟨(some (45, false)), (some 47), .load none (.t 46)⟩,
     ⟨(some (45, false)), (some 48), .faddr 2 (.t 4)⟩,
     ⟨(some (45, false)), (some 49), .load none (.t 48)⟩,
     ⟨(some (45, false)), (some 50), .bin .neq (.t 47) (.t 49)⟩,
     ⟨none, (some 51), .pick (.t 45) (.c (.v (.bool true))) (.t 50)⟩,
     ⟨none, (some 52), .mov (.t 51)⟩,
     ⟨(some (52, false)), (some 53), .faddr 3 (.t 3)⟩,
     ⟨(some (52, false)), (some 54), .load none (.t 53)⟩,
     ⟨(some (52, false)), (some 55), .lenL (.t 54)⟩,
     ⟨(some (52, false)), (some 56), .faddr 3 (.t 4)⟩,
     ⟨(some (52, false)), (some 57), .load none (.t 56)⟩,
     ⟨(some (52, false)), (some 58), .lenL (.t 57)⟩,
     ⟨(some (52, false)), (some 59), .bin .neq (.t 55) (.t 58)⟩,
     ⟨none, (some 60), .pick (.t 52) (.c (.v (.bool true))) (.t 59)⟩]))
   (.cond (.t 60)
    (.seq (.keep [6] (.region none [
      ⟨none, (some 6), .mov (.c (.v (.bool false)))⟩]))
    (.ret))
    (.skip)))
   (.seq (.seq (.keep [2, 3, 4, 63, 64] (.region none [
     ⟨none, (some 61), .faddr 3 (.t 3)⟩,
     ⟨none, (some 62), .load none (.t 61)⟩,
     ⟨none, (some 63), .lenL (.t 62)⟩,
     ⟨none, (some 64), .mov (.c (.v (.int .i64 0)))⟩]))
   (.block 0 (.loop (.seq (.keep [2, 3, 4, 63, 64, 65] (.region none [
       ⟨none, (some 65), .bin .lss (.t 64) (.t 63)⟩]))
     (.seq (.cond (.t 65)
      (.skip)
      (.exit 0))
     (.seq (.block 1 (.seq (.keep [2, 3, 4, 9, 63, 64] (.region none [
        ⟨none, (some 66), .mov (.t 64)⟩,
        ⟨none, (some 9), .mov (.t 66)⟩]))
      (.seq (.keep [2, 3, 4, 63, 64, 79] (.region (some [[], [0], [], [1, 2], [3], [], [5], [], [6, 7], [8], [], [4, 9, 10], [11]]) [
        ⟨none, (some 67), .faddr 3 (.t 3)⟩,
        ⟨none, (some 68), .load none (.t 67)⟩,
        ⟨none, (some 69), .mov (.t 9)⟩,
        ⟨none, (some 70), .iaddr 4 (.t 68) (.t 69)⟩,
        ⟨none, (some 71), .load (some 4) (.t 70)⟩,
        ⟨none, (some 72), .faddr 3 (.t 4)⟩,
        ⟨none, (some 73), .load none (.t 72)⟩,
        ⟨none, (some 74), .mov (.t 9)⟩,
        ⟨none, (some 75), .iaddr 4 (.t 73) (.t 74)⟩,
        ⟨none, (some 76), .load (some 4) (.t 75)⟩,
        ⟨none, (some 77), .mov (.t 2)⟩,
        ⟨none, (some 78), .call F.impl_puts [(.t 71), (.t 76), (.t 77)]⟩,
        ⟨none, (some 79), .un .not (.t 78)⟩]))
      (.cond (.t 79)
       (.seq (.keep [6] (.region none [
         ⟨none, (some 6), .mov (.c (.v (.bool false)))⟩]))
       (.ret))
       (.skip)))))
     (.keep [2, 3, 4, 63, 64] (.region none [
       ⟨none, (some 80), .bin .add (.t 64) (.c (.v (.int .i64 1)))⟩,
       ⟨none, (some 64), .mov (.t 80)⟩]))))))))
   (.seq (.keep [6] (.region none [
     ⟨none, (some 6), .mov (.c (.v (.bool true)))⟩]))
   (.ret)))))
theorem A.impl_puts_ok : cFn Try.prog F.impl_puts A.impl_puts :=
  ⟨_, _, Try.func31, rfl, by kernel_rfl, rfl, by decide, by kernel_rfl, by kernel_rfl⟩
end Go.Proofs.Ab
