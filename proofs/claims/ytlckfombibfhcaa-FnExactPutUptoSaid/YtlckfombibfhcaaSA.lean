/-
  THE ABSTRACT CODE of some of this seat's functions, printed by a program of ours (wip/tool/Gen3.lean) from the translation; each with the theorem that it is that function's.
-/
import Derived.Test.YtlckfombibfhcaaST
set_option linter.unusedVariables false
set_option linter.unusedSimpArgs false
set_option linter.defProp false
namespace Go.Proofs.Ab
open Go.Ab
set_option maxRecDepth 100000
def A.laws_FnExactPut : AFn where
  nargs := 3
  nt := 97
  res := [.tmp 6]
  code := .seq (.keep [1, 2, 3] (.region none [
     ⟨none, (some 3), .box 38 4 (.t 0)⟩,
     ⟨none, (some 6), .mov (.c (.v (.bool false)))⟩]))
   (.seq (.keep [1, 2, 3, 7] (.region none [
     ⟨none, (some 7), .mov (.c (.v (.int .i64 1048576)))⟩]))
   (.seq (.keep [1, 2, 3, 7] (.region none [
     ⟨none, (some 16), .load (some 4) (.t 3)⟩,
     ⟨none, (some 17), .mov (.t 7)⟩,
     ⟨none, (some 18), .call F.laws_szTy [(.t 16), (.t 17)]⟩,
     ⟨none, (some 7), .mov (.t 18)⟩]))
   (.seq (.seq (.keep [1, 2, 3, 7, 20] (.region none [
     ⟨none, (some 19), .mov (.t 7)⟩,
     ⟨none, (some 20), .bin .lss (.t 19) (.c (.v (.int .i64 0)))⟩]))
   (.cond (.t 20)
    (.seq (.keep [6] (.region none [
      ⟨none, (some 6), .mov (.c (.v (.bool true)))⟩]))
    (.ret))
    (.skip)))
   (.seq (.keep [1, 2, 3, 7] (.region none [
     ⟨none, (some 21), .mov (.t 2)⟩,
     ⟨none, (some 22), .mov (.t 7)⟩,
     ⟨none, (some 23), .call F.laws_szTyS [(.t 21), (.t 22)]⟩,
     ⟨none, (some 7), .mov (.t 23)⟩]))
   (.seq (.seq (.keep [1, 2, 3, 25] (.region none [
     ⟨none, (some 24), .mov (.t 7)⟩,
     ⟨none, (some 25), .bin .lss (.t 24) (.c (.v (.int .i64 0)))⟩]))
   (.cond (.t 25)
    (.seq (.keep [6] (.region none [
      ⟨none, (some 6), .mov (.c (.v (.bool true)))⟩]))
    (.ret))
    (.skip)))
   (.seq (.keep [1, 2, 3, 8] (.region none [
     ⟨none, (some 26), .load (some 4) (.t 3)⟩,
     ⟨none, (some 27), .call F.laws_toTy [(.t 26)]⟩,
     ⟨none, (some 28), .mov (.t 1)⟩,
     ⟨none, (some 29), .mov (.t 2)⟩,
     ⟨none, (some 30), .call F.laws_toTyS [(.t 29)]⟩,
     ⟨none, (some 31), .call F.spec_Put [(.t 27), (.t 28), (.t 30)]⟩,
     ⟨none, (some 8), .alloc 43 4 (.agg [(.v (.int .i64 0)), (.v (.int .i64 0)), (.v (.string ⟨#[]⟩)), .nils])⟩,
     ⟨none, none, .store 4 (.t 8) (.t 31)⟩]))
   (.seq (.keep [1, 2, 3, 8, 9] (.region none [
     ⟨none, (some 32), .load (some 4) (.t 3)⟩,
     ⟨none, (some 33), .call F.laws_toTy [(.t 32)]⟩,
     ⟨none, (some 9), .alloc 43 4 (.agg [(.v (.int .i64 0)), (.v (.int .i64 0)), (.v (.string ⟨#[]⟩)), .nils])⟩,
     ⟨none, none, .store 4 (.t 9) (.t 33)⟩]))
   (.seq (.keep [1, 2, 3, 8, 9, 10] (.region none [
     ⟨none, (some 34), .mov (.t 2)⟩,
     ⟨none, (some 35), .call F.laws_toTyS [(.t 34)]⟩,
     ⟨none, (some 10), .mov (.t 35)⟩]))
   (.seq (.keep [1, 2, 3, 8, 9, 10, 11] (.region none [
     ⟨none, (some 36), .load (some 4) (.t 9)⟩,
     ⟨none, (some 37), .mov (.t 1)⟩,
     ⟨none, (some 38), .mov (.t 10)⟩,
     ⟨none, (some 39), .call F.impl_Put [(.t 36), (.t 37), (.t 38)]⟩,
     ⟨none, (some 11), .alloc 43 4 (.agg [(.v (.int .i64 0)), (.v (.int .i64 0)), (.v (.string ⟨#[]⟩)), .nils])⟩,
     ⟨none, none, .store 4 (.t 11) (.t 39)⟩]))
   (.seq (.seq (.keep [1, 2, 3, 8, 9, 10, 11, 43] (.region none [
     ⟨none, (some 40), .load (some 4) (.t 11)⟩,
     ⟨none, (some 41), .load (some 4) (.t 8)⟩,
     ⟨none, (some 42), .call F.laws_eqTy [(.t 40), (.t 41)]⟩,
     ⟨none, (some 43), .un .not (.t 42)⟩]))
   (.cond (.t 43)
    (.seq (.keep [6] (.region none [
      ⟨none, (some 6), .mov (.c (.v (.bool false)))⟩]))
    (.ret))
    (.skip)))
   (.seq (.seq (.keep [1, 2, 3, 8, 9, 10, 11, 48] (.region (some [[], [], [1], [0, 2, 2], [3]]) [
     ⟨none, (some 44), .load (some 4) (.t 9)⟩,
     ⟨none, (some 45), .load (some 4) (.t 3)⟩,
     ⟨none, (some 46), .qcall F.laws_toTy [(.t 45)]⟩,
     ⟨none, (some 47), .call F.laws_eqTy [(.t 44), (.t 46)]⟩,
     ⟨none, (some 48), .un .not (.t 47)⟩]))
   (.cond (.t 48)
    (.seq (.keep [6] (.region none [
      ⟨none, (some 6), .mov (.c (.v (.bool false)))⟩]))
    (.ret))
    (.skip)))
   (.seq (.seq (.keep [1, 2, 3, 8, 9, 10, 11, 53] (.region none [
     ⟨none, (some 49), .mov (.t 10)⟩,
     ⟨none, (some 50), .mov (.t 2)⟩,
     ⟨none, (some 51), .call F.laws_toTyS [(.t 50)]⟩,
     ⟨none, (some 52), .call F.laws_eqTyS [(.t 49), (.t 51)]⟩,
     ⟨none, (some 53), .un .not (.t 52)⟩]))
   (.cond (.t 53)
    (.seq (.keep [6] (.region none [
      ⟨none, (some 6), .mov (.c (.v (.bool false)))⟩]))
    (.ret))
    (.skip)))
   (.seq (.keep [1, 2, 3, 8, 9, 10, 11, 12] (.region none [
     ⟨none, (some 12), .mov (.c (.v (.int .i64 1)))⟩]))
   (.seq (.keep [1, 2, 3, 8, 10, 11, 12] (.region none [
     ⟨none, (some 54), .load (some 4) (.t 9)⟩,
     ⟨none, (some 55), .mov (.t 12)⟩,
     ⟨none, (some 56), .call F.laws_markTy [(.t 54), (.t 55)]⟩,
     ⟨none, (some 12), .mov (.t 56)⟩]))
   (.seq (.keep [1, 2, 3, 8, 11, 12] (.region none [
     ⟨none, (some 57), .mov (.t 10)⟩,
     ⟨none, (some 58), .mov (.t 12)⟩,
     ⟨none, (some 59), .call F.laws_markTyS [(.t 57), (.t 58)]⟩,
     ⟨none, (some 12), .mov (.t 59)⟩]))
   (.seq (.seq (.keep [1, 2, 3, 8, 11, 67] (.region none [
     ⟨none, (some 60), .mov (.t 12)⟩,
     ⟨none, (some 61), .bin .lss (.t 60) (.c (.v (.int .i64 0)))⟩,
     ⟨none, (some 62), .mov (.t 61)⟩,
     ⟨(some (62, false)), (some 63), .load (some 4) (.t 11)⟩,
     ⟨(some (62, false)), (some 64), .load (some 4) (.t 8)⟩,
     ⟨(some (62, false)), (some 65), .call F.laws_eqTy [(.t 63), (.t 64)]⟩,
     ⟨(some (62, false)), (some 66), .un .not (.t 65)⟩,
     ⟨none, (some 67), .pick (.t 62) (.c (.v (.bool true))) (.t 66)⟩]))
   (.cond (.t 67)
    (.seq (.keep [6] (.region none [
      ⟨none, (some 6), .mov (.c (.v (.bool false)))⟩]))
    (.ret))
    (.skip)))
   (.seq (.keep [1, 2, 3, 8, 11, 13] (.region none [
     ⟨none, (some 13), .mov (.c (.v (.int .i64 1)))⟩]))
   (.seq (.keep [1, 2, 3, 8, 11, 13] (.region none [
     ⟨none, (some 68), .load (some 4) (.t 11)⟩,
     ⟨none, (some 69), .mov (.t 13)⟩,
     ⟨none, (some 70), .call F.laws_markTy [(.t 68), (.t 69)]⟩,
     ⟨none, (some 13), .mov (.t 70)⟩]))
   (.seq (.keep [1, 2, 3, 8, 11, 13, 14] (.region none [
     ⟨none, (some 14), .mov (.c (.v (.int .i64 1)))⟩]))
   (.seq (.keep [1, 2, 3, 8, 11, 13, 14] (.region none [
     ⟨none, (some 71), .load (some 4) (.t 11)⟩,
     ⟨none, (some 72), .mov (.t 14)⟩,
     ⟨none, (some 73), .call F.laws_heldTy [(.t 71), (.t 72)]⟩,
     ⟨none, (some 14), .mov (.t 73)⟩]))
   (.seq (.seq (.keep [1, 2, 3, 8, 11, 13, 14, 75] (.region none [
     ⟨none, (some 74), .mov (.t 14)⟩,
     ⟨none, (some 75), .bin .lss (.t 74) (.c (.v (.int .i64 0)))⟩]))
   (.cond (.t 75)
    (.seq (.keep [6] (.region none [
      ⟨none, (some 6), .mov (.c (.v (.bool false)))⟩]))
    (.ret))
    (.skip)))
   (.seq (.seq (.keep [1, 2, 3, 8, 11, 13, 78] (.region none [
     ⟨none, (some 76), .mov (.t 14)⟩,
     ⟨none, (some 77), .mov (.t 13)⟩,
     ⟨none, (some 78), .bin .neq (.t 76) (.t 77)⟩]))
   (.cond (.t 78)
    (.seq (.keep [6] (.region none [
      ⟨none, (some 6), .mov (.c (.v (.bool false)))⟩]))
    (.ret))
    (.skip)))
   (.seq (.keep [8, 11, 13, 15] (.region none [
     ⟨none, (some 79), .load (some 4) (.t 3)⟩,
     ⟨none, (some 80), .call F.laws_toTy [(.t 79)]⟩,
     ⟨none, (some 81), .mov (.t 1)⟩,
     ⟨none, (some 82), .mov (.t 2)⟩,
     ⟨none, (some 83), .call F.laws_toTyS [(.t 82)]⟩,
     ⟨none, (some 84), .call F.impl_Put [(.t 80), (.t 81), (.t 83)]⟩,
     ⟨none, (some 15), .alloc 43 4 (.agg [(.v (.int .i64 0)), (.v (.int .i64 0)), (.v (.string ⟨#[]⟩)), .nils])⟩,
     ⟨none, none, .store 4 (.t 15) (.t 84)⟩]))
   (.seq (.seq (.keep [11, 13, 88] (.region none [
     ⟨none, (some 85), .load (some 4) (.t 15)⟩,
     ⟨none, (some 86), .load (some 4) (.t 8)⟩,
     ⟨none, (some 87), .call F.laws_eqTy [(.t 85), (.t 86)]⟩,
     ⟨none, (some 88), .un .not (.t 87)⟩]))
   (.cond (.t 88)
    (.seq (.keep [6] (.region none [
      ⟨none, (some 6), .mov (.c (.v (.bool false)))⟩]))
    (.ret))
    (.skip)))
   (.seq (.keep [11, 13, 14] (.region none [
     ⟨none, (some 14), .mov (.c (.v (.int .i64 1)))⟩]))
   (.seq (.keep [13, 14] (.region none [
     ⟨none, (some 89), .load (some 4) (.t 11)⟩,
     ⟨none, (some 90), .mov (.t 14)⟩,
     ⟨none, (some 91), .call F.laws_heldTy [(.t 89), (.t 90)]⟩,
     ⟨none, (some 14), .mov (.t 91)⟩]))
   (.seq (.seq (.keep [13, 14, 93] (.region none [
     ⟨none, (some 92), .mov (.t 14)⟩,
     ⟨none, (some 93), .bin .lss (.t 92) (.c (.v (.int .i64 0)))⟩]))
   (.cond (.t 93)
    (.seq (.keep [6] (.region none [
      ⟨none, (some 6), .mov (.c (.v (.bool false)))⟩]))
    (.ret))
    (.skip)))
   (.seq (.seq (.keep [96] (.region none [
     ⟨none, (some 94), .mov (.t 14)⟩,
     ⟨none, (some 95), .mov (.t 13)⟩,
     ⟨none, (some 96), .bin .neq (.t 94) (.t 95)⟩]))
   (.cond (.t 96)
    (.seq (.keep [6] (.region none [
      ⟨none, (some 6), .mov (.c (.v (.bool false)))⟩]))
    (.ret))
    (.skip)))
   (.seq (.keep [6] (.region none [
     ⟨none, (some 6), .mov (.c (.v (.bool true)))⟩]))
   (.ret))))))))))))))))))))))))))))))
theorem A.laws_FnExactPut_ok : cFn Try.prog F.laws_FnExactPut A.laws_FnExactPut :=
  ⟨_, _, Try.func5, rfl, by kernel_rfl, rfl, by decide, by kernel_rfl, by kernel_rfl⟩
def A.laws_toTy : AFn where
  nargs := 1
  nt := 18
  res := [.cell 2 (some 4)]
  code := .seq (.keep [1, 2] (.region none [
     ⟨none, (some 1), .box 38 4 (.t 0)⟩,
     ⟨none, (some 2), .alloc 43 4 (.agg [(.v (.int .i64 0)), (.v (.int .i64 0)), (.v (.string ⟨#[]⟩)), .nils])⟩]))
   (.seq (.keep [1, 2, 3] (.region none [
     ⟨none, (some 3), .alloc 43 4 (.agg [(.v (.int .i64 0)), (.v (.int .i64 0)), (.v (.string ⟨#[]⟩)), .nils])⟩]))
   (.seq (.keep [1, 2, 3] (.region none [
     ⟨none, (some 4), .faddr 0 (.t 1)⟩,
     ⟨none, (some 5), .load none (.t 4)⟩,
     ⟨none, (some 6), .faddr 0 (.t 3)⟩,
     ⟨none, none, .store 1 (.t 6) (.t 5)⟩]))
   (.seq (.keep [1, 2, 3] (.region none [
     ⟨none, (some 7), .faddr 1 (.t 1)⟩,
     ⟨none, (some 8), .load none (.t 7)⟩,
     ⟨none, (some 9), .faddr 1 (.t 3)⟩,
     ⟨none, none, .store 1 (.t 9) (.t 8)⟩]))
   (.seq (.keep [1, 2, 3] (.region none [
     ⟨none, (some 10), .faddr 2 (.t 1)⟩,
     ⟨none, (some 11), .load none (.t 10)⟩,
     ⟨none, (some 12), .faddr 2 (.t 3)⟩,
     ⟨none, none, .store 1 (.t 12) (.t 11)⟩]))
   (.seq (.keep [2, 3] (.region none [
     ⟨none, (some 13), .faddr 3 (.t 1)⟩,
     ⟨none, (some 14), .load none (.t 13)⟩,
     ⟨none, (some 15), .call F.laws_toTyS [(.t 14)]⟩,
     ⟨none, (some 16), .faddr 3 (.t 3)⟩,
     ⟨none, none, .store 1 (.t 16) (.t 15)⟩]))
   (.seq (.keep [2] (.region none [
     ⟨none, (some 17), .load (some 4) (.t 3)⟩,
     ⟨none, none, .store 4 (.t 2) (.t 17)⟩]))
   (.ret)))))))
theorem A.laws_toTy_ok : cFn Try.prog F.laws_toTy A.laws_toTy :=
  ⟨_, _, Try.func17, rfl, by kernel_rfl, rfl, by decide, by kernel_rfl, by kernel_rfl⟩
def A.laws_markTy : AFn where
  nargs := 2
  nt := 10
  res := [.tmp 4]
  code := .seq (.keep [1, 2] (.region none [
     ⟨none, (some 2), .box 43 4 (.t 0)⟩,
     ⟨none, (some 4), .mov (.c (.v (.int .i64 0)))⟩]))
   (.seq (.keep [1] (.region none [
     ⟨none, (some 5), .faddr 3 (.t 2)⟩,
     ⟨none, (some 6), .load none (.t 5)⟩,
     ⟨none, (some 7), .mov (.t 1)⟩,
     ⟨none, (some 8), .call F.laws_markTyS [(.t 6), (.t 7)]⟩,
     ⟨none, (some 1), .mov (.t 8)⟩]))
   (.seq (.keep [4] (.region none [
     ⟨none, (some 9), .mov (.t 1)⟩,
     ⟨none, (some 4), .mov (.t 9)⟩]))
   (.ret)))
theorem A.laws_markTy_ok : cFn Try.prog F.laws_markTy A.laws_markTy :=
  ⟨_, _, Try.func21, rfl, by kernel_rfl, rfl, by decide, by kernel_rfl, by kernel_rfl⟩
def A.laws_toTyS : AFn where
  nargs := 1
  nt := 23
  res := [.tmp 2]
  code := .seq (.keep [0] (.region none [
     ⟨none, (some 2), .mov (.c .nils)⟩]))
   (.seq (.keep [0, 3] (.region none [
     ⟨none, (some 5), .mov (.t 0)⟩,
     ⟨none, (some 6), .lenL (.t 5)⟩,
     ⟨none, (some 7), .mk 43 4 56 (.agg [(.v (.int .i64 0)), (.v (.int .i64 0)), (.v (.string ⟨#[]⟩)), .nils]) (.t 6) (.t 6)⟩,
     ⟨none, (some 3), .mov (.t 7)⟩]))
   (.seq (.seq (.keep [0, 3, 4] (.region none [
     ⟨none, (some 4), .mov (.c (.v (.int .i64 0)))⟩]))
   (.block 0 (.loop (.seq (.seq (.keep [0, 3, 4, 11] (.region none [
       ⟨none, (some 8), .mov (.t 4)⟩,
       ⟨none, (some 9), .mov (.t 0)⟩,
       ⟨none, (some 10), .lenL (.t 9)⟩,
       ⟨none, (some 11), .bin .lss (.t 8) (.t 10)⟩]))
     (.cond (.t 11)
      (.skip)
      (.exit 0)))
     (.seq (.block 1 (.keep [0, 3, 4] (.region none [
        ⟨none, (some 14), .mov (.t 3)⟩,
        ⟨none, (some 15), .mov (.t 4)⟩,
        ⟨none, (some 16), .mov (.t 0)⟩,
        ⟨none, (some 17), .mov (.t 4)⟩,
        ⟨none, (some 18), .iaddr 4 (.t 16) (.t 17)⟩,
        ⟨none, (some 19), .load (some 4) (.t 18)⟩,
        ⟨none, (some 20), .call F.laws_toTy [(.t 19)]⟩,
        ⟨none, (some 21), .iaddr 4 (.t 14) (.t 15)⟩,
        ⟨none, none, .store 4 (.t 21) (.t 20)⟩])))
     (.keep [0, 3, 4] (.region none [
       ⟨none, (some 12), .mov (.t 4)⟩,
       ⟨none, (some 13), .bin .add (.t 12) (.c (.v (.int .i64 1)))⟩,
       ⟨none, (some 4), .mov (.t 13)⟩])))))))
   (.seq (.keep [2] (.region none [
     ⟨none, (some 22), .mov (.t 3)⟩,
     ⟨none, (some 2), .mov (.t 22)⟩]))
   (.ret))))
theorem A.laws_toTyS_ok : cFn Try.prog F.laws_toTyS A.laws_toTyS :=
  ⟨_, _, Try.func26, rfl, by kernel_rfl, rfl, by decide, by kernel_rfl, by kernel_rfl⟩
def A.laws_markTyS : AFn where
  nargs := 2
  nt := 42
  res := [.tmp 4]
  code := .seq (.keep [0, 1] (.region none [
     ⟨none, (some 4), .mov (.c (.v (.int .i64 0)))⟩]))
   (.seq (.seq (.keep [0, 1, 5] (.region none [
     ⟨none, (some 5), .mov (.c (.v (.int .i64 0)))⟩]))
   (.block 0 (.loop (.seq (.seq (.keep [0, 1, 5, 9] (.region none [
       ⟨none, (some 6), .mov (.t 5)⟩,
       ⟨none, (some 7), .mov (.t 0)⟩,
       ⟨none, (some 8), .lenL (.t 7)⟩,
       ⟨none, (some 9), .bin .lss (.t 6) (.t 8)⟩]))
     (.cond (.t 9)
      (.skip)
      (.exit 0)))
     (.seq (.block 1 (.seq (.keep [0, 1, 5] (.region none [
        ⟨none, (some 12), .mov (.t 0)⟩,
        ⟨none, (some 13), .mov (.t 5)⟩,
        ⟨none, (some 14), .mov (.t 1)⟩,
        ⟨none, (some 15), .iaddr 4 (.t 12) (.t 13)⟩,
        ⟨none, (some 16), .faddr 0 (.t 15)⟩,
        ⟨none, none, .store 1 (.t 16) (.t 14)⟩]))
      (.seq (.keep [0, 1, 5] (.region none [
        ⟨none, (some 17), .mov (.t 1)⟩,
        ⟨none, (some 18), .bin .add (.t 17) (.c (.v (.int .i64 1)))⟩,
        ⟨none, (some 1), .mov (.t 18)⟩]))
      (.seq (.keep [0, 1, 5] (.region none [
        ⟨none, (some 19), .mov (.t 0)⟩,
        ⟨none, (some 20), .mov (.t 5)⟩,
        ⟨none, (some 21), .mov (.t 1)⟩,
        ⟨none, (some 22), .iaddr 4 (.t 19) (.t 20)⟩,
        ⟨none, (some 23), .faddr 1 (.t 22)⟩,
        ⟨none, none, .store 1 (.t 23) (.t 21)⟩]))
      (.seq (.keep [0, 1, 5] (.region none [
        ⟨none, (some 24), .mov (.t 1)⟩,
        ⟨none, (some 25), .bin .add (.t 24) (.c (.v (.int .i64 1)))⟩,
        ⟨none, (some 1), .mov (.t 25)⟩]))
      (.seq (.keep [0, 1, 5] (.region none [
        ⟨none, (some 26), .mov (.t 0)⟩,
        ⟨none, (some 27), .mov (.t 5)⟩,
        ⟨none, (some 28), .mov (.t 1)⟩,
        ⟨none, (some 29), .call F.laws_markText [(.t 28)]⟩,
        ⟨none, (some 30), .iaddr 4 (.t 26) (.t 27)⟩,
        ⟨none, (some 31), .faddr 2 (.t 30)⟩,
        ⟨none, none, .store 1 (.t 31) (.t 29)⟩]))
      (.seq (.keep [0, 1, 5] (.region none [
        ⟨none, (some 32), .mov (.t 1)⟩,
        ⟨none, (some 33), .bin .add (.t 32) (.c (.v (.int .i64 1)))⟩,
        ⟨none, (some 1), .mov (.t 33)⟩]))
      (.keep [0, 1, 5] (.region none [
        ⟨none, (some 34), .mov (.t 0)⟩,
        ⟨none, (some 35), .mov (.t 5)⟩,
        ⟨none, (some 36), .iaddr 4 (.t 34) (.t 35)⟩,
        ⟨none, (some 37), .faddr 3 (.t 36)⟩,
        ⟨none, (some 38), .load none (.t 37)⟩,
        ⟨none, (some 39), .mov (.t 1)⟩,
        ⟨none, (some 40), .call F.laws_markTyS [(.t 38), (.t 39)]⟩,
        ⟨none, (some 1), .mov (.t 40)⟩])))))))))
     (.keep [0, 1, 5] (.region none [
       ⟨none, (some 10), .mov (.t 5)⟩,
       ⟨none, (some 11), .bin .add (.t 10) (.c (.v (.int .i64 1)))⟩,
       ⟨none, (some 5), .mov (.t 11)⟩])))))))
   (.seq (.keep [4] (.region none [
     ⟨none, (some 41), .mov (.t 1)⟩,
     ⟨none, (some 4), .mov (.t 41)⟩]))
   (.ret)))
theorem A.laws_markTyS_ok : cFn Try.prog F.laws_markTyS A.laws_markTyS :=
  ⟨_, _, Try.func29, rfl, by kernel_rfl, rfl, by decide, by kernel_rfl, by kernel_rfl⟩
end Go.Proofs.Ab
