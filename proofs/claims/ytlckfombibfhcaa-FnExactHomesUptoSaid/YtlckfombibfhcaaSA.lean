/-
  THE ABSTRACT CODE of some of this seat's functions, printed by a program of ours (wip/tool/Gen3.lean) from the translation; each with the theorem that it is that function's.
-/
import Derived.Test.YtlckfombibfhcaaST
set_option linter.unusedVariables false
set_option linter.unusedSimpArgs false
set_option linter.defProp false
namespace Go.Proofs.Ab
open Go.Ab
set_option maxRecDepth 100000
def A.laws_FnExactHomes : AFn where
  nargs := 2
  nt := 101
  res := [.tmp 4]
  code := .seq (.keep [1, 2] (.region none [
     ⟨none, (some 2), .box 59 11 (.t 0)⟩,
     ⟨none, (some 4), .mov (.c (.v (.bool false)))⟩]))
   (.seq (.keep [1, 2, 5] (.region none [
     ⟨none, (some 5), .mov (.c (.v (.int .i64 1048576)))⟩]))
   (.seq (.keep [1, 2, 5] (.region none [
     ⟨none, (some 16), .load (some 11) (.t 2)⟩,
     ⟨none, (some 17), .mov (.t 5)⟩,
     ⟨none, (some 18), .call F.laws_szKTerm [(.t 16), (.t 17)]⟩,
     ⟨none, (some 5), .mov (.t 18)⟩]))
   (.seq (.seq (.keep [1, 2, 20] (.region none [
     ⟨none, (some 19), .mov (.t 5)⟩,
     ⟨none, (some 20), .bin .lss (.t 19) (.c (.v (.int .i64 0)))⟩]))
   (.cond (.t 20)
    (.seq (.keep [4] (.region none [
      ⟨none, (some 4), .mov (.c (.v (.bool true)))⟩]))
    (.ret))
    (.skip)))
   (.seq (.keep [1, 2, 6, 7] (.region none [
     ⟨none, (some 22), .load (some 11) (.t 2)⟩,
     ⟨none, (some 23), .call F.laws_toKTerm [(.t 22)]⟩,
     ⟨none, (some 24), .mov (.t 1)⟩,
     ⟨none, (some 25), .call F.spec_Homes [(.t 23), (.t 24)]⟩,
     ⟨none, (some 21), .mov (.t 25)⟩,
     ⟨none, (some 26), .ext (.t 21) 0⟩,
     ⟨none, (some 27), .ext (.t 21) 1⟩,
     ⟨none, (some 6), .mov (.t 26)⟩,
     ⟨none, (some 7), .mov (.t 27)⟩]))
   (.seq (.keep [1, 2, 6, 7, 8] (.region none [
     ⟨none, (some 28), .load (some 11) (.t 2)⟩,
     ⟨none, (some 29), .call F.laws_toKTerm [(.t 28)]⟩,
     ⟨none, (some 8), .alloc 65 11 (.agg [(.v (.int .i64 0)), (.v (.string ⟨#[]⟩)), (.v (.int .i64 0)), (.v (.int .i64 0)), (.v (.int .i64 0)), (.v (.int .i64 0)), (.v (.string ⟨#[]⟩)), .nils, .nils, .nils, .nils])⟩,
     ⟨none, none, .store 11 (.t 8) (.t 29)⟩]))
   (.seq (.keep [1, 2, 6, 7, 8, 9, 10] (.region none [
     ⟨none, (some 31), .load (some 11) (.t 8)⟩,
     ⟨none, (some 32), .mov (.t 1)⟩,
     ⟨none, (some 33), .call F.impl_Homes [(.t 31), (.t 32)]⟩,
     ⟨none, (some 30), .mov (.t 33)⟩,
     ⟨none, (some 34), .ext (.t 30) 0⟩,
     ⟨none, (some 35), .ext (.t 30) 1⟩,
     ⟨none, (some 9), .mov (.t 34)⟩,
     ⟨none, (some 10), .mov (.t 35)⟩]))
   (.seq (.seq (.keep [1, 2, 6, 7, 8, 9, 10, 44] (.region none [
     ⟨none, (some 36), .mov (.t 9)⟩,
     ⟨none, (some 37), .mov (.t 6)⟩,
     ⟨none, (some 38), .call F.laws_eqIntS [(.t 36), (.t 37)]⟩,
     ⟨none, (some 39), .un .not (.t 38)⟩,
     ⟨none, (some 40), .mov (.t 39)⟩,
     ⟨(some (40, false)), (some 41), .mov (.t 10)⟩,
     ⟨(some (40, false)), (some 42), .mov (.t 7)⟩,
     ⟨(some (40, false)), (some 43), .beq true (.t 41) (.t 42)⟩,
     ⟨none, (some 44), .pick (.t 40) (.c (.v (.bool true))) (.t 43)⟩]))
   (.cond (.t 44)
    (.seq (.keep [4] (.region none [
      ⟨none, (some 4), .mov (.c (.v (.bool false)))⟩]))
    (.ret))
    (.skip)))
   (.seq (.seq (.keep [1, 2, 6, 7, 8, 9, 10, 49] (.region (some [[], [], [1], [0, 2, 2], [3]]) [
     ⟨none, (some 45), .load (some 11) (.t 8)⟩,
     ⟨none, (some 46), .load (some 11) (.t 2)⟩,
     ⟨none, (some 47), .qcall F.laws_toKTerm [(.t 46)]⟩,
     ⟨none, (some 48), .call F.laws_eqKTerm [(.t 45), (.t 47)]⟩,
     ⟨none, (some 49), .un .not (.t 48)⟩]))
   (.cond (.t 49)
    (.seq (.keep [4] (.region none [
      ⟨none, (some 4), .mov (.c (.v (.bool false)))⟩]))
    (.ret))
    (.skip)))
   (.seq (.keep [1, 2, 6, 7, 8, 9, 10, 11] (.region none [
     ⟨none, (some 11), .mov (.c (.v (.int .i64 1)))⟩]))
   (.seq (.keep [1, 2, 6, 7, 9, 10, 11] (.region none [
     ⟨none, (some 50), .load (some 11) (.t 8)⟩,
     ⟨none, (some 51), .mov (.t 11)⟩,
     ⟨none, (some 52), .call F.laws_markKTerm [(.t 50), (.t 51)]⟩,
     ⟨none, (some 11), .mov (.t 52)⟩]))
   (.seq (.seq (.keep [1, 2, 6, 7, 9, 65] (.region none [
     ⟨none, (some 53), .mov (.t 11)⟩,
     ⟨none, (some 54), .bin .lss (.t 53) (.c (.v (.int .i64 0)))⟩,
     ⟨none, (some 55), .mov (.t 54)⟩,
     ⟨(some (55, false)), (some 56), .mov (.t 9)⟩,
     ⟨(some (55, false)), (some 57), .mov (.t 6)⟩,
     ⟨(some (55, false)), (some 58), .call F.laws_eqIntS [(.t 56), (.t 57)]⟩,
     ⟨(some (55, false)), (some 59), .un .not (.t 58)⟩,
     ⟨none, (some 60), .pick (.t 55) (.c (.v (.bool true))) (.t 59)⟩,
     ⟨none, (some 61), .mov (.t 60)⟩,
     ⟨(some (61, false)), (some 62), .mov (.t 10)⟩,
     ⟨(some (61, false)), (some 63), .mov (.t 7)⟩,
     ⟨(some (61, false)), (some 64), .beq true (.t 62) (.t 63)⟩,
     ⟨none, (some 65), .pick (.t 61) (.c (.v (.bool true))) (.t 64)⟩]))
   (.cond (.t 65)
    (.seq (.keep [4] (.region none [
      ⟨none, (some 4), .mov (.c (.v (.bool false)))⟩]))
    (.ret))
    (.skip)))
   (.seq (.keep [1, 2, 6, 7, 9, 12] (.region none [
     ⟨none, (some 12), .mov (.c (.v (.int .i64 1)))⟩]))
   (.seq (.keep [1, 2, 6, 7, 9, 12] (.region none [
     ⟨none, (some 66), .mov (.t 9)⟩,
     ⟨none, (some 67), .mov (.t 12)⟩,
     ⟨none, (some 68), .call F.laws_markIntS [(.t 66), (.t 67)]⟩,
     ⟨none, (some 12), .mov (.t 68)⟩]))
   (.seq (.keep [1, 2, 6, 7, 9, 12, 13] (.region none [
     ⟨none, (some 13), .mov (.c (.v (.int .i64 1)))⟩]))
   (.seq (.keep [1, 2, 6, 7, 9, 12, 13] (.region none [
     ⟨none, (some 69), .mov (.t 9)⟩,
     ⟨none, (some 70), .mov (.t 13)⟩,
     ⟨none, (some 71), .call F.laws_heldIntS [(.t 69), (.t 70)]⟩,
     ⟨none, (some 13), .mov (.t 71)⟩]))
   (.seq (.seq (.keep [1, 2, 6, 7, 9, 12, 13, 73] (.region none [
     ⟨none, (some 72), .mov (.t 13)⟩,
     ⟨none, (some 73), .bin .lss (.t 72) (.c (.v (.int .i64 0)))⟩]))
   (.cond (.t 73)
    (.seq (.keep [4] (.region none [
      ⟨none, (some 4), .mov (.c (.v (.bool false)))⟩]))
    (.ret))
    (.skip)))
   (.seq (.seq (.keep [1, 2, 6, 7, 9, 12, 76] (.region none [
     ⟨none, (some 74), .mov (.t 13)⟩,
     ⟨none, (some 75), .mov (.t 12)⟩,
     ⟨none, (some 76), .bin .neq (.t 74) (.t 75)⟩]))
   (.cond (.t 76)
    (.seq (.keep [4] (.region none [
      ⟨none, (some 4), .mov (.c (.v (.bool false)))⟩]))
    (.ret))
    (.skip)))
   (.seq (.keep [6, 7, 9, 12, 14, 15] (.region none [
     ⟨none, (some 78), .load (some 11) (.t 2)⟩,
     ⟨none, (some 79), .call F.laws_toKTerm [(.t 78)]⟩,
     ⟨none, (some 80), .mov (.t 1)⟩,
     ⟨none, (some 81), .call F.impl_Homes [(.t 79), (.t 80)]⟩,
     ⟨none, (some 77), .mov (.t 81)⟩,
     ⟨none, (some 82), .ext (.t 77) 0⟩,
     ⟨none, (some 83), .ext (.t 77) 1⟩,
     ⟨none, (some 14), .mov (.t 82)⟩,
     ⟨none, (some 15), .mov (.t 83)⟩]))
   (.seq (.seq (.keep [9, 12, 92] (.region none [
     ⟨none, (some 84), .mov (.t 14)⟩,
     ⟨none, (some 85), .mov (.t 6)⟩,
     ⟨none, (some 86), .call F.laws_eqIntS [(.t 84), (.t 85)]⟩,
     ⟨none, (some 87), .un .not (.t 86)⟩,
     ⟨none, (some 88), .mov (.t 87)⟩,
     ⟨(some (88, false)), (some 89), .mov (.t 15)⟩,
     ⟨(some (88, false)), (some 90), .mov (.t 7)⟩,
     ⟨(some (88, false)), (some 91), .beq true (.t 89) (.t 90)⟩,
     ⟨none, (some 92), .pick (.t 88) (.c (.v (.bool true))) (.t 91)⟩]))
   (.cond (.t 92)
    (.seq (.keep [4] (.region none [
      ⟨none, (some 4), .mov (.c (.v (.bool false)))⟩]))
    (.ret))
    (.skip)))
   (.seq (.keep [9, 12, 13] (.region none [
     ⟨none, (some 13), .mov (.c (.v (.int .i64 1)))⟩]))
   (.seq (.keep [12, 13] (.region none [
     ⟨none, (some 93), .mov (.t 9)⟩,
     ⟨none, (some 94), .mov (.t 13)⟩,
     ⟨none, (some 95), .call F.laws_heldIntS [(.t 93), (.t 94)]⟩,
     ⟨none, (some 13), .mov (.t 95)⟩]))
   (.seq (.seq (.keep [12, 13, 97] (.region none [
     ⟨none, (some 96), .mov (.t 13)⟩,
     ⟨none, (some 97), .bin .lss (.t 96) (.c (.v (.int .i64 0)))⟩]))
   (.cond (.t 97)
    (.seq (.keep [4] (.region none [
      ⟨none, (some 4), .mov (.c (.v (.bool false)))⟩]))
    (.ret))
    (.skip)))
   (.seq (.seq (.keep [100] (.region none [
     ⟨none, (some 98), .mov (.t 13)⟩,
     ⟨none, (some 99), .mov (.t 12)⟩,
     ⟨none, (some 100), .bin .neq (.t 98) (.t 99)⟩]))
   (.cond (.t 100)
    (.seq (.keep [4] (.region none [
      ⟨none, (some 4), .mov (.c (.v (.bool false)))⟩]))
    (.ret))
    (.skip)))
   (.seq (.keep [4] (.region none [
     ⟨none, (some 4), .mov (.c (.v (.bool true)))⟩]))
   (.ret)))))))))))))))))))))))))
theorem A.laws_FnExactHomes_ok : cFn Try.prog F.laws_FnExactHomes A.laws_FnExactHomes :=
  ⟨_, _, Try.func7, rfl, by kernel_rfl, rfl, by decide, by kernel_rfl, by kernel_rfl⟩
def A.laws_toTy : AFn where
  nargs := 1
  nt := 18
  res := [.cell 2 (some 4)]
  code := .seq (.keep [1, 2] (.region none [
     ⟨none, (some 1), .box 38 4 (.t 0)⟩,
     ⟨none, (some 2), .alloc 43 4 (.agg [(.v (.int .i64 0)), (.v (.int .i64 0)), (.v (.string ⟨#[]⟩)), .nils])⟩]))
   (.seq (.keep [1, 2, 3] (.region none [
     ⟨none, (some 3), .alloc 43 4 (.agg [(.v (.int .i64 0)), (.v (.int .i64 0)), (.v (.string ⟨#[]⟩)), .nils])⟩]))
   (.seq (.keep [1, 2, 3] (.region none [
     ⟨none, (some 4), .faddr 0 (.t 1)⟩,
     ⟨none, (some 5), .load none (.t 4)⟩,
     ⟨none, (some 6), .faddr 0 (.t 3)⟩,
     ⟨none, none, .store 1 (.t 6) (.t 5)⟩]))
   (.seq (.keep [1, 2, 3] (.region none [
     ⟨none, (some 7), .faddr 1 (.t 1)⟩,
     ⟨none, (some 8), .load none (.t 7)⟩,
     ⟨none, (some 9), .faddr 1 (.t 3)⟩,
     ⟨none, none, .store 1 (.t 9) (.t 8)⟩]))
   (.seq (.keep [1, 2, 3] (.region none [
     ⟨none, (some 10), .faddr 2 (.t 1)⟩,
     ⟨none, (some 11), .load none (.t 10)⟩,
     ⟨none, (some 12), .faddr 2 (.t 3)⟩,
     ⟨none, none, .store 1 (.t 12) (.t 11)⟩]))
   (.seq (.keep [2, 3] (.region none [
     ⟨none, (some 13), .faddr 3 (.t 1)⟩,
     ⟨none, (some 14), .load none (.t 13)⟩,
     ⟨none, (some 15), .call F.laws_toTyS [(.t 14)]⟩,
     ⟨none, (some 16), .faddr 3 (.t 3)⟩,
     ⟨none, none, .store 1 (.t 16) (.t 15)⟩]))
   (.seq (.keep [2] (.region none [
     ⟨none, (some 17), .load (some 4) (.t 3)⟩,
     ⟨none, none, .store 4 (.t 2) (.t 17)⟩]))
   (.ret)))))))
theorem A.laws_toTy_ok : cFn Try.prog F.laws_toTy A.laws_toTy :=
  ⟨_, _, Try.func17, rfl, by kernel_rfl, rfl, by decide, by kernel_rfl, by kernel_rfl⟩
def A.laws_markTy : AFn where
  nargs := 2
  nt := 10
  res := [.tmp 4]
  code := .seq (.keep [1, 2] (.region none [
     ⟨none, (some 2), .box 43 4 (.t 0)⟩,
     ⟨none, (some 4), .mov (.c (.v (.int .i64 0)))⟩]))
   (.seq (.keep [1] (.region none [
     ⟨none, (some 5), .faddr 3 (.t 2)⟩,
     ⟨none, (some 6), .load none (.t 5)⟩,
     ⟨none, (some 7), .mov (.t 1)⟩,
     ⟨none, (some 8), .call F.laws_markTyS [(.t 6), (.t 7)]⟩,
     ⟨none, (some 1), .mov (.t 8)⟩]))
   (.seq (.keep [4] (.region none [
     ⟨none, (some 9), .mov (.t 1)⟩,
     ⟨none, (some 4), .mov (.t 9)⟩]))
   (.ret)))
theorem A.laws_markTy_ok : cFn Try.prog F.laws_markTy A.laws_markTy :=
  ⟨_, _, Try.func21, rfl, by kernel_rfl, rfl, by decide, by kernel_rfl, by kernel_rfl⟩
def A.laws_toTyS : AFn where
  nargs := 1
  nt := 23
  res := [.tmp 2]
  code := .seq (.keep [0] (.region none [
     ⟨none, (some 2), .mov (.c .nils)⟩]))
   (.seq (.keep [0, 3] (.region none [
     ⟨none, (some 5), .mov (.t 0)⟩,
     ⟨none, (some 6), .lenL (.t 5)⟩,
     ⟨none, (some 7), .mk 43 4 56 (.agg [(.v (.int .i64 0)), (.v (.int .i64 0)), (.v (.string ⟨#[]⟩)), .nils]) (.t 6) (.t 6)⟩,
     ⟨none, (some 3), .mov (.t 7)⟩]))
   (.seq (.seq (.keep [0, 3, 4] (.region none [
     ⟨none, (some 4), .mov (.c (.v (.int .i64 0)))⟩]))
   (.block 0 (.loop (.seq (.seq (.keep [0, 3, 4, 11] (.region none [
       ⟨none, (some 8), .mov (.t 4)⟩,
       ⟨none, (some 9), .mov (.t 0)⟩,
       ⟨none, (some 10), .lenL (.t 9)⟩,
       ⟨none, (some 11), .bin .lss (.t 8) (.t 10)⟩]))
     (.cond (.t 11)
      (.skip)
      (.exit 0)))
     (.seq (.block 1 (.keep [0, 3, 4] (.region none [
        ⟨none, (some 14), .mov (.t 3)⟩,
        ⟨none, (some 15), .mov (.t 4)⟩,
        ⟨none, (some 16), .mov (.t 0)⟩,
        ⟨none, (some 17), .mov (.t 4)⟩,
        ⟨none, (some 18), .iaddr 4 (.t 16) (.t 17)⟩,
        ⟨none, (some 19), .load (some 4) (.t 18)⟩,
        ⟨none, (some 20), .call F.laws_toTy [(.t 19)]⟩,
        ⟨none, (some 21), .iaddr 4 (.t 14) (.t 15)⟩,
        ⟨none, none, .store 4 (.t 21) (.t 20)⟩])))
     (.keep [0, 3, 4] (.region none [
       ⟨none, (some 12), .mov (.t 4)⟩,
       ⟨none, (some 13), .bin .add (.t 12) (.c (.v (.int .i64 1)))⟩,
       ⟨none, (some 4), .mov (.t 13)⟩])))))))
   (.seq (.keep [2] (.region none [
     ⟨none, (some 22), .mov (.t 3)⟩,
     ⟨none, (some 2), .mov (.t 22)⟩]))
   (.ret))))
theorem A.laws_toTyS_ok : cFn Try.prog F.laws_toTyS A.laws_toTyS :=
  ⟨_, _, Try.func26, rfl, by kernel_rfl, rfl, by decide, by kernel_rfl, by kernel_rfl⟩
def A.laws_markTyS : AFn where
  nargs := 2
  nt := 42
  res := [.tmp 4]
  code := .seq (.keep [0, 1] (.region none [
     ⟨none, (some 4), .mov (.c (.v (.int .i64 0)))⟩]))
   (.seq (.seq (.keep [0, 1, 5] (.region none [
     ⟨none, (some 5), .mov (.c (.v (.int .i64 0)))⟩]))
   (.block 0 (.loop (.seq (.seq (.keep [0, 1, 5, 9] (.region none [
       ⟨none, (some 6), .mov (.t 5)⟩,
       ⟨none, (some 7), .mov (.t 0)⟩,
       ⟨none, (some 8), .lenL (.t 7)⟩,
       ⟨none, (some 9), .bin .lss (.t 6) (.t 8)⟩]))
     (.cond (.t 9)
      (.skip)
      (.exit 0)))
     (.seq (.block 1 (.seq (.keep [0, 1, 5] (.region none [
        ⟨none, (some 12), .mov (.t 0)⟩,
        ⟨none, (some 13), .mov (.t 5)⟩,
        ⟨none, (some 14), .mov (.t 1)⟩,
        ⟨none, (some 15), .iaddr 4 (.t 12) (.t 13)⟩,
        ⟨none, (some 16), .faddr 0 (.t 15)⟩,
        ⟨none, none, .store 1 (.t 16) (.t 14)⟩]))
      (.seq (.keep [0, 1, 5] (.region none [
        ⟨none, (some 17), .mov (.t 1)⟩,
        ⟨none, (some 18), .bin .add (.t 17) (.c (.v (.int .i64 1)))⟩,
        ⟨none, (some 1), .mov (.t 18)⟩]))
      (.seq (.keep [0, 1, 5] (.region none [
        ⟨none, (some 19), .mov (.t 0)⟩,
        ⟨none, (some 20), .mov (.t 5)⟩,
        ⟨none, (some 21), .mov (.t 1)⟩,
        ⟨none, (some 22), .iaddr 4 (.t 19) (.t 20)⟩,
        ⟨none, (some 23), .faddr 1 (.t 22)⟩,
        ⟨none, none, .store 1 (.t 23) (.t 21)⟩]))
      (.seq (.keep [0, 1, 5] (.region none [
        ⟨none, (some 24), .mov (.t 1)⟩,
        ⟨none, (some 25), .bin .add (.t 24) (.c (.v (.int .i64 1)))⟩,
        ⟨none, (some 1), .mov (.t 25)⟩]))
      (.seq (.keep [0, 1, 5] (.region none [
        ⟨none, (some 26), .mov (.t 0)⟩,
        ⟨none, (some 27), .mov (.t 5)⟩,
        ⟨none, (some 28), .mov (.t 1)⟩,
        ⟨none, (some 29), .call F.laws_markText [(.t 28)]⟩,
        ⟨none, (some 30), .iaddr 4 (.t 26) (.t 27)⟩,
        ⟨none, (some 31), .faddr 2 (.t 30)⟩,
        ⟨none, none, .store 1 (.t 31) (.t 29)⟩]))
      (.seq (.keep [0, 1, 5] (.region none [
        ⟨none, (some 32), .mov (.t 1)⟩,
        ⟨none, (some 33), .bin .add (.t 32) (.c (.v (.int .i64 1)))⟩,
        ⟨none, (some 1), .mov (.t 33)⟩]))
      (.keep [0, 1, 5] (.region none [
        ⟨none, (some 34), .mov (.t 0)⟩,
        ⟨none, (some 35), .mov (.t 5)⟩,
        ⟨none, (some 36), .iaddr 4 (.t 34) (.t 35)⟩,
        ⟨none, (some 37), .faddr 3 (.t 36)⟩,
        ⟨none, (some 38), .load none (.t 37)⟩,
        ⟨none, (some 39), .mov (.t 1)⟩,
        ⟨none, (some 40), .call F.laws_markTyS [(.t 38), (.t 39)]⟩,
        ⟨none, (some 1), .mov (.t 40)⟩])))))))))
     (.keep [0, 1, 5] (.region none [
       ⟨none, (some 10), .mov (.t 5)⟩,
       ⟨none, (some 11), .bin .add (.t 10) (.c (.v (.int .i64 1)))⟩,
       ⟨none, (some 5), .mov (.t 11)⟩])))))))
   (.seq (.keep [4] (.region none [
     ⟨none, (some 41), .mov (.t 1)⟩,
     ⟨none, (some 4), .mov (.t 41)⟩]))
   (.ret)))
theorem A.laws_markTyS_ok : cFn Try.prog F.laws_markTyS A.laws_markTyS :=
  ⟨_, _, Try.func29, rfl, by kernel_rfl, rfl, by decide, by kernel_rfl, by kernel_rfl⟩
def A.laws_toKTerm : AFn where
  nargs := 1
  nt := 33
  res := [.cell 2 (some 11)]
  code := .seq (.keep [1, 2] (.region none [
     ⟨none, (some 1), .box 59 11 (.t 0)⟩,
     ⟨none, (some 2), .alloc 65 11 (.agg [(.v (.int .i64 0)), (.v (.string ⟨#[]⟩)), (.v (.int .i64 0)), (.v (.int .i64 0)), (.v (.int .i64 0)), (.v (.int .i64 0)), (.v (.string ⟨#[]⟩)), .nils, .nils, .nils, .nils])⟩]))
   (.seq (.keep [1, 2, 3] (.region none [
     ⟨none, (some 3), .alloc 65 11 (.agg [(.v (.int .i64 0)), (.v (.string ⟨#[]⟩)), (.v (.int .i64 0)), (.v (.int .i64 0)), (.v (.int .i64 0)), (.v (.int .i64 0)), (.v (.string ⟨#[]⟩)), .nils, .nils, .nils, .nils])⟩]))
   (.seq (.keep [1, 2, 3] (.region none [
     ⟨none, (some 4), .faddr 0 (.t 1)⟩,
     ⟨none, (some 5), .load none (.t 4)⟩,
     ⟨none, (some 6), .faddr 0 (.t 3)⟩,
     ⟨none, none, .store 1 (.t 6) (.t 5)⟩]))
   (.seq (.keep [1, 2, 3] (.region none [
     ⟨none, (some 7), .faddr 1 (.t 1)⟩,
     ⟨none, (some 8), .load none (.t 7)⟩,
     ⟨none, (some 9), .faddr 1 (.t 3)⟩,
     ⟨none, none, .store 1 (.t 9) (.t 8)⟩]))
   (.seq (.keep [1, 2, 3] (.region none [
     ⟨none, (some 10), .faddr 2 (.t 1)⟩,
     ⟨none, (some 11), .load none (.t 10)⟩,
     ⟨none, (some 12), .faddr 2 (.t 3)⟩,
     ⟨none, none, .store 1 (.t 12) (.t 11)⟩]))
   (.seq (.keep [1, 2, 3] (.region none [
     ⟨none, (some 13), .faddr 3 (.t 1)⟩,
     ⟨none, (some 14), .load none (.t 13)⟩,
     ⟨none, (some 15), .faddr 3 (.t 3)⟩,
     ⟨none, none, .store 1 (.t 15) (.t 14)⟩]))
   (.seq (.keep [1, 2, 3] (.region none [
     ⟨none, (some 16), .faddr 4 (.t 1)⟩,
     ⟨none, (some 17), .load (some 4) (.t 16)⟩,
     ⟨none, (some 18), .call F.laws_toTy [(.t 17)]⟩,
     ⟨none, (some 19), .faddr 4 (.t 3)⟩,
     ⟨none, none, .store 4 (.t 19) (.t 18)⟩]))
   (.seq (.keep [1, 2, 3] (.region none [
     ⟨none, (some 20), .faddr 8 (.t 1)⟩,
     ⟨none, (some 21), .load none (.t 20)⟩,
     ⟨none, (some 22), .call F.laws_toTyS [(.t 21)]⟩,
     ⟨none, (some 23), .faddr 8 (.t 3)⟩,
     ⟨none, none, .store 1 (.t 23) (.t 22)⟩]))
   (.seq (.keep [1, 2, 3] (.region none [
     ⟨none, (some 24), .faddr 9 (.t 1)⟩,
     ⟨none, (some 25), .load none (.t 24)⟩,
     ⟨none, (some 26), .call F.laws_toKValS [(.t 25)]⟩,
     ⟨none, (some 27), .faddr 9 (.t 3)⟩,
     ⟨none, none, .store 1 (.t 27) (.t 26)⟩]))
   (.seq (.keep [2, 3] (.region none [
     ⟨none, (some 28), .faddr 10 (.t 1)⟩,
     ⟨none, (some 29), .load none (.t 28)⟩,
     ⟨none, (some 30), .call F.laws_toKTermS [(.t 29)]⟩,
     ⟨none, (some 31), .faddr 10 (.t 3)⟩,
     ⟨none, none, .store 1 (.t 31) (.t 30)⟩]))
   (.seq (.keep [2] (.region none [
     ⟨none, (some 32), .load (some 11) (.t 3)⟩,
     ⟨none, none, .store 11 (.t 2) (.t 32)⟩]))
   (.ret)))))))))))
theorem A.laws_toKTerm_ok : cFn Try.prog F.laws_toKTerm A.laws_toKTerm :=
  ⟨_, _, Try.func33, rfl, by kernel_rfl, rfl, by decide, by kernel_rfl, by kernel_rfl⟩
def A.laws_markKTerm : AFn where
  nargs := 2
  nt := 22
  res := [.tmp 4]
  code := .seq (.keep [1, 2] (.region none [
     ⟨none, (some 2), .box 65 11 (.t 0)⟩,
     ⟨none, (some 4), .mov (.c (.v (.int .i64 0)))⟩]))
   (.seq (.keep [1, 2] (.region none [
     ⟨none, (some 5), .faddr 4 (.t 2)⟩,
     ⟨none, (some 6), .load (some 4) (.t 5)⟩,
     ⟨none, (some 7), .mov (.t 1)⟩,
     ⟨none, (some 8), .call F.laws_markTy [(.t 6), (.t 7)]⟩,
     ⟨none, (some 1), .mov (.t 8)⟩]))
   (.seq (.keep [1, 2] (.region none [
     ⟨none, (some 9), .faddr 8 (.t 2)⟩,
     ⟨none, (some 10), .load none (.t 9)⟩,
     ⟨none, (some 11), .mov (.t 1)⟩,
     ⟨none, (some 12), .call F.laws_markTyS [(.t 10), (.t 11)]⟩,
     ⟨none, (some 1), .mov (.t 12)⟩]))
   (.seq (.keep [1, 2] (.region none [
     ⟨none, (some 13), .faddr 9 (.t 2)⟩,
     ⟨none, (some 14), .load none (.t 13)⟩,
     ⟨none, (some 15), .mov (.t 1)⟩,
     ⟨none, (some 16), .call F.laws_markKValS [(.t 14), (.t 15)]⟩,
     ⟨none, (some 1), .mov (.t 16)⟩]))
   (.seq (.keep [1] (.region none [
     ⟨none, (some 17), .faddr 10 (.t 2)⟩,
     ⟨none, (some 18), .load none (.t 17)⟩,
     ⟨none, (some 19), .mov (.t 1)⟩,
     ⟨none, (some 20), .call F.laws_markKTermS [(.t 18), (.t 19)]⟩,
     ⟨none, (some 1), .mov (.t 20)⟩]))
   (.seq (.keep [4] (.region none [
     ⟨none, (some 21), .mov (.t 1)⟩,
     ⟨none, (some 4), .mov (.t 21)⟩]))
   (.ret))))))
theorem A.laws_markKTerm_ok : cFn Try.prog F.laws_markKTerm A.laws_markKTerm :=
  ⟨_, _, Try.func36, rfl, by kernel_rfl, rfl, by decide, by kernel_rfl, by kernel_rfl⟩
def A.laws_toKValS : AFn where
  nargs := 1
  nt := 23
  res := [.tmp 2]
  code := .seq (.keep [0] (.region none [
     ⟨none, (some 2), .mov (.c .nils)⟩]))
   (.seq (.keep [0, 3] (.region none [
     ⟨none, (some 5), .mov (.t 0)⟩,
     ⟨none, (some 6), .lenL (.t 5)⟩,
     ⟨none, (some 7), .mk 138 4 40 (.agg [(.v (.int .i64 0)), (.v (.int .i64 0)), (.v (.int .i64 0)), (.v (.string ⟨#[]⟩))]) (.t 6) (.t 6)⟩,
     ⟨none, (some 3), .mov (.t 7)⟩]))
   (.seq (.seq (.keep [0, 3, 4] (.region none [
     ⟨none, (some 4), .mov (.c (.v (.int .i64 0)))⟩]))
   (.block 0 (.loop (.seq (.seq (.keep [0, 3, 4, 11] (.region none [
       ⟨none, (some 8), .mov (.t 4)⟩,
       ⟨none, (some 9), .mov (.t 0)⟩,
       ⟨none, (some 10), .lenL (.t 9)⟩,
       ⟨none, (some 11), .bin .lss (.t 8) (.t 10)⟩]))
     (.cond (.t 11)
      (.skip)
      (.exit 0)))
     (.seq (.block 1 (.keep [0, 3, 4] (.region none [
        ⟨none, (some 14), .mov (.t 3)⟩,
        ⟨none, (some 15), .mov (.t 4)⟩,
        ⟨none, (some 16), .mov (.t 0)⟩,
        ⟨none, (some 17), .mov (.t 4)⟩,
        ⟨none, (some 18), .iaddr 4 (.t 16) (.t 17)⟩,
        ⟨none, (some 19), .load (some 4) (.t 18)⟩,
        ⟨none, (some 20), .call F.laws_toKVal [(.t 19)]⟩,
        ⟨none, (some 21), .iaddr 4 (.t 14) (.t 15)⟩,
        ⟨none, none, .store 4 (.t 21) (.t 20)⟩])))
     (.keep [0, 3, 4] (.region none [
       ⟨none, (some 12), .mov (.t 4)⟩,
       ⟨none, (some 13), .bin .add (.t 12) (.c (.v (.int .i64 1)))⟩,
       ⟨none, (some 4), .mov (.t 13)⟩])))))))
   (.seq (.keep [2] (.region none [
     ⟨none, (some 22), .mov (.t 3)⟩,
     ⟨none, (some 2), .mov (.t 22)⟩]))
   (.ret))))
theorem A.laws_toKValS_ok : cFn Try.prog F.laws_toKValS A.laws_toKValS :=
  ⟨_, _, Try.func64, rfl, by kernel_rfl, rfl, by decide, by kernel_rfl, by kernel_rfl⟩
def A.laws_toKTermS : AFn where
  nargs := 1
  nt := 23
  res := [.tmp 2]
  code := .seq (.keep [0] (.region none [
     ⟨none, (some 2), .mov (.c .nils)⟩]))
   (.seq (.keep [0, 3] (.region none [
     ⟨none, (some 5), .mov (.t 0)⟩,
     ⟨none, (some 6), .lenL (.t 5)⟩,
     ⟨none, (some 7), .mk 65 11 168 (.agg [(.v (.int .i64 0)), (.v (.string ⟨#[]⟩)), (.v (.int .i64 0)), (.v (.int .i64 0)), (.v (.int .i64 0)), (.v (.int .i64 0)), (.v (.string ⟨#[]⟩)), .nils, .nils, .nils, .nils]) (.t 6) (.t 6)⟩,
     ⟨none, (some 3), .mov (.t 7)⟩]))
   (.seq (.seq (.keep [0, 3, 4] (.region none [
     ⟨none, (some 4), .mov (.c (.v (.int .i64 0)))⟩]))
   (.block 0 (.loop (.seq (.seq (.keep [0, 3, 4, 11] (.region none [
       ⟨none, (some 8), .mov (.t 4)⟩,
       ⟨none, (some 9), .mov (.t 0)⟩,
       ⟨none, (some 10), .lenL (.t 9)⟩,
       ⟨none, (some 11), .bin .lss (.t 8) (.t 10)⟩]))
     (.cond (.t 11)
      (.skip)
      (.exit 0)))
     (.seq (.block 1 (.keep [0, 3, 4] (.region none [
        ⟨none, (some 14), .mov (.t 3)⟩,
        ⟨none, (some 15), .mov (.t 4)⟩,
        ⟨none, (some 16), .mov (.t 0)⟩,
        ⟨none, (some 17), .mov (.t 4)⟩,
        ⟨none, (some 18), .iaddr 11 (.t 16) (.t 17)⟩,
        ⟨none, (some 19), .load (some 11) (.t 18)⟩,
        ⟨none, (some 20), .call F.laws_toKTerm [(.t 19)]⟩,
        ⟨none, (some 21), .iaddr 11 (.t 14) (.t 15)⟩,
        ⟨none, none, .store 11 (.t 21) (.t 20)⟩])))
     (.keep [0, 3, 4] (.region none [
       ⟨none, (some 12), .mov (.t 4)⟩,
       ⟨none, (some 13), .bin .add (.t 12) (.c (.v (.int .i64 1)))⟩,
       ⟨none, (some 4), .mov (.t 13)⟩])))))))
   (.seq (.keep [2] (.region none [
     ⟨none, (some 22), .mov (.t 3)⟩,
     ⟨none, (some 2), .mov (.t 22)⟩]))
   (.ret))))
theorem A.laws_toKTermS_ok : cFn Try.prog F.laws_toKTermS A.laws_toKTermS :=
  ⟨_, _, Try.func65, rfl, by kernel_rfl, rfl, by decide, by kernel_rfl, by kernel_rfl⟩
def A.laws_markKValS : AFn where
  nargs := 2
  nt := 42
  res := [.tmp 4]
  code := .seq (.keep [0, 1] (.region none [
     ⟨none, (some 4), .mov (.c (.v (.int .i64 0)))⟩]))
   (.seq (.seq (.keep [0, 1, 5] (.region none [
     ⟨none, (some 5), .mov (.c (.v (.int .i64 0)))⟩]))
   (.block 0 (.loop (.seq (.seq (.keep [0, 1, 5, 9] (.region none [
       ⟨none, (some 6), .mov (.t 5)⟩,
       ⟨none, (some 7), .mov (.t 0)⟩,
       ⟨none, (some 8), .lenL (.t 7)⟩,
       ⟨none, (some 9), .bin .lss (.t 6) (.t 8)⟩]))
     (.cond (.t 9)
      (.skip)
      (.exit 0)))
     (.seq (.block 1 (.seq (.keep [0, 1, 5] (.region none [
        ⟨none, (some 12), .mov (.t 0)⟩,
        ⟨none, (some 13), .mov (.t 5)⟩,
        ⟨none, (some 14), .mov (.t 1)⟩,
        ⟨none, (some 15), .iaddr 4 (.t 12) (.t 13)⟩,
        ⟨none, (some 16), .faddr 0 (.t 15)⟩,
        ⟨none, none, .store 1 (.t 16) (.t 14)⟩]))
      (.seq (.keep [0, 1, 5] (.region none [
        ⟨none, (some 17), .mov (.t 1)⟩,
        ⟨none, (some 18), .bin .add (.t 17) (.c (.v (.int .i64 1)))⟩,
        ⟨none, (some 1), .mov (.t 18)⟩]))
      (.seq (.keep [0, 1, 5] (.region none [
        ⟨none, (some 19), .mov (.t 0)⟩,
        ⟨none, (some 20), .mov (.t 5)⟩,
        ⟨none, (some 21), .mov (.t 1)⟩,
        ⟨none, (some 22), .iaddr 4 (.t 19) (.t 20)⟩,
        ⟨none, (some 23), .faddr 1 (.t 22)⟩,
        ⟨none, none, .store 1 (.t 23) (.t 21)⟩]))
      (.seq (.keep [0, 1, 5] (.region none [
        ⟨none, (some 24), .mov (.t 1)⟩,
        ⟨none, (some 25), .bin .add (.t 24) (.c (.v (.int .i64 1)))⟩,
        ⟨none, (some 1), .mov (.t 25)⟩]))
      (.seq (.keep [0, 1, 5] (.region none [
        ⟨none, (some 26), .mov (.t 0)⟩,
        ⟨none, (some 27), .mov (.t 5)⟩,
        ⟨none, (some 28), .mov (.t 1)⟩,
        ⟨none, (some 29), .iaddr 4 (.t 26) (.t 27)⟩,
        ⟨none, (some 30), .faddr 2 (.t 29)⟩,
        ⟨none, none, .store 1 (.t 30) (.t 28)⟩]))
      (.seq (.keep [0, 1, 5] (.region none [
        ⟨none, (some 31), .mov (.t 1)⟩,
        ⟨none, (some 32), .bin .add (.t 31) (.c (.v (.int .i64 1)))⟩,
        ⟨none, (some 1), .mov (.t 32)⟩]))
      (.seq (.keep [0, 1, 5] (.region none [
        ⟨none, (some 33), .mov (.t 0)⟩,
        ⟨none, (some 34), .mov (.t 5)⟩,
        ⟨none, (some 35), .mov (.t 1)⟩,
        ⟨none, (some 36), .call F.laws_markText [(.t 35)]⟩,
        ⟨none, (some 37), .iaddr 4 (.t 33) (.t 34)⟩,
        ⟨none, (some 38), .faddr 3 (.t 37)⟩,
        ⟨none, none, .store 1 (.t 38) (.t 36)⟩]))
      (.keep [0, 1, 5] (.region none [
        ⟨none, (some 39), .mov (.t 1)⟩,
        ⟨none, (some 40), .bin .add (.t 39) (.c (.v (.int .i64 1)))⟩,
        ⟨none, (some 1), .mov (.t 40)⟩]))))))))))
     (.keep [0, 1, 5] (.region none [
       ⟨none, (some 10), .mov (.t 5)⟩,
       ⟨none, (some 11), .bin .add (.t 10) (.c (.v (.int .i64 1)))⟩,
       ⟨none, (some 5), .mov (.t 11)⟩])))))))
   (.seq (.keep [4] (.region none [
     ⟨none, (some 41), .mov (.t 1)⟩,
     ⟨none, (some 4), .mov (.t 41)⟩]))
   (.ret)))
theorem A.laws_markKValS_ok : cFn Try.prog F.laws_markKValS A.laws_markKValS :=
  ⟨_, _, Try.func72, rfl, by kernel_rfl, rfl, by decide, by kernel_rfl, by kernel_rfl⟩
def A.laws_markKTermS : AFn where
  nargs := 2
  nt := 96
  res := [.tmp 4]
  code := .seq (.keep [0, 1] (.region none [
     ⟨none, (some 4), .mov (.c (.v (.int .i64 0)))⟩]))
   (.seq (.seq (.keep [0, 1, 5] (.region none [
     ⟨none, (some 5), .mov (.c (.v (.int .i64 0)))⟩]))
   (.block 0 (.loop (.seq (.seq (.keep [0, 1, 5, 9] (.region none [
       ⟨none, (some 6), .mov (.t 5)⟩,
       ⟨none, (some 7), .mov (.t 0)⟩,
       ⟨none, (some 8), .lenL (.t 7)⟩,
       ⟨none, (some 9), .bin .lss (.t 6) (.t 8)⟩]))
     (.cond (.t 9)
      (.skip)
      (.exit 0)))
     (.seq (.block 1 (.seq (.keep [0, 1, 5] (.region none [
        ⟨none, (some 12), .mov (.t 0)⟩,
        ⟨none, (some 13), .mov (.t 5)⟩,
        ⟨none, (some 14), .mov (.t 1)⟩,
        ⟨none, (some 15), .iaddr 11 (.t 12) (.t 13)⟩,
        ⟨none, (some 16), .faddr 0 (.t 15)⟩,
        ⟨none, none, .store 1 (.t 16) (.t 14)⟩]))
      (.seq (.keep [0, 1, 5] (.region none [
        ⟨none, (some 17), .mov (.t 1)⟩,
        ⟨none, (some 18), .bin .add (.t 17) (.c (.v (.int .i64 1)))⟩,
        ⟨none, (some 1), .mov (.t 18)⟩]))
      (.seq (.keep [0, 1, 5] (.region none [
        ⟨none, (some 19), .mov (.t 0)⟩,
        ⟨none, (some 20), .mov (.t 5)⟩,
        ⟨none, (some 21), .mov (.t 1)⟩,
        ⟨none, (some 22), .call F.laws_markText [(.t 21)]⟩,
        ⟨none, (some 23), .iaddr 11 (.t 19) (.t 20)⟩,
        ⟨none, (some 24), .faddr 1 (.t 23)⟩,
        ⟨none, none, .store 1 (.t 24) (.t 22)⟩]))
      (.seq (.keep [0, 1, 5] (.region none [
        ⟨none, (some 25), .mov (.t 1)⟩,
        ⟨none, (some 26), .bin .add (.t 25) (.c (.v (.int .i64 1)))⟩,
        ⟨none, (some 1), .mov (.t 26)⟩]))
      (.seq (.keep [0, 1, 5] (.region none [
        ⟨none, (some 27), .mov (.t 0)⟩,
        ⟨none, (some 28), .mov (.t 5)⟩,
        ⟨none, (some 29), .mov (.t 1)⟩,
        ⟨none, (some 30), .iaddr 11 (.t 27) (.t 28)⟩,
        ⟨none, (some 31), .faddr 2 (.t 30)⟩,
        ⟨none, none, .store 1 (.t 31) (.t 29)⟩]))
      (.seq (.keep [0, 1, 5] (.region none [
        ⟨none, (some 32), .mov (.t 1)⟩,
        ⟨none, (some 33), .bin .add (.t 32) (.c (.v (.int .i64 1)))⟩,
        ⟨none, (some 1), .mov (.t 33)⟩]))
      (.seq (.keep [0, 1, 5] (.region none [
        ⟨none, (some 34), .mov (.t 0)⟩,
        ⟨none, (some 35), .mov (.t 5)⟩,
        ⟨none, (some 36), .mov (.t 1)⟩,
        ⟨none, (some 37), .iaddr 11 (.t 34) (.t 35)⟩,
        ⟨none, (some 38), .faddr 3 (.t 37)⟩,
        ⟨none, none, .store 1 (.t 38) (.t 36)⟩]))
      (.seq (.keep [0, 1, 5] (.region none [
        ⟨none, (some 39), .mov (.t 1)⟩,
        ⟨none, (some 40), .bin .add (.t 39) (.c (.v (.int .i64 1)))⟩,
        ⟨none, (some 1), .mov (.t 40)⟩]))
      (.seq (.keep [0, 1, 5] (.region none [
        ⟨none, (some 41), .mov (.t 0)⟩,
        ⟨none, (some 42), .mov (.t 5)⟩,
        ⟨none, (some 43), .mov (.t 1)⟩,
        ⟨none, (some 44), .iaddr 11 (.t 41) (.t 42)⟩,
        ⟨none, (some 45), .faddr 4 (.t 44)⟩,
        ⟨none, (some 46), .faddr 0 (.t 45)⟩,
        ⟨none, none, .store 1 (.t 46) (.t 43)⟩]))
      (.seq (.keep [0, 1, 5] (.region none [
        ⟨none, (some 47), .mov (.t 1)⟩,
        ⟨none, (some 48), .bin .add (.t 47) (.c (.v (.int .i64 1)))⟩,
        ⟨none, (some 1), .mov (.t 48)⟩]))
      (.seq (.keep [0, 1, 5] (.region none [
        ⟨none, (some 49), .mov (.t 0)⟩,
        ⟨none, (some 50), .mov (.t 5)⟩,
        ⟨none, (some 51), .mov (.t 1)⟩,
        ⟨none, (some 52), .iaddr 11 (.t 49) (.t 50)⟩,
        ⟨none, (some 53), .faddr 4 (.t 52)⟩,
        ⟨none, (some 54), .faddr 1 (.t 53)⟩,
        ⟨none, none, .store 1 (.t 54) (.t 51)⟩]))
      (.seq (.keep [0, 1, 5] (.region none [
        ⟨none, (some 55), .mov (.t 1)⟩,
        ⟨none, (some 56), .bin .add (.t 55) (.c (.v (.int .i64 1)))⟩,
        ⟨none, (some 1), .mov (.t 56)⟩]))
      (.seq (.keep [0, 1, 5] (.region none [
        ⟨none, (some 57), .mov (.t 0)⟩,
        ⟨none, (some 58), .mov (.t 5)⟩,
        ⟨none, (some 59), .mov (.t 1)⟩,
        ⟨none, (some 60), .call F.laws_markText [(.t 59)]⟩,
        ⟨none, (some 61), .iaddr 11 (.t 57) (.t 58)⟩,
        ⟨none, (some 62), .faddr 4 (.t 61)⟩,
        ⟨none, (some 63), .faddr 2 (.t 62)⟩,
        ⟨none, none, .store 1 (.t 63) (.t 60)⟩]))
      (.seq (.keep [0, 1, 5] (.region none [
        ⟨none, (some 64), .mov (.t 1)⟩,
        ⟨none, (some 65), .bin .add (.t 64) (.c (.v (.int .i64 1)))⟩,
        ⟨none, (some 1), .mov (.t 65)⟩]))
      (.seq (.keep [0, 1, 5] (.region none [
        ⟨none, (some 66), .mov (.t 0)⟩,
        ⟨none, (some 67), .mov (.t 5)⟩,
        ⟨none, (some 68), .iaddr 11 (.t 66) (.t 67)⟩,
        ⟨none, (some 69), .faddr 4 (.t 68)⟩,
        ⟨none, (some 70), .faddr 3 (.t 69)⟩,
        ⟨none, (some 71), .load none (.t 70)⟩,
        ⟨none, (some 72), .mov (.t 1)⟩,
        ⟨none, (some 73), .call F.laws_markTyS [(.t 71), (.t 72)]⟩,
        ⟨none, (some 1), .mov (.t 73)⟩]))
      (.seq (.keep [0, 1, 5] (.region none [
        ⟨none, (some 74), .mov (.t 0)⟩,
        ⟨none, (some 75), .mov (.t 5)⟩,
        ⟨none, (some 76), .iaddr 11 (.t 74) (.t 75)⟩,
        ⟨none, (some 77), .faddr 8 (.t 76)⟩,
        ⟨none, (some 78), .load none (.t 77)⟩,
        ⟨none, (some 79), .mov (.t 1)⟩,
        ⟨none, (some 80), .call F.laws_markTyS [(.t 78), (.t 79)]⟩,
        ⟨none, (some 1), .mov (.t 80)⟩]))
      (.seq (.keep [0, 1, 5] (.region none [
        ⟨none, (some 81), .mov (.t 0)⟩,
        ⟨none, (some 82), .mov (.t 5)⟩,
        ⟨none, (some 83), .iaddr 11 (.t 81) (.t 82)⟩,
        ⟨none, (some 84), .faddr 9 (.t 83)⟩,
        ⟨none, (some 85), .load none (.t 84)⟩,
        ⟨none, (some 86), .mov (.t 1)⟩,
        ⟨none, (some 87), .call F.laws_markKValS [(.t 85), (.t 86)]⟩,
        ⟨none, (some 1), .mov (.t 87)⟩]))
      (.keep [0, 1, 5] (.region none [
        ⟨none, (some 88), .mov (.t 0)⟩,
        ⟨none, (some 89), .mov (.t 5)⟩,
        ⟨none, (some 90), .iaddr 11 (.t 88) (.t 89)⟩,
        ⟨none, (some 91), .faddr 10 (.t 90)⟩,
        ⟨none, (some 92), .load none (.t 91)⟩,
        ⟨none, (some 93), .mov (.t 1)⟩,
        ⟨none, (some 94), .call F.laws_markKTermS [(.t 92), (.t 93)]⟩,
        ⟨none, (some 1), .mov (.t 94)⟩]))))))))))))))))))))
     (.keep [0, 1, 5] (.region none [
       ⟨none, (some 10), .mov (.t 5)⟩,
       ⟨none, (some 11), .bin .add (.t 10) (.c (.v (.int .i64 1)))⟩,
       ⟨none, (some 5), .mov (.t 11)⟩])))))))
   (.seq (.keep [4] (.region none [
     ⟨none, (some 95), .mov (.t 1)⟩,
     ⟨none, (some 4), .mov (.t 95)⟩]))
   (.ret)))
theorem A.laws_markKTermS_ok : cFn Try.prog F.laws_markKTermS A.laws_markKTermS :=
  ⟨_, _, Try.func73, rfl, by kernel_rfl, rfl, by decide, by kernel_rfl, by kernel_rfl⟩
def A.laws_toKVal : AFn where
  nargs := 1
  nt := 17
  res := [.cell 2 (some 4)]
  code := .seq (.keep [1, 2] (.region none [
     ⟨none, (some 1), .box 135 4 (.t 0)⟩,
     ⟨none, (some 2), .alloc 138 4 (.agg [(.v (.int .i64 0)), (.v (.int .i64 0)), (.v (.int .i64 0)), (.v (.string ⟨#[]⟩))])⟩]))
   (.seq (.keep [1, 2, 3] (.region none [
     ⟨none, (some 3), .alloc 138 4 (.agg [(.v (.int .i64 0)), (.v (.int .i64 0)), (.v (.int .i64 0)), (.v (.string ⟨#[]⟩))])⟩]))
   (.seq (.keep [1, 2, 3] (.region none [
     ⟨none, (some 4), .faddr 0 (.t 1)⟩,
     ⟨none, (some 5), .load none (.t 4)⟩,
     ⟨none, (some 6), .faddr 0 (.t 3)⟩,
     ⟨none, none, .store 1 (.t 6) (.t 5)⟩]))
   (.seq (.keep [1, 2, 3] (.region none [
     ⟨none, (some 7), .faddr 1 (.t 1)⟩,
     ⟨none, (some 8), .load none (.t 7)⟩,
     ⟨none, (some 9), .faddr 1 (.t 3)⟩,
     ⟨none, none, .store 1 (.t 9) (.t 8)⟩]))
   (.seq (.keep [1, 2, 3] (.region none [
     ⟨none, (some 10), .faddr 2 (.t 1)⟩,
     ⟨none, (some 11), .load none (.t 10)⟩,
     ⟨none, (some 12), .faddr 2 (.t 3)⟩,
     ⟨none, none, .store 1 (.t 12) (.t 11)⟩]))
   (.seq (.keep [2, 3] (.region none [
     ⟨none, (some 13), .faddr 3 (.t 1)⟩,
     ⟨none, (some 14), .load none (.t 13)⟩,
     ⟨none, (some 15), .faddr 3 (.t 3)⟩,
     ⟨none, none, .store 1 (.t 15) (.t 14)⟩]))
   (.seq (.keep [2] (.region none [
     ⟨none, (some 16), .load (some 4) (.t 3)⟩,
     ⟨none, none, .store 4 (.t 2) (.t 16)⟩]))
   (.ret)))))))
theorem A.laws_toKVal_ok : cFn Try.prog F.laws_toKVal A.laws_toKVal :=
  ⟨_, _, Try.func104, rfl, by kernel_rfl, rfl, by decide, by kernel_rfl, by kernel_rfl⟩
end Go.Proofs.Ab
