/-
  THE ABSTRACT CODE of some of this seat's functions, printed by a program of ours (wip/tool/Gen3.lean) from the translation; each with the theorem that it is that function's.
-/
import Derived.Test.YtlckfombibfhcaaST
set_option linter.unusedVariables false
set_option linter.unusedSimpArgs false
set_option linter.defProp false
namespace Go.Proofs.Ab
open Go.Ab
set_option maxRecDepth 100000
def A.laws_markIntS : AFn where
  nargs := 2
  nt := 19
  res := [.tmp 4]
  code := .seq (.keep [0, 1] (.region none [
     ⟨none, (some 4), .mov (.c (.v (.int .i64 0)))⟩]))
   (.seq (.seq (.keep [0, 1, 5] (.region none [
     ⟨none, (some 5), .mov (.c (.v (.int .i64 0)))⟩]))
   (.block 0 (.loop (.seq (.seq (.keep [0, 1, 5, 9] (.region none [
       ⟨none, (some 6), .mov (.t 5)⟩,
       ⟨none, (some 7), .mov (.t 0)⟩,
       ⟨none, (some 8), .lenL (.t 7)⟩,
       ⟨none, (some 9), .bin .lss (.t 6) (.t 8)⟩]))
     (.cond (.t 9)
      (.skip)
      (.exit 0)))
     (.seq (.block 1 (.seq (.keep [0, 1, 5] (.region none [
        ⟨none, (some 12), .mov (.t 0)⟩,
        ⟨none, (some 13), .mov (.t 5)⟩,
        ⟨none, (some 14), .mov (.t 1)⟩,
        ⟨none, (some 15), .iaddr 1 (.t 12) (.t 13)⟩,
        ⟨none, none, .store 1 (.t 15) (.t 14)⟩]))
      (.keep [0, 1, 5] (.region none [
        ⟨none, (some 16), .mov (.t 1)⟩,
        ⟨none, (some 17), .bin .add (.t 16) (.c (.v (.int .i64 1)))⟩,
        ⟨none, (some 1), .mov (.t 17)⟩]))))
     (.keep [0, 1, 5] (.region none [
       ⟨none, (some 10), .mov (.t 5)⟩,
       ⟨none, (some 11), .bin .add (.t 10) (.c (.v (.int .i64 1)))⟩,
       ⟨none, (some 5), .mov (.t 11)⟩])))))))
   (.seq (.keep [4] (.region none [
     ⟨none, (some 18), .mov (.t 1)⟩,
     ⟨none, (some 4), .mov (.t 18)⟩]))
   (.ret)))
theorem A.laws_markIntS_ok : cFn Try.prog F.laws_markIntS A.laws_markIntS :=
  ⟨_, _, Try.func22, rfl, by kernel_rfl, rfl, by decide, by kernel_rfl, by kernel_rfl⟩
def A.impl_Uses : AFn where
  nargs := 2
  nt := 33
  res := [.tmp 4]
  code := .seq (.keep [1, 2] (.region none [
     ⟨none, (some 2), .box 65 11 (.t 0)⟩,
     ⟨none, (some 4), .mov (.c .nils)⟩]))
   (.seq (.seq (.keep [1, 2, 14] (.region none [
     ⟨none, (some 7), .mov (.t 1)⟩,
     ⟨none, (some 8), .call F.impl_within [(.t 7), (.c (.v (.int .i64 0))), (.c (.v (.int .i64 9000)))]⟩,
     ⟨none, (some 9), .un .not (.t 8)⟩,
     ⟨none, (some 10), .mov (.t 9)⟩,
     ⟨(some (10, false)), (some 11), .load (some 11) (.t 2)⟩,
     ⟨(some (10, false)), (some 12), .call F.impl_KSize [(.t 11)]⟩,
     ⟨(some (10, false)), (some 13), .bin .gtr (.t 12) (.c (.v (.int .i64 9000)))⟩,
     ⟨none, (some 14), .pick (.t 10) (.c (.v (.bool true))) (.t 13)⟩]))
   (.cond (.t 14)
    (.seq (.keep [4] (.region none [
      ⟨none, (some 4), .mov (.c .nils)⟩]))
    (.ret))
    (.skip)))
   (.seq (.keep [1, 2, 5] (.region none [
     ⟨none, (some 15), .load (some 11) (.t 2)⟩,
     ⟨none, (some 16), .mov (.t 1)⟩,
     ⟨none, (some 17), .call F.impl_greatestBound [(.t 15), (.t 16)]⟩,
     ⟨none, (some 18), .mk 3 1 8 (.v (.int .i64 0)) (.t 17) (.t 17)⟩,
     ⟨none, (some 5), .alloc 23 1 .nils⟩,
     ⟨none, none, .store 1 (.t 5) (.t 18)⟩]))
   (.seq (.seq (.keep [1, 2, 5, 20, 21] (.region none [
     ⟨none, (some 19), .load none (.t 5)⟩,
     ⟨none, (some 20), .lenL (.t 19)⟩,
     ⟨none, (some 21), .mov (.c (.v (.int .i64 0)))⟩]))
   (.block 0 (.loop (.seq (.keep [1, 2, 5, 20, 21, 22] (.region none [
       ⟨none, (some 22), .bin .lss (.t 21) (.t 20)⟩]))
     (.seq (.cond (.t 22)
      (.skip)
      (.exit 0))
     (.seq (.block 1 (.seq (.keep [1, 2, 5, 6, 20, 21] (.region none [
        ⟨none, (some 23), .mov (.t 21)⟩,
        ⟨none, (some 6), .mov (.t 23)⟩]))
      (.keep [1, 2, 5, 20, 21] (.region none [
        ⟨none, (some 24), .load none (.t 5)⟩,
        ⟨none, (some 25), .mov (.t 6)⟩,
        ⟨none, (some 26), .iaddr 1 (.t 24) (.t 25)⟩,
        ⟨none, none, .store 1 (.t 26) (.c (.v (.int .i64 (-1))))⟩]))))
     (.keep [1, 2, 5, 20, 21] (.region none [
       ⟨none, (some 27), .bin .add (.t 21) (.c (.v (.int .i64 1)))⟩,
       ⟨none, (some 21), .mov (.t 27)⟩]))))))))
   (.seq (.keep [5] (.region none [
     ⟨none, (some 28), .load (some 11) (.t 2)⟩,
     ⟨none, (some 29), .mov (.t 1)⟩,
     ⟨none, (some 30), .mkfn F.impl_Uses_1 [(.t 5)]⟩,
     ⟨none, (some 31), .call F.impl_eachAt [(.t 28), (.t 29), (.c (.v (.int .i64 0))), (.t 30)]⟩]))
   (.seq (.keep [4] (.region none [
     ⟨none, (some 32), .load none (.t 5)⟩,
     ⟨none, (some 4), .mov (.t 32)⟩]))
   (.ret))))))
theorem A.impl_Uses_ok : cFn Try.prog F.impl_Uses A.impl_Uses :=
  ⟨_, _, Try.func34, rfl, by kernel_rfl, rfl, by decide, by kernel_rfl, by kernel_rfl⟩
def A.impl_eachAt : AFn where
  nargs := 4
  nt := 64
  res := []
  code := .seq (.keep [1, 2, 3, 4] (.region none [
     ⟨none, (some 4), .box 65 11 (.t 0)⟩]))
   (.seq (.seq (.keep [1, 2, 3, 4, 14, 15, 16] (.region none [
     ⟨none, (some 13), .faddr 9 (.t 4)⟩,
     ⟨none, (some 14), .load none (.t 13)⟩,
     ⟨none, (some 15), .lenL (.t 14)⟩,
     ⟨none, (some 16), .mov (.c (.v (.int .i64 0)))⟩]))
   (.block 0 (.loop (.seq (.keep [1, 2, 3, 4, 14, 15, 16, 17] (.region none [
       ⟨none, (some 17), .bin .lss (.t 16) (.t 15)⟩]))
     (.seq (.cond (.t 17)
      (.skip)
      (.exit 0))
     (.seq (.block 1 (.seq (.keep [1, 2, 3, 4, 9, 14, 15, 16] (.region none [
        ⟨none, (some 18), .iaddr 4 (.t 14) (.t 16)⟩,
        ⟨none, (some 19), .load (some 4) (.t 18)⟩,
        ⟨none, (some 9), .alloc 138 4 (.agg [(.v (.int .i64 0)), (.v (.int .i64 0)), (.v (.int .i64 0)), (.v (.string ⟨#[]⟩))])⟩,
        ⟨none, none, .store 4 (.t 9) (.t 19)⟩]))
      (.seq (.keep [1, 2, 3, 4, 9, 14, 15, 16, 22] (.region none [
        ⟨none, (some 20), .faddr 0 (.t 9)⟩,
        ⟨none, (some 21), .load none (.t 20)⟩,
        ⟨none, (some 22), .bin .eql (.t 21) (.c (.v (.int .i64 1)))⟩]))
      (.cond (.t 22)
       (.keep [1, 2, 3, 4, 14, 15, 16] (.region none [
         ⟨none, (some 23), .mov (.t 3)⟩,
         ⟨none, (some 24), .faddr 1 (.t 9)⟩,
         ⟨none, (some 25), .load none (.t 24)⟩,
         ⟨none, (some 26), .mov (.t 1)⟩,
         ⟨none, (some 27), .mov (.t 2)⟩,
         ⟨none, (some 28), .pu .max [(.t 26), (.t 27)]⟩,
         ⟨none, (some 29), .callv (.t 23) [(.t 25), (.t 28)]⟩]))
       (.skip)))))
     (.keep [1, 2, 3, 4, 14, 15, 16] (.region none [
       ⟨none, (some 30), .bin .add (.t 16) (.c (.v (.int .i64 1)))⟩,
       ⟨none, (some 16), .mov (.t 30)⟩]))))))))
   (.seq (.keep [1, 2, 3, 4, 32, 33, 34] (.region none [
     ⟨none, (some 31), .faddr 10 (.t 4)⟩,
     ⟨none, (some 32), .load none (.t 31)⟩,
     ⟨none, (some 33), .lenL (.t 32)⟩,
     ⟨none, (some 34), .mov (.c (.v (.int .i64 0)))⟩]))
   (.block 2 (.loop (.seq (.keep [1, 2, 3, 4, 32, 33, 34, 35] (.region none [
       ⟨none, (some 35), .bin .lss (.t 34) (.t 33)⟩]))
     (.seq (.cond (.t 35)
      (.skip)
      (.exit 2))
     (.seq (.block 3 (.seq (.keep [1, 2, 3, 4, 10, 11, 32, 33, 34] (.region none [
        ⟨none, (some 36), .mov (.t 34)⟩,
        ⟨none, (some 37), .iaddr 11 (.t 32) (.t 34)⟩,
        ⟨none, (some 38), .load (some 11) (.t 37)⟩,
        ⟨none, (some 11), .alloc 65 11 (.agg [(.v (.int .i64 0)), (.v (.string ⟨#[]⟩)), (.v (.int .i64 0)), (.v (.int .i64 0)), (.v (.int .i64 0)), (.v (.int .i64 0)), (.v (.string ⟨#[]⟩)), .nils, .nils, .nils, .nils])⟩,
        ⟨none, (some 10), .mov (.t 36)⟩,
        ⟨none, none, .store 11 (.t 11) (.t 38)⟩]))
      (.seq (.keep [1, 2, 3, 4, 10, 11, 12, 32, 33, 34] (.region none [
        ⟨none, (some 39), .mov (.t 2)⟩,
        ⟨none, (some 12), .mov (.t 39)⟩]))
      (.seq (.seq (.keep [1, 2, 3, 4, 10, 11, 12, 32, 33, 34, 46] (.region none [
        ⟨none, (some 40), .faddr 0 (.t 4)⟩,
        ⟨none, (some 41), .load none (.t 40)⟩,
        ⟨none, (some 42), .bin .eql (.t 41) (.c (.v (.int .i64 9)))⟩,
        ⟨none, (some 43), .mov (.t 42)⟩,
        ⟨(some (43, true)), (some 44), .mov (.t 10)⟩,
        ⟨(some (43, true)), (some 45), .bin .eql (.t 44) (.c (.v (.int .i64 1)))⟩,
        ⟨none, (some 46), .pick (.t 43) (.t 45) (.c (.v (.bool false)))⟩]))
      (.cond (.t 46)
       (.keep [1, 2, 3, 4, 10, 11, 12, 32, 33, 34] (.region none [
         ⟨none, (some 47), .mov (.t 2)⟩,
         ⟨none, (some 48), .faddr 10 (.t 4)⟩,
         ⟨none, (some 49), .load none (.t 48)⟩,
         ⟨none, (some 50), .iaddr 11 (.t 49) (.c (.v (.int .i64 0)))⟩,
         ⟨none, (some 51), .load (some 11) (.t 50)⟩,
         ⟨none, (some 52), .mov (.t 1)⟩,
         ⟨none, (some 53), .call F.impl_greatestScope [(.t 51), (.t 52)]⟩,
         ⟨none, (some 54), .pu .max [(.t 47), (.t 53)]⟩,
         ⟨none, (some 12), .mov (.t 54)⟩]))
       (.skip)))
      (.keep [1, 2, 3, 4, 32, 33, 34] (.region (some [[], [], [], [], [1, 2, 3], [], [], [0, 4, 5, 6, 4]]) [
        ⟨none, (some 55), .load (some 11) (.t 11)⟩,
        ⟨none, (some 56), .load (some 11) (.t 4)⟩,
        ⟨none, (some 57), .mov (.t 10)⟩,
        ⟨none, (some 58), .mov (.t 1)⟩,
        ⟨none, (some 59), .qcall F.impl_homeScope [(.t 56), (.t 57), (.t 58)]⟩,
        ⟨none, (some 60), .mov (.t 12)⟩,
        ⟨none, (some 61), .mov (.t 3)⟩,
        ⟨none, (some 62), .call F.impl_eachAt [(.t 55), (.t 59), (.t 60), (.t 61)]⟩]))))))
     (.keep [1, 2, 3, 4, 32, 33, 34] (.region none [
       ⟨none, (some 63), .bin .add (.t 34) (.c (.v (.int .i64 1)))⟩,
       ⟨none, (some 34), .mov (.t 63)⟩])))))))))
theorem A.impl_eachAt_ok : cFn Try.prog F.impl_eachAt A.impl_eachAt :=
  ⟨_, _, Try.func68, rfl, by kernel_rfl, rfl, by decide, by kernel_rfl, by kernel_rfl⟩
def A.impl_Uses_1 : AFn where
  nargs := 3
  nt := 19
  res := []
  code := .seq (.keep [0, 1, 2, 9] (.region none [
     ⟨none, (some 5), .mov (.t 0)⟩,
     ⟨none, (some 6), .load none (.t 2)⟩,
     ⟨none, (some 7), .lenL (.t 6)⟩,
     ⟨none, (some 8), .bin .sub (.t 7) (.c (.v (.int .i64 1)))⟩,
     ⟨none, (some 9), .call F.impl_within [(.t 5), (.c (.v (.int .i64 0))), (.t 8)]⟩]))
   (.cond (.t 9)
    (.keep [] (.region (some [[], [], [], [], [2, 3], [4], [], [5, 6], [0, 1, 0, 1, 2, 3, 4, 5, 6, 7], [8, 7, 0, 1, 2, 3, 4, 5, 6, 7]]) [
      ⟨none, (some 10), .load none (.t 2)⟩,
      ⟨none, (some 11), .mov (.t 0)⟩,
      ⟨none, (some 12), .load none (.t 2)⟩,
      ⟨none, (some 13), .mov (.t 0)⟩,
      ⟨none, (some 14), .iaddr 1 (.t 12) (.t 13)⟩,
      ⟨none, (some 15), .load none (.t 14)⟩,
      ⟨none, (some 16), .mov (.t 1)⟩,
      ⟨none, (some 17), .pu .max [(.t 15), (.t 16)]⟩,
      ⟨none, (some 18), .iaddr 1 (.t 10) (.t 11)⟩,
      ⟨none, none, .store 1 (.t 18) (.t 17)⟩]))
    (.skip))
theorem A.impl_Uses_1_ok : cFn Try.prog F.impl_Uses_1 A.impl_Uses_1 :=
  ⟨_, _, Try.func69, rfl, by kernel_rfl, rfl, by decide, by kernel_rfl, by kernel_rfl⟩
end Go.Proofs.Ab
