/-
  THE ABSTRACT CODE of some of this seat's functions, printed by a program of ours (wip/tool/Gen3.lean) from the translation; each with the theorem that it is that function's.
-/
import Derived.Test.YtaefihlbielllaaST
set_option linter.unusedVariables false
set_option linter.unusedSimpArgs false
set_option linter.defProp false
namespace Go.Proofs.Ab
open Go.Ab
set_option maxRecDepth 100000
def A.spec_Stats : AFn where
  nargs := 1
  nt := 30
  res := [.cell 2 (some 16)]
  code := .seq (.keep [1, 2] (.region none [
     ⟨none, (some 1), .box 31 2 (.t 0)⟩,
     ⟨none, (some 2), .alloc 27 16 (.agg [(.v (.int .i64 0)), (.v (.int .i64 0)), (.v (.int .i64 0)), (.v (.int .i64 0)), (.v (.int .i64 0)), (.v (.int .i64 0)), (.v (.int .i64 0)), (.v (.int .i64 0)), (.v (.int .i64 0)), (.v (.int .i64 0)), (.v (.int .i64 0)), (.v (.int .i64 0)), (.v (.int .i64 0)), (.v (.int .i64 0)), (.v (.int .i64 0)), (.v (.int .i64 0))])⟩]))
   (.seq (.keep [1, 2, 3] (.region none [
     ⟨none, (some 6), .build [(.v (.int .i64 0)), (.v (.int .i64 0)), (.v (.int .i64 0)), (.v (.int .i64 0)), (.v (.int .i64 0)), (.v (.int .i64 0)), (.v (.int .i64 0)), (.v (.int .i64 0)), (.v (.int .i64 0)), (.v (.int .i64 0)), (.v (.int .i64 0)), (.v (.int .i64 0)), (.v (.int .i64 0)), (.v (.int .i64 0)), (.v (.int .i64 0)), (.v (.int .i64 0))] []⟩,
     ⟨none, (some 3), .alloc 27 16 (.agg [(.v (.int .i64 0)), (.v (.int .i64 0)), (.v (.int .i64 0)), (.v (.int .i64 0)), (.v (.int .i64 0)), (.v (.int .i64 0)), (.v (.int .i64 0)), (.v (.int .i64 0)), (.v (.int .i64 0)), (.v (.int .i64 0)), (.v (.int .i64 0)), (.v (.int .i64 0)), (.v (.int .i64 0)), (.v (.int .i64 0)), (.v (.int .i64 0)), (.v (.int .i64 0))])⟩,
     ⟨none, none, .store 16 (.t 3) (.t 6)⟩]))
   (.seq (.seq (.keep [1, 2, 3, 4] (.region none [
     ⟨none, (some 4), .mov (.c (.v (.int .i64 0)))⟩]))
   (.block 0 (.loop (.seq (.seq (.keep [1, 2, 3, 4, 11] (.region none [
       ⟨none, (some 7), .mov (.t 4)⟩,
       ⟨none, (some 8), .faddr 0 (.t 1)⟩,
       ⟨none, (some 9), .load none (.t 8)⟩,
       ⟨none, (some 10), .lenL (.t 9)⟩,
       ⟨none, (some 11), .bin .lss (.t 7) (.t 10)⟩]))
     (.cond (.t 11)
      (.skip)
      (.exit 0)))
     (.seq (.block 1 (.seq (.keep [1, 2, 3, 4, 5] (.region none [
        ⟨none, (some 14), .faddr 0 (.t 1)⟩,
        ⟨none, (some 15), .load none (.t 14)⟩,
        ⟨none, (some 16), .mov (.t 4)⟩,
        ⟨none, (some 17), .iaddr 6 (.t 15) (.t 16)⟩,
        ⟨none, (some 18), .faddr 0 (.t 17)⟩,
        ⟨none, (some 19), .load none (.t 18)⟩,
        ⟨none, (some 5), .mov (.t 19)⟩]))
      (.seq (.seq (.keep [1, 2, 3, 4, 5, 22] (.region none [
        ⟨none, (some 20), .mov (.t 5)⟩,
        ⟨none, (some 21), .call F.spec_l1In [(.t 20), (.c (.v (.int .i64 1))), (.c (.v (.int .i64 15)))]⟩,
        ⟨none, (some 22), .un .not (.t 21)⟩]))
      (.cond (.t 22)
       (.keep [1, 2, 3, 4, 5] (.region none [
         ⟨none, (some 5), .mov (.c (.v (.int .i64 0)))⟩]))
       (.skip)))
      (.keep [1, 2, 3, 4] (.region none [
        ⟨none, (some 23), .mov (.t 5)⟩,
        ⟨none, (some 24), .mov (.t 5)⟩,
        ⟨none, (some 25), .aaddr 16 1 (.t 3) (.t 24)⟩,
        ⟨none, (some 26), .load none (.t 25)⟩,
        ⟨none, (some 27), .bin .add (.t 26) (.c (.v (.int .i64 1)))⟩,
        ⟨none, (some 28), .aaddr 16 1 (.t 3) (.t 23)⟩,
        ⟨none, none, .store 1 (.t 28) (.t 27)⟩])))))
     (.keep [1, 2, 3, 4] (.region none [
       ⟨none, (some 12), .mov (.t 4)⟩,
       ⟨none, (some 13), .bin .add (.t 12) (.c (.v (.int .i64 1)))⟩,
       ⟨none, (some 4), .mov (.t 13)⟩])))))))
   (.seq (.keep [2] (.region none [
     ⟨none, (some 29), .load (some 16) (.t 3)⟩,
     ⟨none, none, .store 16 (.t 2) (.t 29)⟩]))
   (.ret))))
theorem A.spec_Stats_ok : cFn Try.prog F.spec_Stats A.spec_Stats :=
  ⟨_, _, Try.func9, rfl, by kernel_rfl, rfl, by decide, by kernel_rfl, by kernel_rfl⟩
def A.impl_Stats : AFn where
  nargs := 1
  nt := 28
  res := [.cell 2 (some 16)]
  code := .seq (.keep [1, 2] (.region none [
     ⟨none, (some 1), .box 31 2 (.t 0)⟩,
     ⟨none, (some 2), .alloc 27 16 (.agg [(.v (.int .i64 0)), (.v (.int .i64 0)), (.v (.int .i64 0)), (.v (.int .i64 0)), (.v (.int .i64 0)), (.v (.int .i64 0)), (.v (.int .i64 0)), (.v (.int .i64 0)), (.v (.int .i64 0)), (.v (.int .i64 0)), (.v (.int .i64 0)), (.v (.int .i64 0)), (.v (.int .i64 0)), (.v (.int .i64 0)), (.v (.int .i64 0)), (.v (.int .i64 0))])⟩]))
   (.seq (.keep [1, 2, 3] (.region none [
     ⟨none, (some 3), .alloc 27 16 (.agg [(.v (.int .i64 0)), (.v (.int .i64 0)), (.v (.int .i64 0)), (.v (.int .i64 0)), (.v (.int .i64 0)), (.v (.int .i64 0)), (.v (.int .i64 0)), (.v (.int .i64 0)), (.v (.int .i64 0)), (.v (.int .i64 0)), (.v (.int .i64 0)), (.v (.int .i64 0)), (.v (.int .i64 0)), (.v (.int .i64 0)), (.v (.int .i64 0)), (.v (.int .i64 0))])⟩]))
   (.seq (.seq (.keep [2, 3, 7, 8, 9] (.region none [
     ⟨none, (some 6), .faddr 0 (.t 1)⟩,
     ⟨none, (some 7), .load none (.t 6)⟩,
     ⟨none, (some 8), .lenL (.t 7)⟩,
     ⟨none, (some 9), .mov (.c (.v (.int .i64 0)))⟩]))
   (.block 0 (.loop (.seq (.keep [2, 3, 7, 8, 9, 10] (.region none [
       ⟨none, (some 10), .bin .lss (.t 9) (.t 8)⟩]))
     (.seq (.cond (.t 10)
      (.skip)
      (.exit 0))
     (.seq (.block 1 (.seq (.keep [2, 3, 5, 7, 8, 9] (.region none [
        ⟨none, (some 11), .iaddr 6 (.t 7) (.t 9)⟩,
        ⟨none, (some 12), .load (some 6) (.t 11)⟩,
        ⟨none, (some 5), .alloc 65 6 (.agg [(.v (.int .i64 0)), (.v (.int .i64 0)), (.v (.int .i64 0)), (.v (.int .i64 0)), (.v (.int .i64 0)), (.v (.string ⟨#[]⟩))])⟩,
        ⟨none, none, .store 6 (.t 5) (.t 12)⟩]))
      (.seq (.keep [2, 3, 5, 7, 8, 9, 15] (.region none [
        ⟨none, (some 13), .faddr 0 (.t 5)⟩,
        ⟨none, (some 14), .load none (.t 13)⟩,
        ⟨none, (some 15), .call F.impl_within [(.t 14), (.c (.v (.int .i64 1))), (.c (.v (.int .i64 15)))]⟩]))
      (.cond (.t 15)
       (.keep [2, 3, 7, 8, 9] (.region none [
         ⟨none, (some 16), .faddr 0 (.t 5)⟩,
         ⟨none, (some 17), .load none (.t 16)⟩,
         ⟨none, (some 18), .aaddr 16 1 (.t 3) (.t 17)⟩,
         ⟨none, (some 19), .load none (.t 18)⟩,
         ⟨none, (some 20), .bin .add (.t 19) (.c (.v (.int .i64 1)))⟩,
         ⟨none, (some 21), .aaddr 16 1 (.t 3) (.t 17)⟩,
         ⟨none, none, .store 1 (.t 21) (.t 20)⟩]))
       (.keep [2, 3, 7, 8, 9] (.region none [
         ⟨none, (some 22), .aaddr 16 1 (.t 3) (.c (.v (.int .i64 0)))⟩,
         ⟨none, (some 23), .load none (.t 22)⟩,
         ⟨none, (some 24), .bin .add (.t 23) (.c (.v (.int .i64 1)))⟩,
         ⟨none, (some 25), .aaddr 16 1 (.t 3) (.c (.v (.int .i64 0)))⟩,
         ⟨none, none, .store 1 (.t 25) (.t 24)⟩]))))))
     (.keep [2, 3, 7, 8, 9] (.region none [
       ⟨none, (some 26), .bin .add (.t 9) (.c (.v (.int .i64 1)))⟩,
       ⟨none, (some 9), .mov (.t 26)⟩]))))))))
   (.seq (.keep [2] (.region none [
     ⟨none, (some 27), .load (some 16) (.t 3)⟩,
     ⟨none, none, .store 16 (.t 2) (.t 27)⟩]))
   (.ret))))
theorem A.impl_Stats_ok : cFn Try.prog F.impl_Stats A.impl_Stats :=
  ⟨_, _, Try.func11, rfl, by kernel_rfl, rfl, by decide, by kernel_rfl, by kernel_rfl⟩
def A.laws_eqIntA16 : AFn where
  nargs := 2
  nt := 17
  res := [.tmp 4]
  code := .seq (.keep [2, 3] (.region none [
     ⟨none, (some 2), .box 27 16 (.t 0)⟩,
     ⟨none, (some 3), .box 27 16 (.t 1)⟩,
     ⟨none, (some 4), .mov (.c (.v (.bool false)))⟩]))
   (.seq (.seq (.keep [2, 3, 5] (.region none [
     ⟨none, (some 5), .mov (.c (.v (.int .i64 0)))⟩]))
   (.block 0 (.loop (.seq (.seq (.keep [2, 3, 5, 7] (.region none [
       ⟨none, (some 6), .mov (.t 5)⟩,
       ⟨none, (some 7), .bin .lss (.t 6) (.c (.v (.int .i64 16)))⟩]))
     (.cond (.t 7)
      (.skip)
      (.exit 0)))
     (.seq (.block 1 (.seq (.keep [2, 3, 5, 16] (.region (some [[], [0], [1], [], [3], [4], [2, 5]]) [
        ⟨none, (some 10), .mov (.t 5)⟩,
        ⟨none, (some 11), .aaddr 16 1 (.t 2) (.t 10)⟩,
        ⟨none, (some 12), .load none (.t 11)⟩,
        ⟨none, (some 13), .mov (.t 5)⟩,
        ⟨none, (some 14), .aaddr 16 1 (.t 3) (.t 13)⟩,
        ⟨none, (some 15), .load none (.t 14)⟩,
        ⟨none, (some 16), .bin .neq (.t 12) (.t 15)⟩]))
      (.cond (.t 16)
       (.seq (.keep [4] (.region none [
         ⟨none, (some 4), .mov (.c (.v (.bool false)))⟩]))
       (.ret))
       (.skip))))
     (.keep [2, 3, 5] (.region none [
       ⟨none, (some 8), .mov (.t 5)⟩,
       ⟨none, (some 9), .bin .add (.t 8) (.c (.v (.int .i64 1)))⟩,
       ⟨none, (some 5), .mov (.t 9)⟩])))))))
   (.seq (.keep [4] (.region none [
     ⟨none, (some 4), .mov (.c (.v (.bool true)))⟩]))
   (.ret)))
theorem A.laws_eqIntA16_ok : cFn Try.prog F.laws_eqIntA16 A.laws_eqIntA16 :=
  ⟨_, _, Try.func12, rfl, by kernel_rfl, rfl, by decide, by kernel_rfl, by kernel_rfl⟩
end Go.Proofs.Ab
