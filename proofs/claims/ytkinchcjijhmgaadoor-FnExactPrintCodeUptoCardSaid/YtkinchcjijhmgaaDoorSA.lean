/-
  THE ABSTRACT CODE of some of this seat's functions, printed by a program of ours (wip/tool/Gen3.lean) from the translation; each with the theorem that it is that function's.
-/
import Derived.Test.YtkinchcjijhmgaaDoorST
set_option linter.unusedVariables false
set_option linter.unusedSimpArgs false
set_option linter.defProp false
namespace Go.Proofs.Ab
open Go.Ab
set_option maxRecDepth 100000
def A.spec_PrintCode : AFn where
  nargs := 1
  nt := 50
  res := [.tmp 2]
  code := .seq (.keep [1] (.region none [
     ⟨none, (some 1), .box 30 2 (.t 0)⟩,
     ⟨none, (some 2), .mov (.c (.v (.string ⟨#[]⟩)))⟩]))
   (.seq (.seq (.keep [1, 8] (.region none [
     ⟨none, (some 6), .load (some 2) (.t 1)⟩,
     ⟨none, (some 7), .call F.spec_CodeOk [(.t 6)]⟩,
     ⟨none, (some 8), .un .not (.t 7)⟩]))
   (.cond (.t 8)
    (.seq (.keep [2] (.region none [
      ⟨none, (some 2), .mov (.c (.v (.string ⟨#[]⟩)))⟩]))
    (.ret))
    (.skip)))
   (.seq (.keep [1, 3] (.region none [
     ⟨none, (some 9), .buildSlice 5 1 6 (.v (.int .u8 0)) [(0, (.c (.v (.int .u8 115)))), (1, (.c (.v (.int .u8 116)))), (2, (.c (.v (.int .u8 97)))), (3, (.c (.v (.int .u8 114)))), (4, (.c (.v (.int .u8 116)))), (5, (.c (.v (.int .u8 115))))]⟩,
     ⟨none, (some 10), .markS 5 (.t 9)⟩,
     ⟨none, (some 3), .mov (.t 10)⟩]))
   (.seq (.seq (.keep [1, 3, 4] (.region none [
     ⟨none, (some 4), .mov (.c (.v (.int .i64 0)))⟩]))
   (.block 0 (.loop (.seq (.seq (.keep [1, 3, 4, 15] (.region none [
       ⟨none, (some 11), .mov (.t 4)⟩,
       ⟨none, (some 12), .faddr 1 (.t 1)⟩,
       ⟨none, (some 13), .load none (.t 12)⟩,
       ⟨none, (some 14), .lenL (.t 13)⟩,
       ⟨none, (some 15), .bin .lss (.t 11) (.t 14)⟩]))
     (.cond (.t 15)
      (.skip)
      (.exit 0)))
     (.seq (.block 1 (.keep [1, 3, 4] (.region (some [[], [], [0, 1], [], [3], [], [4, 5], [6], [7, 2], [2, 8, 8], [9, 9, 0, 1, 2, 3, 4, 5, 6, 7, 8, 9]]) [
        ⟨none, (some 18), .mov (.t 3)⟩,
        ⟨none, (some 19), .buildSlice 5 1 1 (.v (.int .u8 0)) [(0, (.c (.v (.int .u8 32))))]⟩,
        ⟨none, (some 20), .app 5 1 1 (.t 18) (.t 19)⟩,
        ⟨none, (some 21), .faddr 1 (.t 1)⟩,
        ⟨none, (some 22), .load none (.t 21)⟩,
        ⟨none, (some 23), .mov (.t 4)⟩,
        ⟨none, (some 24), .iaddr 1 (.t 22) (.t 23)⟩,
        ⟨none, (some 25), .load none (.t 24)⟩,
        ⟨none, (some 26), .qcall F.spec_l1Decimal [(.t 25)]⟩,
        ⟨none, (some 27), .appS 5 1 1 (.t 20) (.t 26)⟩,
        ⟨none, (some 3), .mov (.t 27)⟩])))
     (.keep [1, 3, 4] (.region none [
       ⟨none, (some 16), .mov (.t 4)⟩,
       ⟨none, (some 17), .bin .add (.t 16) (.c (.v (.int .i64 1)))⟩,
       ⟨none, (some 4), .mov (.t 17)⟩])))))))
   (.seq (.keep [1, 3] (.region none [
     ⟨none, (some 28), .mov (.t 3)⟩,
     ⟨none, (some 29), .buildSlice 5 1 1 (.v (.int .u8 0)) [(0, (.c (.v (.int .u8 10))))]⟩,
     ⟨none, (some 30), .app 5 1 1 (.t 28) (.t 29)⟩,
     ⟨none, (some 3), .mov (.t 30)⟩]))
   (.seq (.seq (.keep [1, 3, 5] (.region none [
     ⟨none, (some 5), .mov (.c (.v (.int .i64 0)))⟩]))
   (.block 2 (.loop (.seq (.seq (.keep [1, 3, 5, 35] (.region none [
       ⟨none, (some 31), .mov (.t 5)⟩,
       ⟨none, (some 32), .faddr 0 (.t 1)⟩,
       ⟨none, (some 33), .load none (.t 32)⟩,
       ⟨none, (some 34), .lenL (.t 33)⟩,
       ⟨none, (some 35), .bin .lss (.t 31) (.t 34)⟩]))
     (.cond (.t 35)
      (.skip)
      (.exit 2)))
     (.seq (.block 3 (.keep [1, 3, 5] (.region none [
        ⟨none, (some 38), .mov (.t 3)⟩,
        ⟨none, (some 39), .faddr 0 (.t 1)⟩,
        ⟨none, (some 40), .load none (.t 39)⟩,
        ⟨none, (some 41), .mov (.t 5)⟩,
        ⟨none, (some 42), .iaddr 6 (.t 40) (.t 41)⟩,
        ⟨none, (some 43), .load (some 6) (.t 42)⟩,
        ⟨none, (some 44), .call F.spec_l16Line [(.t 43)]⟩,
        ⟨none, (some 45), .appS 5 1 1 (.t 38) (.t 44)⟩,
        ⟨none, (some 46), .buildSlice 5 1 1 (.v (.int .u8 0)) [(0, (.c (.v (.int .u8 10))))]⟩,
        ⟨none, (some 47), .app 5 1 1 (.t 45) (.t 46)⟩,
        ⟨none, (some 3), .mov (.t 47)⟩])))
     (.keep [1, 3, 5] (.region none [
       ⟨none, (some 36), .mov (.t 5)⟩,
       ⟨none, (some 37), .bin .add (.t 36) (.c (.v (.int .i64 1)))⟩,
       ⟨none, (some 5), .mov (.t 37)⟩])))))))
   (.seq (.keep [2] (.region none [
     ⟨none, (some 48), .mov (.t 3)⟩,
     ⟨none, (some 49), .pu .b2s [(.t 48)]⟩,
     ⟨none, (some 2), .mov (.t 49)⟩]))
   (.ret)))))))
theorem A.spec_PrintCode_ok : cFn Tryd.prog F.spec_PrintCode A.spec_PrintCode :=
  ⟨_, _, Tryd.func5, rfl, by kernel_rfl, rfl, by decide, by kernel_rfl, by kernel_rfl⟩
def A.impl_PrintCode : AFn where
  nargs := 1
  nt := 44
  res := [.tmp 2]
  code := .seq (.keep [1] (.region none [
     ⟨none, (some 1), .box 30 2 (.t 0)⟩,
     ⟨none, (some 2), .mov (.c (.v (.string ⟨#[]⟩)))⟩]))
   (.seq (.seq (.keep [1, 10] (.region none [
     ⟨none, (some 8), .load (some 2) (.t 1)⟩,
     ⟨none, (some 9), .call F.impl_CodeOk [(.t 8)]⟩,
     ⟨none, (some 10), .un .not (.t 9)⟩]))
   (.cond (.t 10)
    (.seq (.keep [2] (.region none [
      ⟨none, (some 2), .mov (.c (.v (.string ⟨#[]⟩)))⟩]))
    (.ret))
    (.skip)))
   (.seq (.keep [1, 3] (.region none [
     ⟨none, (some 11), .buildSlice 5 1 6 (.v (.int .u8 0)) [(0, (.c (.v (.int .u8 115)))), (1, (.c (.v (.int .u8 116)))), (2, (.c (.v (.int .u8 97)))), (3, (.c (.v (.int .u8 114)))), (4, (.c (.v (.int .u8 116)))), (5, (.c (.v (.int .u8 115))))]⟩,
     ⟨none, (some 12), .markS 5 (.t 11)⟩,
     ⟨none, (some 3), .mov (.t 12)⟩]))
   (.seq (.seq (.keep [1, 3, 14, 15, 16] (.region none [
     ⟨none, (some 13), .faddr 1 (.t 1)⟩,
     ⟨none, (some 14), .load none (.t 13)⟩,
     ⟨none, (some 15), .lenL (.t 14)⟩,
     ⟨none, (some 16), .mov (.c (.v (.int .i64 0)))⟩]))
   (.block 0 (.loop (.seq (.keep [1, 3, 14, 15, 16, 17] (.region none [
       ⟨none, (some 17), .bin .lss (.t 16) (.t 15)⟩]))
     (.seq (.cond (.t 17)
      (.skip)
      (.exit 0))
     (.seq (.block 1 (.seq (.keep [1, 3, 5, 14, 15, 16] (.region none [
        ⟨none, (some 18), .iaddr 1 (.t 14) (.t 16)⟩,
        ⟨none, (some 19), .load none (.t 18)⟩,
        ⟨none, (some 5), .mov (.t 19)⟩]))
      (.keep [1, 3, 14, 15, 16] (.region none [
        ⟨none, (some 20), .mov (.t 3)⟩,
        ⟨none, (some 21), .mov (.t 5)⟩,
        ⟨none, (some 22), .call F.strconv_Itoa [(.t 21)]⟩,
        ⟨none, (some 23), .bin .add (.c (.v (.string ⟨#[32]⟩))) (.t 22)⟩,
        ⟨none, (some 24), .appS 5 1 1 (.t 20) (.t 23)⟩,
        ⟨none, (some 3), .mov (.t 24)⟩]))))
     (.keep [1, 3, 14, 15, 16] (.region none [
       ⟨none, (some 25), .bin .add (.t 16) (.c (.v (.int .i64 1)))⟩,
       ⟨none, (some 16), .mov (.t 25)⟩]))))))))
   (.seq (.keep [1, 3] (.region none [
     ⟨none, (some 26), .mov (.t 3)⟩,
     ⟨none, (some 27), .buildSlice 5 1 1 (.v (.int .u8 0)) [(0, (.c (.v (.int .u8 10))))]⟩,
     ⟨none, (some 28), .app 5 1 1 (.t 26) (.t 27)⟩,
     ⟨none, (some 3), .mov (.t 28)⟩]))
   (.seq (.seq (.keep [3, 30, 31, 32] (.region none [
     ⟨none, (some 29), .faddr 0 (.t 1)⟩,
     ⟨none, (some 30), .load none (.t 29)⟩,
     ⟨none, (some 31), .lenL (.t 30)⟩,
     ⟨none, (some 32), .mov (.c (.v (.int .i64 0)))⟩]))
   (.block 2 (.loop (.seq (.keep [3, 30, 31, 32, 33] (.region none [
       ⟨none, (some 33), .bin .lss (.t 32) (.t 31)⟩]))
     (.seq (.cond (.t 33)
      (.skip)
      (.exit 2))
     (.seq (.block 3 (.seq (.keep [3, 7, 30, 31, 32] (.region none [
        ⟨none, (some 34), .iaddr 6 (.t 30) (.t 32)⟩,
        ⟨none, (some 35), .load (some 6) (.t 34)⟩,
        ⟨none, (some 7), .alloc 41 6 (.agg [(.v (.int .i64 0)), (.v (.int .i64 0)), (.v (.int .i64 0)), (.v (.int .i64 0)), (.v (.int .i64 0)), (.v (.string ⟨#[]⟩))])⟩,
        ⟨none, none, .store 6 (.t 7) (.t 35)⟩]))
      (.keep [3, 30, 31, 32] (.region none [
        ⟨none, (some 36), .mov (.t 3)⟩,
        ⟨none, (some 37), .load (some 6) (.t 7)⟩,
        ⟨none, (some 38), .call F.impl_instrLine [(.t 37)]⟩,
        ⟨none, (some 39), .bin .add (.t 38) (.c (.v (.string ⟨#[10]⟩)))⟩,
        ⟨none, (some 40), .appS 5 1 1 (.t 36) (.t 39)⟩,
        ⟨none, (some 3), .mov (.t 40)⟩]))))
     (.keep [3, 30, 31, 32] (.region none [
       ⟨none, (some 41), .bin .add (.t 32) (.c (.v (.int .i64 1)))⟩,
       ⟨none, (some 32), .mov (.t 41)⟩]))))))))
   (.seq (.keep [2] (.region none [
     ⟨none, (some 42), .mov (.t 3)⟩,
     ⟨none, (some 43), .pu .b2s [(.t 42)]⟩,
     ⟨none, (some 2), .mov (.t 43)⟩]))
   (.ret)))))))
theorem A.impl_PrintCode_ok : cFn Tryd.prog F.impl_PrintCode A.impl_PrintCode :=
  ⟨_, _, Tryd.func7, rfl, by kernel_rfl, rfl, by decide, by kernel_rfl, by kernel_rfl⟩
def A.impl_instrLine : AFn where
  nargs := 1
  nt := 57
  res := [.tmp 2]
  code := .seq (.keep [1] (.region none [
     ⟨none, (some 1), .box 41 6 (.t 0)⟩,
     ⟨none, (some 2), .mov (.c (.v (.string ⟨#[]⟩)))⟩]))
   (.seq (.keep [1, 3] (.region none [
     ⟨none, (some 7), .load (some 6) (.t 1)⟩,
     ⟨none, (some 8), .call F.impl_formOf [(.t 7)]⟩,
     ⟨none, (some 3), .alloc 62 2 (.agg [(.v (.string ⟨#[]⟩)), (.v (.string ⟨#[]⟩))])⟩,
     ⟨none, none, .store 2 (.t 3) (.t 8)⟩]))
   (.seq (.keep [1, 3, 4] (.region none [
     ⟨none, (some 9), .faddr 0 (.t 3)⟩,
     ⟨none, (some 10), .load none (.t 9)⟩,
     ⟨none, (some 4), .mov (.t 10)⟩]))
   (.seq (.seq (.keep [1, 4, 13] (.region none [
     ⟨none, (some 11), .faddr 1 (.t 3)⟩,
     ⟨none, (some 12), .load none (.t 11)⟩,
     ⟨none, (some 13), .strit (.t 12)⟩]))
   (.block 0 (.loop (.seq (.keep [1, 4, 13, 14, 15] (.region none [
       ⟨none, (some 14), .snext (.t 13)⟩,
       ⟨none, (some 15), .ext (.t 14) 0⟩]))
     (.seq (.cond (.t 15)
      (.skip)
      (.exit 0))
     (.block 1 (.seq (.keep [1, 4, 6, 13] (.region none [
        ⟨none, (some 16), .ext (.t 14) 2⟩,
        ⟨none, (some 6), .mov (.t 16)⟩]))
      (.seq (.keep [1, 4, 13, 17] (.region none [
        ⟨none, (some 17), .mov (.t 6)⟩]))
      (.block 2 (.seq (.keep [1, 4, 13, 17, 24] (.region none [
         ⟨none, (some 25), .bin .eql (.t 17) (.c (.v (.int .i32 97)))⟩,
         ⟨none, (some 24), .mov (.t 25)⟩]))
       (.cond (.t 24)
        (.keep [1, 4, 13] (.region none [
          ⟨none, (some 26), .mov (.t 4)⟩,
          ⟨none, (some 27), .faddr 1 (.t 1)⟩,
          ⟨none, (some 28), .load none (.t 27)⟩,
          ⟨none, (some 29), .call F.strconv_Itoa [(.t 28)]⟩,
          ⟨none, (some 30), .bin .add (.c (.v (.string ⟨#[32, 114]⟩))) (.t 29)⟩,
          ⟨none, (some 31), .bin .add (.t 26) (.t 30)⟩,
          ⟨none, (some 4), .mov (.t 31)⟩]))
        (.seq (.keep [1, 4, 13, 17, 32] (.region none [
          ⟨none, (some 33), .bin .eql (.t 17) (.c (.v (.int .i32 98)))⟩,
          ⟨none, (some 32), .mov (.t 33)⟩]))
        (.cond (.t 32)
         (.keep [1, 4, 13] (.region none [
           ⟨none, (some 34), .mov (.t 4)⟩,
           ⟨none, (some 35), .faddr 2 (.t 1)⟩,
           ⟨none, (some 36), .load none (.t 35)⟩,
           ⟨none, (some 37), .call F.strconv_Itoa [(.t 36)]⟩,
           ⟨none, (some 38), .bin .add (.c (.v (.string ⟨#[32, 114]⟩))) (.t 37)⟩,
           ⟨none, (some 39), .bin .add (.t 34) (.t 38)⟩,
           ⟨none, (some 4), .mov (.t 39)⟩]))
         (.seq (.keep [1, 4, 13, 17, 40] (.region none [
           ⟨none, (some 41), .bin .eql (.t 17) (.c (.v (.int .i32 99)))⟩,
           ⟨none, (some 40), .mov (.t 41)⟩]))
         (.cond (.t 40)
          (.keep [1, 4, 13] (.region none [
            ⟨none, (some 42), .mov (.t 4)⟩,
            ⟨none, (some 43), .faddr 3 (.t 1)⟩,
            ⟨none, (some 44), .load none (.t 43)⟩,
            ⟨none, (some 45), .call F.strconv_Itoa [(.t 44)]⟩,
            ⟨none, (some 46), .bin .add (.c (.v (.string ⟨#[32, 114]⟩))) (.t 45)⟩,
            ⟨none, (some 47), .bin .add (.t 42) (.t 46)⟩,
            ⟨none, (some 4), .mov (.t 47)⟩]))
          (.seq (.keep [1, 4, 13, 48] (.region none [
            ⟨none, (some 49), .bin .eql (.t 17) (.c (.v (.int .i32 110)))⟩,
            ⟨none, (some 48), .mov (.t 49)⟩]))
          (.cond (.t 48)
           (.keep [1, 4, 13] (.region none [
             ⟨none, (some 50), .mov (.t 4)⟩,
             ⟨none, (some 51), .faddr 4 (.t 1)⟩,
             ⟨none, (some 52), .load none (.t 51)⟩,
             ⟨none, (some 53), .call F.strconv_Itoa [(.t 52)]⟩,
             ⟨none, (some 54), .bin .add (.c (.v (.string ⟨#[32]⟩))) (.t 53)⟩,
             ⟨none, (some 55), .bin .add (.t 50) (.t 54)⟩,
             ⟨none, (some 4), .mov (.t 55)⟩]))
           (.keep [1, 4, 13] (.region none [
             ⟨none, (some 18), .mov (.t 4)⟩,
             ⟨none, (some 19), .faddr 5 (.t 1)⟩,
             ⟨none, (some 20), .load none (.t 19)⟩,
             ⟨none, (some 21), .call F.impl_quoted [(.t 20)]⟩,
             ⟨none, (some 22), .bin .add (.c (.v (.string ⟨#[32]⟩))) (.t 21)⟩,
             ⟨none, (some 23), .bin .add (.t 18) (.t 22)⟩,
             ⟨none, (some 4), .mov (.t 23)⟩])))))))))))))))))))
   (.seq (.keep [2] (.region none [
     ⟨none, (some 56), .mov (.t 4)⟩,
     ⟨none, (some 2), .mov (.t 56)⟩]))
   (.ret)))))
theorem A.impl_instrLine_ok : cFn Tryd.prog F.impl_instrLine A.impl_instrLine :=
  ⟨_, _, Tryd.func18, rfl, by kernel_rfl, rfl, by decide, by kernel_rfl, by kernel_rfl⟩
def A.impl_formOf : AFn where
  nargs := 1
  nt := 48
  res := [.cell 2 (some 2)]
  code := .seq (.keep [1, 2] (.region none [
     ⟨none, (some 1), .box 41 6 (.t 0)⟩,
     ⟨none, (some 2), .alloc 62 2 (.agg [(.v (.string ⟨#[]⟩)), (.v (.string ⟨#[]⟩))])⟩]))
   (.seq (.keep [1, 2, 3] (.region none [
     ⟨none, (some 5), .mkmap⟩,
     ⟨none, none, .mset .str (.t 5) (.c (.v (.string ⟨#[43]⟩))) (.c (.v (.string ⟨#[97, 100, 100]⟩)))⟩,
     ⟨none, none, .mset .str (.t 5) (.c (.v (.string ⟨#[45]⟩))) (.c (.v (.string ⟨#[115, 117, 98]⟩)))⟩,
     ⟨none, none, .mset .str (.t 5) (.c (.v (.string ⟨#[42]⟩))) (.c (.v (.string ⟨#[109, 117, 108]⟩)))⟩,
     ⟨none, none, .mset .str (.t 5) (.c (.v (.string ⟨#[61]⟩))) (.c (.v (.string ⟨#[101, 113]⟩)))⟩,
     ⟨none, none, .mset .str (.t 5) (.c (.v (.string ⟨#[60]⟩))) (.c (.v (.string ⟨#[108, 116]⟩)))⟩,
     ⟨none, none, .mset .str (.t 5) (.c (.v (.string ⟨#[94]⟩))) (.c (.v (.string ⟨#[99, 97, 116]⟩)))⟩,
     ⟨none, (some 6), .mov (.t 5)⟩,
     ⟨none, (some 3), .mov (.t 6)⟩]))
   (.seq (.seq (.keep [1, 2, 3, 9] (.region none [
     ⟨none, (some 7), .faddr 0 (.t 1)⟩,
     ⟨none, (some 8), .load none (.t 7)⟩,
     ⟨none, (some 9), .bin .neq (.t 8) (.c (.v (.int .i64 7)))⟩]))
   (.cond (.t 9)
    (.seq (.keep [1, 2, 4] (.region none [
      ⟨none, (some 10), .build [(.v (.string ⟨#[]⟩)), (.v (.string ⟨#[]⟩))] [(0, 1, (.c (.v (.string ⟨#[105, 110, 116]⟩)))), (1, 1, (.c (.v (.string ⟨#[97, 110]⟩))))]⟩,
      ⟨none, (some 11), .build [(.v (.string ⟨#[]⟩)), (.v (.string ⟨#[]⟩))] [(0, 1, (.c (.v (.string ⟨#[115, 116, 114]⟩)))), (1, 1, (.c (.v (.string ⟨#[97, 116]⟩))))]⟩,
      ⟨none, (some 12), .build [(.v (.string ⟨#[]⟩)), (.v (.string ⟨#[]⟩))] [(0, 1, (.c (.v (.string ⟨#[108, 97, 98]⟩)))), (1, 1, (.c (.v (.string ⟨#[97, 110]⟩))))]⟩,
      ⟨none, (some 13), .build [(.v (.string ⟨#[]⟩)), (.v (.string ⟨#[]⟩))] [(0, 1, (.c (.v (.string ⟨#[109, 111, 118, 101]⟩)))), (1, 1, (.c (.v (.string ⟨#[97, 98]⟩))))]⟩,
      ⟨none, (some 14), .build [(.v (.string ⟨#[]⟩)), (.v (.string ⟨#[]⟩))] [(0, 1, (.c (.v (.string ⟨#[108, 111, 97, 100]⟩)))), (1, 1, (.c (.v (.string ⟨#[97, 110]⟩))))]⟩,
      ⟨none, (some 15), .build [(.v (.string ⟨#[]⟩)), (.v (.string ⟨#[]⟩))] [(0, 1, (.c (.v (.string ⟨#[115, 116, 111, 114, 101]⟩)))), (1, 1, (.c (.v (.string ⟨#[97, 110]⟩))))]⟩,
      ⟨none, (some 16), .build [(.v (.string ⟨#[]⟩)), (.v (.string ⟨#[]⟩))] []⟩,
      ⟨none, (some 17), .build [(.v (.string ⟨#[]⟩)), (.v (.string ⟨#[]⟩))] [(0, 1, (.c (.v (.string ⟨#[110, 101, 119]⟩)))), (1, 1, (.c (.v (.string ⟨#[97, 110]⟩))))]⟩,
      ⟨none, (some 18), .build [(.v (.string ⟨#[]⟩)), (.v (.string ⟨#[]⟩))] [(0, 1, (.c (.v (.string ⟨#[112, 117, 116]⟩)))), (1, 1, (.c (.v (.string ⟨#[97, 110, 98]⟩))))]⟩,
      ⟨none, (some 19), .build [(.v (.string ⟨#[]⟩)), (.v (.string ⟨#[]⟩))] [(0, 1, (.c (.v (.string ⟨#[103, 101, 116]⟩)))), (1, 1, (.c (.v (.string ⟨#[97, 98, 110]⟩))))]⟩,
      ⟨none, (some 20), .build [(.v (.string ⟨#[]⟩)), (.v (.string ⟨#[]⟩))] [(0, 1, (.c (.v (.string ⟨#[122, 101, 114, 111]⟩)))), (1, 1, (.c (.v (.string ⟨#[97, 110]⟩))))]⟩,
      ⟨none, (some 21), .build [(.v (.string ⟨#[]⟩)), (.v (.string ⟨#[]⟩))] [(0, 1, (.c (.v (.string ⟨#[106, 117, 109, 112]⟩)))), (1, 1, (.c (.v (.string ⟨#[110]⟩))))]⟩,
      ⟨none, (some 22), .build [(.v (.string ⟨#[]⟩)), (.v (.string ⟨#[]⟩))] [(0, 1, (.c (.v (.string ⟨#[103, 111]⟩)))), (1, 1, (.c (.v (.string ⟨#[97]⟩))))]⟩,
      ⟨none, (some 23), .build [(.v (.string ⟨#[]⟩)), (.v (.string ⟨#[]⟩))] [(0, 1, (.c (.v (.string ⟨#[101, 120, 105, 116]⟩)))), (1, 1, (.c (.v (.string ⟨#[97]⟩))))]⟩,
      ⟨none, (some 24), .build [(.v (.string ⟨#[]⟩)), (.v (.string ⟨#[]⟩))] [(0, 1, (.c (.v (.string ⟨#[102, 97, 105, 108]⟩)))), (1, 1, (.c (.v (.string ⟨#[110]⟩))))]⟩,
      ⟨none, (some 25), .buildSlice 62 2 15 (.agg [(.v (.string ⟨#[]⟩)), (.v (.string ⟨#[]⟩))]) [(0, (.t 10)), (1, (.t 11)), (2, (.t 12)), (3, (.t 13)), (4, (.t 14)), (5, (.t 15)), (6, (.t 16)), (7, (.t 17)), (8, (.t 18)), (9, (.t 19)), (10, (.t 20)), (11, (.t 21)), (12, (.t 22)), (13, (.t 23)), (14, (.t 24))]⟩,
      ⟨none, (some 4), .mov (.t 25)⟩]))
    (.seq (.keep [2] (.region none [
      ⟨none, (some 26), .mov (.t 4)⟩,
      ⟨none, (some 27), .faddr 0 (.t 1)⟩,
      ⟨none, (some 28), .load none (.t 27)⟩,
      ⟨none, (some 29), .bin .sub (.t 28) (.c (.v (.int .i64 1)))⟩,
      ⟨none, (some 30), .iaddr 2 (.t 26) (.t 29)⟩,
      ⟨none, (some 31), .load (some 2) (.t 30)⟩,
      ⟨none, none, .store 2 (.t 2) (.t 31)⟩]))
    (.ret)))
    (.skip)))
   (.seq (.seq (.keep [1, 2, 3, 33] (.region none [
     ⟨none, (some 32), .faddr 5 (.t 1)⟩,
     ⟨none, (some 33), .load none (.t 32)⟩]))
   (.block 0 (.seq (.keep [1, 2, 3, 33, 34] (.region none [
      ⟨none, (some 35), .bin .eql (.t 33) (.c (.v (.string ⟨#[115, 105, 122, 101]⟩)))⟩,
      ⟨none, (some 34), .mov (.t 35)⟩]))
    (.cond (.t 34)
     (.seq (.keep [2] (.region none [
       ⟨none, (some 36), .build [(.v (.string ⟨#[]⟩)), (.v (.string ⟨#[]⟩))] [(0, 1, (.c (.v (.string ⟨#[115, 105, 122, 101]⟩)))), (1, 1, (.c (.v (.string ⟨#[97, 98]⟩))))]⟩,
       ⟨none, none, .store 2 (.t 2) (.t 36)⟩]))
     (.ret))
     (.seq (.keep [1, 2, 3, 33, 37] (.region none [
       ⟨none, (some 38), .bin .eql (.t 33) (.c (.v (.string ⟨#[114, 101, 97, 100]⟩)))⟩,
       ⟨none, (some 37), .mov (.t 38)⟩]))
     (.cond (.t 37)
      (.seq (.keep [2] (.region none [
        ⟨none, (some 39), .build [(.v (.string ⟨#[]⟩)), (.v (.string ⟨#[]⟩))] [(0, 1, (.c (.v (.string ⟨#[114, 101, 97, 100]⟩)))), (1, 1, (.c (.v (.string ⟨#[97]⟩))))]⟩,
        ⟨none, none, .store 2 (.t 2) (.t 39)⟩]))
      (.ret))
      (.seq (.keep [1, 2, 3, 40] (.region none [
        ⟨none, (some 41), .bin .eql (.t 33) (.c (.v (.string ⟨#[112, 114, 105, 110, 116]⟩)))⟩,
        ⟨none, (some 40), .mov (.t 41)⟩]))
      (.cond (.t 40)
       (.seq (.keep [2] (.region none [
         ⟨none, (some 42), .build [(.v (.string ⟨#[]⟩)), (.v (.string ⟨#[]⟩))] [(0, 1, (.c (.v (.string ⟨#[112, 114, 105, 110, 116]⟩)))), (1, 1, (.c (.v (.string ⟨#[98]⟩))))]⟩,
         ⟨none, none, .store 2 (.t 2) (.t 42)⟩]))
       (.ret))
       (.skip)))))))))
   (.seq (.keep [2] (.region none [
     ⟨none, (some 43), .mov (.t 3)⟩,
     ⟨none, (some 44), .faddr 5 (.t 1)⟩,
     ⟨none, (some 45), .load none (.t 44)⟩,
     ⟨none, (some 46), .mget false .str (.v (.string ⟨#[]⟩)) (.t 43) (.t 45)⟩,
     ⟨none, (some 47), .build [(.v (.string ⟨#[]⟩)), (.v (.string ⟨#[]⟩))] [(0, 1, (.t 46)), (1, 1, (.c (.v (.string ⟨#[97, 98, 99]⟩))))]⟩,
     ⟨none, none, .store 2 (.t 2) (.t 47)⟩]))
   (.ret)))))
theorem A.impl_formOf_ok : cFn Tryd.prog F.impl_formOf A.impl_formOf :=
  ⟨_, _, Tryd.func37, rfl, by kernel_rfl, rfl, by decide, by kernel_rfl, by kernel_rfl⟩
end Go.Proofs.Ab
