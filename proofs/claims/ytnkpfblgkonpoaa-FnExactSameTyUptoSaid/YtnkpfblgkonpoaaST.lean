/-
  WHAT IS LEFT of this seat's functions, printed by a program of ours (wip/tool/Gen2.lean) from the translation; each with the theorem that it is what is left of that function.
-/
import Derived.Test.YtnkpfblgkonpoaaChecked
import Derived.KernelRfl
import Derived.Test.YtnkpfblgkonpoaaAbM4

set_option linter.unusedVariables false
set_option linter.unusedSimpArgs false
set_option linter.defProp false

namespace Go.Proofs.Ab
open Go.Ab
set_option maxRecDepth 100000

namespace F
abbrev main_main : FuncId := 0
abbrev laws_FnExactConstants : FuncId := 3
abbrev laws_FnExactPutShort : FuncId := 4
abbrev laws_FnShort : FuncId := 5
abbrev laws_FnExactTySize : FuncId := 6
abbrev laws_FnExactGetShort : FuncId := 7
abbrev laws_FnExactSameTy : FuncId := 8
abbrev spec_PutShort : FuncId := 9
abbrev impl_PutShort : FuncId := 10
abbrev laws_eqByteS : FuncId := 11
abbrev laws_markByteS : FuncId := 12
abbrev laws_heldByteS : FuncId := 13
abbrev laws_big : FuncId := 14
abbrev spec_DrawPutShort : FuncId := 15
abbrev impl_GetShort : FuncId := 16
abbrev laws_szTy : FuncId := 17
abbrev spec_TySize : FuncId := 18
abbrev laws_toTy : FuncId := 19
abbrev impl_TySize : FuncId := 20
abbrev laws_eqTy : FuncId := 21
abbrev spec_GetShort : FuncId := 22
abbrev laws_toByteS : FuncId := 23
abbrev spec_SameTy : FuncId := 24
abbrev impl_SameTy : FuncId := 25
abbrev impl_turned : FuncId := 26
abbrev spec_l1New : FuncId := 27
abbrev spec_l1Once : FuncId := 28
abbrev spec_l1Odd : FuncId := 29
abbrev spec_l1Below : FuncId := 30
abbrev impl_within : FuncId := 31
abbrev laws_szTyS : FuncId := 32
abbrev laws_toTyS : FuncId := 33
abbrev laws_eqTyS : FuncId := 34
abbrev spec_l1In : FuncId := 35
abbrev spec_l20Same : FuncId := 36
abbrev slices_EqualFunc__impl_Ty__impl_Ty_impl_Ty_impl_Ty : FuncId := 37
abbrev spec_l1Int : FuncId := 38
abbrev spec_l1Byte : FuncId := 39
abbrev runtime_boundsError_Error : FuncId := 40
abbrev runtime_boundsError_RuntimeError : FuncId := 41
abbrev runtime_errorString_Error : FuncId := 42
abbrev runtime_errorString_RuntimeError : FuncId := 43
abbrev runtime_plainError_Error : FuncId := 44
abbrev runtime_plainError_RuntimeError : FuncId := 45
abbrev runtime_errorAddressString_Error : FuncId := 46
abbrev runtime_errorAddressString_RuntimeError : FuncId := 47
abbrev runtime_TypeAssertionError_Error : FuncId := 48
abbrev runtime_TypeAssertionError_RuntimeError : FuncId := 49
abbrev runtime_PanicNilError_Error : FuncId := 50
abbrev runtime_PanicNilError_RuntimeError : FuncId := 51
abbrev internalabi_Type_Align : FuncId := 52
abbrev internalruntimemaps_unhashableTypeError_Error : FuncId := 53
abbrev internalruntimemaps_unhashableTypeError_RuntimeError : FuncId := 54
abbrev internalabi_Kind_String : FuncId := 55
end F
def FL : List Nat := [3, 4, 5, 6, 7, 8, 11, 12, 13, 14, 15, 16, 17, 18, 20, 21, 22, 24, 25, 26, 28, 29, 30, 31, 32, 34, 35, 36, 37, 38, 39]

-- TYPE 0 1 ()
-- TYPE 1 1 func()
-- TYPE 2 1 int64
-- TYPE 3 1 int
-- TYPE 4 1 bool
-- TYPE 5 1 uint8
-- TYPE 6 1 abi.BoundsErrorCode
-- TYPE 8 4 runtime.boundsError
-- TYPE 9 1 string
-- TYPE 10 1 runtime.errorString
-- TYPE 11 1 runtime.plainError
-- TYPE 12 1 uintptr
-- TYPE 14 2 runtime.errorAddressString
-- TYPE 15 1 *runtime.TypeAssertionError
-- TYPE 16 1 *runtime.PanicNilError
-- TYPE 17 1 *abi.Type
-- TYPE 19 1 maps.unhashableTypeError
-- TYPE 21 1 int32
-- TYPE 22 1 func() bool
-- TYPE 23 1 []uint8
-- TYPE 24 1 func(int) []uint8
-- TYPE 25 1 func([]uint8, []uint8) bool
-- TYPE 26 1 func([]uint8, int) int
-- TYPE 27 1 func(int) bool
-- TYPE 28 1 func([]uint8) bool
-- TYPE 29 1 func([]uint8) int
-- TYPE 30 1 (int, int, bool)
-- TYPE 31 1 func([]uint8, int) (int, int, bool)
-- TYPE 32 1 []laws.Ty
-- TYPE 34 4 laws.Ty
-- TYPE 35 1 func(laws.Ty, int) int
-- TYPE 36 1 func(impl.Ty) int
-- TYPE 37 1 []impl.Ty
-- TYPE 39 4 impl.Ty
-- TYPE 40 1 func(laws.Ty) impl.Ty
-- TYPE 41 1 func(impl.Ty, impl.Ty) bool
-- TYPE 42 1 func(laws.Ty) bool
-- TYPE 43 1 func([]uint8) []uint8
-- TYPE 44 1 func([]uint8, int) bool
-- TYPE 45 1 func(laws.Ty, laws.Ty) bool
-- TYPE 46 1 uint64
-- TYPE 47 1 uint
-- TYPE 48 1 func(int) uint64
-- TYPE 49 1 *spec.l1Cur
-- TYPE 50 1 func([]uint8) *spec.l1Cur
-- TYPE 51 1 func(*spec.l1Cur, int) bool
-- TYPE 52 1 func(*spec.l1Cur) int
-- TYPE 53 1 func(*spec.l1Cur, int) int
-- TYPE 54 1 func(int, int, int) bool
-- TYPE 55 1 func([]laws.Ty, int) int
-- TYPE 56 1 func([]laws.Ty) []impl.Ty
-- TYPE 57 1 func([]impl.Ty, []impl.Ty) bool
-- TYPE 58 1 func([]impl.Ty, []impl.Ty, func(impl.Ty, impl.Ty) bool) bool
-- TYPE 60 3 spec.l1Cur
-- TYPE 61 1 func(*spec.l1Cur, []int) int
-- TYPE 62 1 []int
-- TYPE 63 1 func() string
-- TYPE 65 4 runtime.TypeAssertionError
-- TYPE 66 0 [0]*runtime.PanicNilError
-- TYPE 68 0 runtime.PanicNilError
-- TYPE 69 1 func() int
-- TYPE 70 1 uint32
-- TYPE 71 1 abi.TFlag
-- TYPE 72 1 abi.Kind
-- TYPE 73 1 func(unsafe.Pointer, unsafe.Pointer) bool
-- TYPE 74 1 *uint8
-- TYPE 75 1 abi.NameOff
-- TYPE 76 1 abi.TypeOff
-- TYPE 78 11 abi.Type
-- TYPE 79 1 unsafe.Pointer
-- LAW laws_FnExactConstants 3 [] [4]
-- LAW laws_FnExactPutShort 4 [3] [4]
-- LAW laws_FnShort 5 [23] [4]
-- LAW laws_FnExactTySize 6 [34] [4]
-- LAW laws_FnExactGetShort 7 [23, 3] [4]
-- LAW laws_FnExactSameTy 8 [34, 34] [4]
def T.laws_FnExactConstants : T :=
.ret [(.c (.v (.bool true)))]

theorem T.laws_FnExactConstants_l : leftF Try.prog [] FL Try.f3 = some (0, T.laws_FnExactConstants) := by kernel_rfl

theorem T.laws_FnExactConstants_con {args : List AV} {res : AV} (hl : args.length = 0) (hn : AV.norefs args = true) (hw : wpT Try.prog (fun _ _ _ => False) (fun a => a = res) T.laws_FnExactConstants args []) : PCon Try.prog F.laws_FnExactConstants args res :=
  con_auto Try.func3 T.laws_FnExactConstants_l hl hn hw

def T.laws_FnExactPutShort : T :=
.op (.call F.spec_PutShort [(.x 0)] false) (
.op (.call F.impl_PutShort [(.x 0)] false) (
.op (.call F.laws_eqByteS [(.x 2), (.x 1)] false) (
.op (.un .not (.x 3)) (
.ite (.x 4)
 (.ret [(.c (.v (.bool false)))])
 (.op (.call F.laws_markByteS [(.x 2), (.c (.v (.int .i64 1)))] false) (
 .op (.call F.laws_heldByteS [(.x 2), (.c (.v (.int .i64 1)))] false) (
 .op (.bin .lss (.x 6) (.c (.v (.int .i64 0)))) (
 .ite (.x 7)
  (.ret [(.c (.v (.bool false)))])
  (.op (.bin .neq (.x 6) (.x 5)) (
  .ite (.x 8)
   (.ret [(.c (.v (.bool false)))])
   (.op (.call F.impl_PutShort [(.x 0)] false) (
   .op (.call F.laws_eqByteS [(.x 9), (.x 1)] false) (
   .op (.un .not (.x 10)) (
   .ite (.x 11)
    (.ret [(.c (.v (.bool false)))])
    (.op (.call F.laws_heldByteS [(.x 2), (.c (.v (.int .i64 1)))] false) (
    .op (.bin .lss (.x 12) (.c (.v (.int .i64 0)))) (
    .ite (.x 13)
     (.ret [(.c (.v (.bool false)))])
     (.op (.bin .neq (.x 12) (.x 5)) (
     .ite (.x 14)
      (.ret [(.c (.v (.bool false)))])
      (.ret [(.c (.v (.bool true)))]))))))))))))))))))))

theorem T.laws_FnExactPutShort_l : leftF Try.prog [] FL Try.f4 = some (1, T.laws_FnExactPutShort) := by kernel_rfl

theorem T.laws_FnExactPutShort_con {args : List AV} {res : AV} (hl : args.length = 1) (hn : AV.norefs args = true) (hw : wpT Try.prog (fun _ _ _ => False) (fun a => a = res) T.laws_FnExactPutShort args []) : PCon Try.prog F.laws_FnExactPutShort args res :=
  con_auto Try.func4 T.laws_FnExactPutShort_l hl hn hw

-- laws_FnShort: no walk
def T.laws_FnExactTySize : T :=
.chk (.cells (.x 0) 4) (
.chk (.cells (.x 0) 4) (
.op (.call F.laws_szTy [(.x 0), (.c (.v (.int .i64 1048576)))] false) (
.op (.bin .lss (.x 1) (.c (.v (.int .i64 0)))) (
.ite (.x 2)
 (.ret [(.c (.v (.bool true)))])
 (.chk (.cells (.x 0) 4) (
 .op (.call F.laws_toTy [(.x 0)] false) (
 .op (.call F.spec_TySize [(.x 3)] false) (
 .chk (.cells (.x 0) 4) (
 .op (.call F.laws_toTy [(.x 0)] false) (
 .chk (.cells (.x 5) 4) (
 .chk (.cells (.x 5) 4) (
 .op (.call F.impl_TySize [(.x 5)] false) (
 .op (.bin .neq (.x 6) (.x 4)) (
 .ite (.x 7)
  (.ret [(.c (.v (.bool false)))])
  (.chk (.cells (.x 5) 4) (
  .chk (.cells (.x 0) 4) (
  .op (.call F.laws_toTy [(.x 0)] false) (
  .op (.call F.laws_eqTy [(.x 5), (.x 8)] false) (
  .op (.un .not (.x 9)) (
  .ite (.x 10)
   (.ret [(.c (.v (.bool false)))])
   (.ret [(.c (.v (.bool true)))])))))))))))))))))))))

theorem T.laws_FnExactTySize_l : leftF Try.prog [] FL Try.f6 = some (1, T.laws_FnExactTySize) := by kernel_rfl

theorem T.laws_FnExactTySize_con {args : List AV} {res : AV} (hl : args.length = 1) (hn : AV.norefs args = true) (hw : wpT Try.prog (fun _ _ _ => False) (fun a => a = res) T.laws_FnExactTySize args []) : PCon Try.prog F.laws_FnExactTySize args res :=
  con_auto Try.func6 T.laws_FnExactTySize_l hl hn hw

def T.laws_FnExactGetShort : T :=
.op (.lenL (.x 0)) (
.op (.bin .gtr (.x 2) (.c (.v (.int .i64 1048576)))) (
.ite (.x 3)
 (.ret [(.c (.v (.bool true)))])
 (.op (.call F.laws_toByteS [(.x 0)] false) (
 .op (.call F.spec_GetShort [(.x 4), (.x 1)] false) (
 .chk (.tup (.x 5) 0) (
 .chk (.tup (.x 5) 1) (
 .chk (.tup (.x 5) 2) (
 .op (.call F.laws_toByteS [(.x 0)] false) (
 .op (.call F.impl_GetShort [(.x 6), (.x 1)] false) (
 .chk (.tup (.x 7) 0) (
 .chk (.tup (.x 7) 1) (
 .chk (.tup (.x 7) 2) (
 .bind 0 (
  .bind 1 (
   .op (.bin .neq (.ext 7 0) (.ext 5 0)) (
   .ite (.x 8)
    (.jump [(.c (.v (.bool true)))])
    (.op (.bin .neq (.ext 7 1) (.ext 5 1)) (
    .ite (.x 9)
     (.jump [(.c (.v (.bool true)))])
     (.op (.beq true (.ext 7 2) (.ext 5 2)) (
     .jump [(.x 10)])))))) (
  .ite (.x 8)
   (.esc (.ret [(.c (.v (.bool false)))]))
   (.jump []))) (
 .op (.call F.laws_toByteS [(.x 0)] false) (
 .op (.call F.laws_eqByteS [(.x 6), (.x 8)] false) (
 .op (.un .not (.x 9)) (
 .ite (.x 10)
  (.ret [(.c (.v (.bool false)))])
  (.ret [(.c (.v (.bool true)))]))))))))))))))))))

theorem T.laws_FnExactGetShort_l : leftF Try.prog [] FL Try.f7 = some (2, T.laws_FnExactGetShort) := by kernel_rfl

theorem T.laws_FnExactGetShort_con {args : List AV} {res : AV} (hl : args.length = 2) (hn : AV.norefs args = true) (hw : wpT Try.prog (fun _ _ _ => False) (fun a => a = res) T.laws_FnExactGetShort args []) : PCon Try.prog F.laws_FnExactGetShort args res :=
  con_auto Try.func7 T.laws_FnExactGetShort_l hl hn hw

def T.laws_FnExactSameTy : T :=
.chk (.cells (.x 0) 4) (
.chk (.cells (.x 1) 4) (
.chk (.cells (.x 0) 4) (
.op (.call F.laws_szTy [(.x 0), (.c (.v (.int .i64 1048576)))] false) (
.op (.bin .lss (.x 2) (.c (.v (.int .i64 0)))) (
.ite (.x 3)
 (.ret [(.c (.v (.bool true)))])
 (.chk (.cells (.x 1) 4) (
 .op (.call F.laws_szTy [(.x 1), (.x 2)] false) (
 .op (.bin .lss (.x 4) (.c (.v (.int .i64 0)))) (
 .ite (.x 5)
  (.ret [(.c (.v (.bool true)))])
  (.chk (.cells (.x 0) 4) (
  .op (.call F.laws_toTy [(.x 0)] false) (
  .chk (.cells (.x 1) 4) (
  .op (.call F.laws_toTy [(.x 1)] false) (
  .op (.call F.spec_SameTy [(.x 6), (.x 7)] false) (
  .chk (.cells (.x 0) 4) (
  .op (.call F.laws_toTy [(.x 0)] false) (
  .chk (.cells (.x 9) 4) (
  .chk (.cells (.x 1) 4) (
  .op (.call F.laws_toTy [(.x 1)] false) (
  .chk (.cells (.x 10) 4) (
  .chk (.cells (.x 9) 4) (
  .chk (.cells (.x 10) 4) (
  .op (.call F.impl_SameTy [(.x 9), (.x 10)] false) (
  .op (.beq true (.x 11) (.x 8)) (
  .ite (.x 12)
   (.ret [(.c (.v (.bool false)))])
   (.chk (.cells (.x 9) 4) (
   .chk (.cells (.x 0) 4) (
   .op (.call F.laws_toTy [(.x 0)] false) (
   .op (.call F.laws_eqTy [(.x 9), (.x 13)] false) (
   .op (.un .not (.x 14)) (
   .ite (.x 15)
    (.ret [(.c (.v (.bool false)))])
    (.chk (.cells (.x 10) 4) (
    .chk (.cells (.x 1) 4) (
    .op (.call F.laws_toTy [(.x 1)] false) (
    .op (.call F.laws_eqTy [(.x 10), (.x 16)] false) (
    .op (.un .not (.x 17)) (
    .ite (.x 18)
     (.ret [(.c (.v (.bool false)))])
     (.ret [(.c (.v (.bool true)))]))))))))))))))))))))))))))))))))))))))

theorem T.laws_FnExactSameTy_l : leftF Try.prog [] FL Try.f8 = some (2, T.laws_FnExactSameTy) := by kernel_rfl

theorem T.laws_FnExactSameTy_con {args : List AV} {res : AV} (hl : args.length = 2) (hn : AV.norefs args = true) (hw : wpT Try.prog (fun _ _ _ => False) (fun a => a = res) T.laws_FnExactSameTy args []) : PCon Try.prog F.laws_FnExactSameTy args res :=
  con_auto Try.func8 T.laws_FnExactSameTy_l hl hn hw

def T.spec_PutShort : T :=
.op (.conv .u64 (.x 0)) (
.op (.bin .shl (.x 1) (.c (.v (.int .u64 1)))) (
.bind 1 (
 .op (.bin .lss (.x 0) (.c (.v (.int .i64 0)))) (
 .ite (.x 3)
  (.op (.bin .add (.x 0) (.c (.v (.int .i64 1)))) (
  .op (.un .neg (.x 4)) (
  .op (.conv .u64 (.x 5)) (
  .op (.bin .shl (.x 6) (.c (.v (.int .u64 1)))) (
  .op (.bin .add (.x 7) (.c (.v (.int .u64 1)))) (
  .jump [(.x 8)]))))))
  (.jump [(.x 2)]))) (
.op (.mkl (.v (.int .u8 0)) 0 []) (
.bind 2 (
 .loop [(.x 4), (.x 3)] (
  .op (.bin .geq (.x 6) (.c (.v (.int .u64 128)))) (
  .ite (.x 7)
   (.op (.bin .and (.x 6) (.c (.v (.int .u64 127)))) (
   .op (.bin .add (.x 8) (.c (.v (.int .u64 128)))) (
   .op (.conv .u8 (.x 9)) (
   .chk (.one (.x 10)) (
   .op (.mkl (.v (.int .u8 0)) 1 [(0, (.x 10))]) (
   .op (.app 1 1 (.x 5) (.sl (.x 11))) (
   .op (.bin .shr (.x 6) (.c (.v (.int .u64 7)))) (
   .jump [(.x 12), (.x 13)]))))))))
   (.esc (.jump [(.x 5), (.x 6)]))))) (
.op (.conv .u8 (.x 6)) (
.chk (.one (.x 7)) (
.op (.mkl (.v (.int .u8 0)) 1 [(0, (.x 7))]) (
.op (.app 1 1 (.x 5) (.sl (.x 8))) (
.ret [(.sl (.x 9))])))))))))

theorem T.spec_PutShort_l : leftF Try.prog [] FL Try.f9 = some (1, T.spec_PutShort) := by kernel_rfl

theorem T.spec_PutShort_con {args : List AV} {res : AV} (hl : args.length = 1) (hn : AV.norefs args = true) (hw : wpT Try.prog (fun _ _ _ => False) (fun a => a = res) T.spec_PutShort args []) : PCon Try.prog F.spec_PutShort args res :=
  con_auto Try.func9 T.spec_PutShort_l hl hn hw

def T.impl_PutShort : T :=
.op (.call F.impl_turned [(.x 0)] false) (
.bind 2 (
 .loop [(.c (.sl [])), (.x 1)] (
  .op (.bin .gtr (.x 3) (.c (.v (.int .u64 127)))) (
  .ite (.x 4)
   (.op (.bin .and (.x 3) (.c (.v (.int .u64 127)))) (
   .op (.conv .u8 (.x 5)) (
   .op (.bin .or (.x 6) (.c (.v (.int .u8 128)))) (
   .chk (.one (.x 7)) (
   .op (.mkl (.v (.int .u8 0)) 1 [(0, (.x 7))]) (
   .op (.app 1 1 (.x 2) (.sl (.x 8))) (
   .op (.bin .shr (.x 3) (.c (.v (.int .u64 7)))) (
   .jump [(.x 9), (.x 10)]))))))))
   (.esc (.jump [(.x 2), (.x 3)]))))) (
.op (.conv .u8 (.x 3)) (
.chk (.one (.x 4)) (
.op (.mkl (.v (.int .u8 0)) 1 [(0, (.x 4))]) (
.op (.app 1 1 (.x 2) (.sl (.x 5))) (
.ret [(.sl (.x 6))]))))))

theorem T.impl_PutShort_l : leftF Try.prog [] FL Try.f10 = some (1, T.impl_PutShort) := by kernel_rfl

theorem T.impl_PutShort_con {args : List AV} {res : AV} (hl : args.length = 1) (hn : AV.norefs args = true) (hw : wpT Try.prog (fun _ _ _ => False) (fun a => a = res) T.impl_PutShort args []) : PCon Try.prog F.impl_PutShort args res :=
  con_auto Try.func10 T.impl_PutShort_l hl hn hw

def T.laws_eqByteS : T :=
.op (.lenL (.x 0)) (
.op (.lenL (.x 1)) (
.op (.bin .neq (.x 2) (.x 3)) (
.ite (.x 4)
 (.ret [(.c (.v (.bool false)))])
 (.bind 0 (
  .loop [(.c (.v (.int .i64 0)))] (
   .op (.lenL (.x 0)) (
   .op (.bin .lss (.x 5) (.x 6)) (
   .ite (.x 7)
    (.op (.elem 1 (.x 0) (.x 5)) (
    .chk (.lt (.x 8) 0) (
    .op (.elem 1 (.x 1) (.x 5)) (
    .chk (.lt (.x 9) 0) (
    .op (.bin .neq (.cell 8 0) (.cell 9 0)) (
    .ite (.x 10)
     (.esc (.esc (.ret [(.c (.v (.bool false)))])))
     (.op (.bin .add (.x 5) (.c (.v (.int .i64 1)))) (
     .jump [(.x 11)]))))))))
    (.esc (.jump [])))))) (
 .ret [(.c (.v (.bool true)))])))))

theorem T.laws_eqByteS_l : leftF Try.prog [] FL Try.f11 = some (2, T.laws_eqByteS) := by kernel_rfl

theorem T.laws_eqByteS_con {args : List AV} {res : AV} (hl : args.length = 2) (hn : AV.norefs args = true) (hw : wpT Try.prog (fun _ _ _ => False) (fun a => a = res) T.laws_eqByteS args []) : PCon Try.prog F.laws_eqByteS args res :=
  con_auto Try.func11 T.laws_eqByteS_l hl hn hw

-- laws_markByteS: no walk
def T.laws_heldByteS : T :=
.bind 1 (
 .loop [(.x 1), (.c (.v (.int .i64 0)))] (
  .op (.lenL (.x 0)) (
  .op (.bin .lss (.x 3) (.x 4)) (
  .ite (.x 5)
   (.op (.elem 1 (.x 0) (.x 3)) (
   .chk (.lt (.x 6) 0) (
   .op (.conv .u8 (.x 2)) (
   .op (.bin .neq (.cell 6 0) (.x 7)) (
   .ite (.x 8)
    (.esc (.esc (.ret [(.c (.v (.int .i64 (-1))))])))
    (.op (.bin .add (.x 2) (.c (.v (.int .i64 1)))) (
    .op (.bin .add (.x 3) (.c (.v (.int .i64 1)))) (
    .jump [(.x 9), (.x 10)]))))))))
   (.esc (.jump [(.x 2)])))))) (
.ret [(.x 2)])

theorem T.laws_heldByteS_l : leftF Try.prog [] FL Try.f13 = some (2, T.laws_heldByteS) := by kernel_rfl

theorem T.laws_heldByteS_con {args : List AV} {res : AV} (hl : args.length = 2) (hn : AV.norefs args = true) (hw : wpT Try.prog (fun _ _ _ => False) (fun a => a = res) T.laws_heldByteS args []) : PCon Try.prog F.laws_heldByteS args res :=
  con_auto Try.func13 T.laws_heldByteS_l hl hn hw

def T.laws_big : T :=
.op (.lenL (.x 0)) (
.op (.bin .gtr (.x 1) (.c (.v (.int .i64 1048576)))) (
.ret [(.x 2)]))

theorem T.laws_big_l : leftF Try.prog [] FL Try.f14 = some (1, T.laws_big) := by kernel_rfl

theorem T.laws_big_con {args : List AV} {res : AV} (hl : args.length = 1) (hn : AV.norefs args = true) (hw : wpT Try.prog (fun _ _ _ => False) (fun a => a = res) T.laws_big args []) : PCon Try.prog F.laws_big args res :=
  con_auto Try.func14 T.laws_big_l hl hn hw

def T.spec_DrawPutShort : T :=
.op (.call F.spec_l1New [(.x 0)] false) (
.op (.call F.spec_l1Once [(.x 1), (.c (.v (.int .i64 3)))] false) (
.ite (.x 2)
 (.op (.call F.spec_l1Odd [(.x 1)] false) (
 .ret [(.x 3)]))
 (.op (.call F.spec_l1Below [(.x 1), (.c (.v (.int .i64 16000000)))] false) (
 .op (.bin .sub (.x 3) (.c (.v (.int .i64 8000000)))) (
 .op (.call F.spec_l1Below [(.x 1), (.c (.v (.int .i64 23)))] false) (
 .op (.bin .shr (.x 4) (.x 5)) (
 .ret [(.x 6)])))))))

theorem T.spec_DrawPutShort_l : leftF Try.prog [] FL Try.f15 = some (1, T.spec_DrawPutShort) := by kernel_rfl

theorem T.spec_DrawPutShort_con {args : List AV} {res : AV} (hl : args.length = 1) (hn : AV.norefs args = true) (hw : wpT Try.prog (fun _ _ _ => False) (fun a => a = res) T.spec_DrawPutShort args []) : PCon Try.prog F.spec_DrawPutShort args res :=
  con_auto Try.func15 T.spec_DrawPutShort_l hl hn hw

def T.impl_GetShort : T :=
.op (.lenL (.x 0)) (
.op (.bin .sub (.x 2) (.c (.v (.int .i64 1)))) (
.op (.call F.impl_within [(.x 1), (.c (.v (.int .i64 0))), (.x 3)] false) (
.op (.un .not (.x 4)) (
.ite (.x 5)
 (.ret [(.c (.v (.int .i64 0))), (.c (.v (.int .i64 0))), (.c (.v (.bool false)))])
 (.bind 0 (
  .loop [(.c (.v (.int .u64 0))), (.c (.v (.int .i64 0)))] (
   .bind 0 (
    .bind 1 (
     .op (.bin .lss (.x 7) (.c (.v (.int .i64 10)))) (
     .ite (.x 8)
      (.op (.bin .add (.x 1) (.x 7)) (
      .op (.lenL (.x 0)) (
      .op (.bin .lss (.x 9) (.x 10)) (
      .jump [(.x 11)]))))
      (.jump [(.c (.v (.bool false)))]))) (
    .ite (.x 8)
     (.jump [])
     (.esc (.esc (.jump []))))) (
   .bind 1 (
    .op (.bin .add (.x 1) (.x 7)) (
    .op (.elem 1 (.x 0) (.x 8)) (
    .chk (.lt (.x 9) 0) (
    .op (.bin .and (.cell 9 0) (.c (.v (.int .u8 127)))) (
    .op (.conv .u64 (.x 10)) (
    .op (.bin .mul (.c (.v (.int .i64 7))) (.x 7)) (
    .op (.bin .shl (.x 11) (.x 12)) (
    .op (.bin .or (.x 6) (.x 13)) (
    .op (.bin .gtr (.cell 9 0) (.c (.v (.int .u8 127)))) (
    .ite (.x 15)
     (.jump [(.x 14)])
     (.bind 0 (
      .bind 1 (
       .op (.bin .gtr (.x 7) (.c (.v (.int .i64 0)))) (
       .ite (.x 16)
        (.op (.bin .eql (.cell 9 0) (.c (.v (.int .u8 0)))) (
        .ite (.x 17)
         (.jump [(.c (.v (.bool true)))])
         (.op (.bin .eql (.x 7) (.c (.v (.int .i64 9)))) (
         .ite (.x 18)
          (.op (.bin .gtr (.cell 9 0) (.c (.v (.int .u8 1)))) (
          .jump [(.x 19)]))
          (.jump [(.c (.v (.bool false)))])))))
        (.op (.bin .eql (.x 7) (.c (.v (.int .i64 9)))) (
        .ite (.x 17)
         (.op (.bin .gtr (.cell 9 0) (.c (.v (.int .u8 1)))) (
         .jump [(.x 18)]))
         (.jump [(.c (.v (.bool false)))]))))) (
      .ite (.x 16)
       (.esc (.esc (.esc (.esc (.ret [(.c (.v (.int .i64 0))), (.c (.v (.int .i64 0))), (.c (.v (.bool false)))])))))
       (.jump []))) (
     .op (.bin .shr (.x 14) (.c (.v (.int .u64 1)))) (
     .op (.conv .i64 (.x 16)) (
     .op (.bin .and (.x 14) (.c (.v (.int .u64 1)))) (
     .op (.conv .i64 (.x 18)) (
     .op (.un .neg (.x 19)) (
     .op (.bin .xor (.x 17) (.x 20)) (
     .op (.bin .add (.x 1) (.x 7)) (
     .op (.bin .add (.x 22) (.c (.v (.int .i64 1)))) (
     .esc (.esc (.esc (.ret [(.x 21), (.x 23), (.c (.v (.bool true)))]))))))))))))))))))))))) (
   .op (.bin .add (.x 7) (.c (.v (.int .i64 1)))) (
   .jump [(.x 8), (.x 9)]))))) (
 .ret [(.c (.v (.int .i64 0))), (.c (.v (.int .i64 0))), (.c (.v (.bool false)))]))))))

theorem T.impl_GetShort_l : leftF Try.prog [] FL Try.f16 = some (2, T.impl_GetShort) := by kernel_rfl

theorem T.impl_GetShort_con {args : List AV} {res : AV} (hl : args.length = 2) (hn : AV.norefs args = true) (hw : wpT Try.prog (fun _ _ _ => False) (fun a => a = res) T.impl_GetShort args []) : PCon Try.prog F.impl_GetShort args res :=
  con_auto Try.func16 T.impl_GetShort_l hl hn hw

def T.laws_szTy : T :=
.chk (.cells (.x 0) 4) (
.op (.lenS (.cell 0 2)) (
.op (.bin .sub (.x 1) (.x 2)) (
.op (.bin .lss (.x 3) (.c (.v (.int .i64 0)))) (
.ite (.x 4)
 (.ret [(.c (.v (.int .i64 (-1))))])
 (.op (.call F.laws_szTyS [(.cell 0 3), (.x 3)] false) (
 .op (.bin .lss (.x 5) (.c (.v (.int .i64 0)))) (
 .ite (.x 6)
  (.ret [(.c (.v (.int .i64 (-1))))])
  (.ret [(.x 5)]))))))))

theorem T.laws_szTy_l : leftF Try.prog [] FL Try.f17 = some (2, T.laws_szTy) := by kernel_rfl

theorem T.laws_szTy_con {args : List AV} {res : AV} (hl : args.length = 2) (hn : AV.norefs args = true) (hw : wpT Try.prog (fun _ _ _ => False) (fun a => a = res) T.laws_szTy args []) : PCon Try.prog F.laws_szTy args res :=
  con_auto Try.func17 T.laws_szTy_l hl hn hw

def T.spec_TySize : T :=
.chk (.cells (.x 0) 4) (
.bind 1 (
 .loop [(.c (.v (.int .i64 1))), (.c (.v (.int .i64 0)))] (
  .op (.lenL (.cell 0 3)) (
  .op (.bin .lss (.x 2) (.x 3)) (
  .ite (.x 4)
   (.op (.elem 4 (.cell 0 3) (.x 2)) (
   .chk (.cells (.x 5) 4) (
   .op (.call F.spec_TySize [(.x 5)] false) (
   .op (.bin .add (.x 1) (.x 6)) (
   .op (.bin .add (.x 2) (.c (.v (.int .i64 1)))) (
   .jump [(.x 7), (.x 8)]))))))
   (.esc (.jump [(.x 1)])))))) (
.ret [(.x 1)]))

theorem T.spec_TySize_l : leftF Try.prog [] FL Try.f18 = some (1, T.spec_TySize) := by kernel_rfl

theorem T.spec_TySize_con {args : List AV} {res : AV} (hl : args.length = 1) (hn : AV.norefs args = true) (hw : wpT Try.prog (fun _ _ _ => False) (fun a => a = res) T.spec_TySize args []) : PCon Try.prog F.spec_TySize args res :=
  con_auto Try.func18 T.spec_TySize_l hl hn hw

def T.laws_toTy : T :=
.chk (.cells (.x 0) 4) (
.chk (.one (.cell 0 0)) (
.chk (.one (.cell 0 1)) (
.chk (.one (.cell 0 2)) (
.op (.call F.laws_toTyS [(.cell 0 3)] false) (
.chk (.one (.x 1)) (
.chk (.cells (.agg [(.cell 0 0), (.cell 0 1), (.cell 0 2), (.x 1)]) 4) (
.ret [(.agg [(.cell 0 0), (.cell 0 1), (.cell 0 2), (.x 1)])])))))))

theorem T.laws_toTy_l : leftF Try.prog [] FL Try.f19 = some (1, T.laws_toTy) := by kernel_rfl

theorem T.laws_toTy_con {args : List AV} {res : AV} (hl : args.length = 1) (hn : AV.norefs args = true) (hw : wpT Try.prog (fun _ _ _ => False) (fun a => a = res) T.laws_toTy args []) : PCon Try.prog F.laws_toTy args res :=
  con_auto Try.func19 T.laws_toTy_l hl hn hw

def T.impl_TySize : T :=
.chk (.cells (.x 0) 4) (
.bind 1 (
 .op (.lenL (.cell 0 3)) (
 .loop [(.c (.v (.int .i64 1))), (.c (.v (.int .i64 0)))] (
  .op (.bin .lss (.x 3) (.x 1)) (
  .ite (.x 4)
   (.op (.elem 4 (.cell 0 3) (.x 3)) (
   .chk (.cells (.x 5) 4) (
   .chk (.cells (.x 5) 4) (
   .chk (.cells (.x 5) 4) (
   .op (.call F.impl_TySize [(.x 5)] false) (
   .op (.bin .add (.x 2) (.x 6)) (
   .op (.bin .add (.x 3) (.c (.v (.int .i64 1)))) (
   .jump [(.x 7), (.x 8)]))))))))
   (.esc (.jump [(.x 2)])))))) (
.ret [(.x 1)]))

theorem T.impl_TySize_l : leftF Try.prog [] FL Try.f20 = some (1, T.impl_TySize) := by kernel_rfl

theorem T.impl_TySize_con {args : List AV} {res : AV} (hl : args.length = 1) (hn : AV.norefs args = true) (hw : wpT Try.prog (fun _ _ _ => False) (fun a => a = res) T.impl_TySize args []) : PCon Try.prog F.impl_TySize args res :=
  con_auto Try.func20 T.impl_TySize_l hl hn hw

def T.laws_eqTy : T :=
.chk (.cells (.x 0) 4) (
.chk (.cells (.x 1) 4) (
.op (.bin .neq (.cell 0 0) (.cell 1 0)) (
.ite (.x 2)
 (.ret [(.c (.v (.bool false)))])
 (.op (.bin .neq (.cell 0 1) (.cell 1 1)) (
 .ite (.x 3)
  (.ret [(.c (.v (.bool false)))])
  (.op (.bin .neq (.cell 0 2) (.cell 1 2)) (
  .ite (.x 4)
   (.ret [(.c (.v (.bool false)))])
   (.op (.call F.laws_eqTyS [(.cell 0 3), (.cell 1 3)] false) (
   .op (.un .not (.x 5)) (
   .ite (.x 6)
    (.ret [(.c (.v (.bool false)))])
    (.ret [(.c (.v (.bool true)))])))))))))))

theorem T.laws_eqTy_l : leftF Try.prog [] FL Try.f21 = some (2, T.laws_eqTy) := by kernel_rfl

theorem T.laws_eqTy_con {args : List AV} {res : AV} (hl : args.length = 2) (hn : AV.norefs args = true) (hw : wpT Try.prog (fun _ _ _ => False) (fun a => a = res) T.laws_eqTy args []) : PCon Try.prog F.laws_eqTy args res :=
  con_auto Try.func21 T.laws_eqTy_l hl hn hw

def T.spec_GetShort : T :=
.op (.lenL (.x 0)) (
.op (.bin .sub (.x 2) (.c (.v (.int .i64 1)))) (
.op (.call F.spec_l1In [(.x 1), (.c (.v (.int .i64 0))), (.x 3)] false) (
.op (.un .not (.x 4)) (
.ite (.x 5)
 (.ret [(.c (.v (.int .i64 0))), (.c (.v (.int .i64 0))), (.c (.v (.bool false)))])
 (.bind 0 (
  .loop [(.c (.v (.int .u64 0))), (.c (.v (.int .i64 0)))] (
   .bind 0 (
    .bind 1 (
     .op (.bin .lss (.x 7) (.c (.v (.int .i64 10)))) (
     .ite (.x 8)
      (.op (.bin .add (.x 1) (.x 7)) (
      .op (.lenL (.x 0)) (
      .op (.bin .lss (.x 9) (.x 10)) (
      .jump [(.x 11)]))))
      (.jump [(.c (.v (.bool false)))]))) (
    .ite (.x 8)
     (.jump [])
     (.esc (.esc (.jump []))))) (
   .bind 1 (
    .op (.bin .add (.x 1) (.x 7)) (
    .op (.elem 1 (.x 0) (.x 8)) (
    .chk (.lt (.x 9) 0) (
    .op (.bin .and (.cell 9 0) (.c (.v (.int .u8 127)))) (
    .op (.conv .u64 (.x 10)) (
    .op (.bin .mul (.c (.v (.int .i64 7))) (.x 7)) (
    .op (.conv .u64 (.x 12)) (
    .op (.bin .shl (.x 11) (.x 13)) (
    .op (.bin .add (.x 6) (.x 14)) (
    .op (.bin .add (.x 1) (.x 7)) (
    .op (.elem 1 (.x 0) (.x 16)) (
    .chk (.lt (.x 17) 0) (
    .op (.bin .lss (.cell 17 0) (.c (.v (.int .u8 128)))) (
    .ite (.x 18)
     (.op (.bin .shr (.x 15) (.c (.v (.int .u64 1)))) (
     .op (.conv .i64 (.x 19)) (
     .bind 1 (
      .op (.bin .and (.x 15) (.c (.v (.int .u64 1)))) (
      .op (.bin .eql (.x 21) (.c (.v (.int .u64 1)))) (
      .ite (.x 22)
       (.op (.un .neg (.x 20)) (
       .op (.bin .sub (.x 23) (.c (.v (.int .i64 1)))) (
       .jump [(.x 24)])))
       (.jump [(.x 20)])))) (
     .op (.call F.spec_PutShort [(.x 21)] false) (
     .op (.bin .add (.x 1) (.x 7)) (
     .op (.bin .add (.x 23) (.c (.v (.int .i64 1)))) (
     .op (.sliceL 1 (.x 0) (some (.x 1)) (some (.x 24))) (
     .op (.call F.spec_l20Same [(.x 22), (.x 25)] false) (
     .op (.un .not (.x 26)) (
     .ite (.x 27)
      (.esc (.esc (.esc (.ret [(.c (.v (.int .i64 0))), (.c (.v (.int .i64 0))), (.c (.v (.bool false)))]))))
      (.op (.bin .add (.x 1) (.x 7)) (
      .op (.bin .add (.x 28) (.c (.v (.int .i64 1)))) (
      .esc (.esc (.esc (.ret [(.x 21), (.x 29), (.c (.v (.bool true)))]))))))))))))))))
     (.jump [(.x 15)]))))))))))))))) (
   .op (.bin .add (.x 7) (.c (.v (.int .i64 1)))) (
   .jump [(.x 8), (.x 9)]))))) (
 .ret [(.c (.v (.int .i64 0))), (.c (.v (.int .i64 0))), (.c (.v (.bool false)))]))))))

theorem T.spec_GetShort_l : leftF Try.prog [] FL Try.f22 = some (2, T.spec_GetShort) := by kernel_rfl

theorem T.spec_GetShort_con {args : List AV} {res : AV} (hl : args.length = 2) (hn : AV.norefs args = true) (hw : wpT Try.prog (fun _ _ _ => False) (fun a => a = res) T.spec_GetShort args []) : PCon Try.prog F.spec_GetShort args res :=
  con_auto Try.func22 T.spec_GetShort_l hl hn hw

def T.laws_toByteS : T :=
.op (.lenL (.x 0)) (
.op (.rep 1 (.v (.int .u8 0)) (.x 1) (.x 1)) (
.bind 1 (
 .loop [(.x 2), (.c (.v (.int .i64 0)))] (
  .op (.lenL (.x 0)) (
  .op (.bin .lss (.x 4) (.x 5)) (
  .ite (.x 6)
   (.op (.elem 1 (.x 0) (.x 4)) (
   .chk (.lt (.x 7) 0) (
   .chk (.idx (.x 3) (.x 4)) (
   .chk (.one (.cell 7 0)) (
   .op (.set (.x 3) (.x 4) 0 1 (.cell 7 0)) (
   .op (.bin .add (.x 4) (.c (.v (.int .i64 1)))) (
   .jump [(.x 8), (.x 9)])))))))
   (.esc (.jump [(.x 3)])))))) (
.ret [(.sl (.x 3))])))

theorem T.laws_toByteS_l : leftF Try.prog [] FL Try.f23 = some (1, T.laws_toByteS) := by kernel_rfl

theorem T.laws_toByteS_con {args : List AV} {res : AV} (hl : args.length = 1) (hn : AV.norefs args = true) (hw : wpT Try.prog (fun _ _ _ => False) (fun a => a = res) T.laws_toByteS args []) : PCon Try.prog F.laws_toByteS args res :=
  con_auto Try.func23 T.laws_toByteS_l hl hn hw

def T.spec_SameTy : T :=
.chk (.cells (.x 0) 4) (
.chk (.cells (.x 1) 4) (
.bind 0 (
 .bind 1 (
  .op (.bin .neq (.cell 0 0) (.cell 1 0)) (
  .ite (.x 2)
   (.jump [(.c (.v (.bool true)))])
   (.op (.bin .neq (.cell 0 1) (.cell 1 1)) (
   .ite (.x 3)
    (.jump [(.c (.v (.bool true)))])
    (.op (.bin .neq (.cell 0 2) (.cell 1 2)) (
    .ite (.x 4)
     (.jump [(.c (.v (.bool true)))])
     (.op (.lenL (.cell 0 3)) (
     .op (.lenL (.cell 1 3)) (
     .op (.bin .neq (.x 5) (.x 6)) (
     .jump [(.x 7)])))))))))) (
 .ite (.x 2)
  (.esc (.ret [(.c (.v (.bool false)))]))
  (.jump []))) (
.bind 0 (
 .loop [(.c (.v (.int .i64 0)))] (
  .op (.lenL (.cell 0 3)) (
  .op (.bin .lss (.x 2) (.x 3)) (
  .ite (.x 4)
   (.op (.elem 4 (.cell 0 3) (.x 2)) (
   .chk (.cells (.x 5) 4) (
   .op (.elem 4 (.cell 1 3) (.x 2)) (
   .chk (.cells (.x 6) 4) (
   .op (.call F.spec_SameTy [(.x 5), (.x 6)] false) (
   .op (.un .not (.x 7)) (
   .ite (.x 8)
    (.esc (.esc (.ret [(.c (.v (.bool false)))])))
    (.op (.bin .add (.x 2) (.c (.v (.int .i64 1)))) (
    .jump [(.x 9)])))))))))
   (.esc (.jump [])))))) (
.ret [(.c (.v (.bool true)))]))))

theorem T.spec_SameTy_l : leftF Try.prog [] FL Try.f24 = some (2, T.spec_SameTy) := by kernel_rfl

theorem T.spec_SameTy_con {args : List AV} {res : AV} (hl : args.length = 2) (hn : AV.norefs args = true) (hw : wpT Try.prog (fun _ _ _ => False) (fun a => a = res) T.spec_SameTy args []) : PCon Try.prog F.spec_SameTy args res :=
  con_auto Try.func24 T.spec_SameTy_l hl hn hw

def T.impl_SameTy : T :=
.chk (.cells (.x 0) 4) (
.chk (.cells (.x 1) 4) (
.bind 1 (
 .op (.bin .eql (.cell 0 0) (.cell 1 0)) (
 .ite (.x 2)
  (.op (.bin .eql (.cell 0 1) (.cell 1 1)) (
  .ite (.x 3)
   (.op (.bin .eql (.cell 0 2) (.cell 1 2)) (
   .ite (.x 4)
    (.op (.call F.slices_EqualFunc__impl_Ty__impl_Ty_impl_Ty_impl_Ty [(.cell 0 3), (.cell 1 3), (.c (.fn F.impl_SameTy []))] false) (
    .jump [(.x 5)]))
    (.jump [(.c (.v (.bool false)))])))
   (.jump [(.c (.v (.bool false)))])))
  (.jump [(.c (.v (.bool false)))]))) (
.ret [(.x 2)])))

theorem T.impl_SameTy_l : leftF Try.prog [] FL Try.f25 = some (2, T.impl_SameTy) := by kernel_rfl

theorem T.impl_SameTy_con {args : List AV} {res : AV} (hl : args.length = 2) (hn : AV.norefs args = true) (hw : wpT Try.prog (fun _ _ _ => False) (fun a => a = res) T.impl_SameTy args []) : PCon Try.prog F.impl_SameTy args res :=
  con_auto Try.func25 T.impl_SameTy_l hl hn hw

def T.impl_turned : T :=
.op (.conv .u64 (.x 0)) (
.op (.bin .shl (.x 1) (.c (.v (.int .u64 1)))) (
.op (.bin .shr (.x 0) (.c (.v (.int .u64 63)))) (
.op (.conv .u64 (.x 3)) (
.op (.bin .xor (.x 2) (.x 4)) (
.ret [(.x 5)])))))

theorem T.impl_turned_l : leftF Try.prog [] FL Try.f26 = some (1, T.impl_turned) := by kernel_rfl

theorem T.impl_turned_con {args : List AV} {res : AV} (hl : args.length = 1) (hn : AV.norefs args = true) (hw : wpT Try.prog (fun _ _ _ => False) (fun a => a = res) T.impl_turned args []) : PCon Try.prog F.impl_turned args res :=
  con_auto Try.func26 T.impl_turned_l hl hn hw

-- spec_l1New: result not plain
def T.spec_l1Once : T :=
.op (.call F.spec_l1Below [(.x 0), (.x 1)] false) (
.op (.bin .eql (.x 2) (.c (.v (.int .i64 0)))) (
.ret [(.x 3)]))

theorem T.spec_l1Once_l : leftF Try.prog [] FL Try.f28 = some (2, T.spec_l1Once) := by kernel_rfl

theorem T.spec_l1Once_con {args : List AV} {res : AV} (hl : args.length = 2) (hn : AV.norefs args = true) (hw : wpT Try.prog (fun _ _ _ => False) (fun a => a = res) T.spec_l1Once args []) : PCon Try.prog F.spec_l1Once args res :=
  con_auto Try.func28 T.spec_l1Once_l hl hn hw

def T.spec_l1Odd : T :=
.chk (.one (.c (.v (.int .i64 (-1))))) (
.chk (.one (.c (.v (.int .i64 0)))) (
.chk (.one (.c (.v (.int .i64 1)))) (
.chk (.one (.c (.v (.int .i64 2)))) (
.chk (.one (.c (.v (.int .i64 255)))) (
.chk (.one (.c (.v (.int .i64 256)))) (
.chk (.one (.c (.v (.int .i64 65535)))) (
.chk (.one (.c (.v (.int .i64 2147483647)))) (
.chk (.one (.c (.v (.int .i64 2147483648)))) (
.chk (.one (.c (.v (.int .i64 4294967295)))) (
.chk (.one (.c (.v (.int .i64 4294967296)))) (
.chk (.one (.c (.v (.int .i64 (-2147483648))))) (
.chk (.one (.c (.v (.int .i64 9223372036854775807)))) (
.chk (.one (.c (.v (.int .i64 (-9223372036854775808))))) (
.op (.mkl (.v (.int .i64 0)) 14 [(0, (.c (.v (.int .i64 (-1))))), (1, (.c (.v (.int .i64 0)))), (2, (.c (.v (.int .i64 1)))), (3, (.c (.v (.int .i64 2)))), (4, (.c (.v (.int .i64 255)))), (5, (.c (.v (.int .i64 256)))), (6, (.c (.v (.int .i64 65535)))), (7, (.c (.v (.int .i64 2147483647)))), (8, (.c (.v (.int .i64 2147483648)))), (9, (.c (.v (.int .i64 4294967295)))), (10, (.c (.v (.int .i64 4294967296)))), (11, (.c (.v (.int .i64 (-2147483648))))), (12, (.c (.v (.int .i64 9223372036854775807)))), (13, (.c (.v (.int .i64 (-9223372036854775808)))))]) (
.op (.call F.spec_l1Int [(.x 0), (.sl (.x 1))] true) (
.ret [(.x 2)]))))))))))))))))

theorem T.spec_l1Odd_l : leftF Try.prog [] FL Try.f29 = some (1, T.spec_l1Odd) := by kernel_rfl

theorem T.spec_l1Odd_con {args : List AV} {res : AV} (hl : args.length = 1) (hn : AV.norefs args = true) (hw : wpT Try.prog (fun _ _ _ => False) (fun a => a = res) T.spec_l1Odd args []) : PCon Try.prog F.spec_l1Odd args res :=
  con_auto Try.func29 T.spec_l1Odd_l hl hn hw

def T.spec_l1Below : T :=
.op (.bin .leq (.x 1) (.c (.v (.int .i64 0)))) (
.ite (.x 2)
 (.ret [(.c (.v (.int .i64 0)))])
 (.op (.bin .leq (.x 1) (.c (.v (.int .i64 256)))) (
 .ite (.x 3)
  (.op (.call F.spec_l1Byte [(.x 0)] false) (
  .op (.bin .rem (.x 4) (.x 1)) (
  .ret [(.x 5)])))
  (.op (.call F.spec_l1Byte [(.x 0)] false) (
  .op (.call F.spec_l1Byte [(.x 0)] false) (
  .op (.call F.spec_l1Byte [(.x 0)] false) (
  .op (.bin .mul (.x 4) (.c (.v (.int .i64 65536)))) (
  .op (.bin .mul (.x 5) (.c (.v (.int .i64 256)))) (
  .op (.bin .add (.x 7) (.x 8)) (
  .op (.bin .add (.x 9) (.x 6)) (
  .op (.bin .rem (.x 10) (.x 1)) (
  .ret [(.x 11)]))))))))))))

theorem T.spec_l1Below_l : leftF Try.prog [] FL Try.f30 = some (2, T.spec_l1Below) := by kernel_rfl

theorem T.spec_l1Below_con {args : List AV} {res : AV} (hl : args.length = 2) (hn : AV.norefs args = true) (hw : wpT Try.prog (fun _ _ _ => False) (fun a => a = res) T.spec_l1Below args []) : PCon Try.prog F.spec_l1Below args res :=
  con_auto Try.func30 T.spec_l1Below_l hl hn hw

def T.impl_within : T :=
.bind 1 (
 .op (.bin .geq (.x 0) (.x 1)) (
 .ite (.x 3)
  (.op (.bin .leq (.x 0) (.x 2)) (
  .jump [(.x 4)]))
  (.jump [(.c (.v (.bool false)))]))) (
.ret [(.x 3)])

theorem T.impl_within_l : leftF Try.prog [] FL Try.f31 = some (3, T.impl_within) := by kernel_rfl

theorem T.impl_within_con {args : List AV} {res : AV} (hl : args.length = 3) (hn : AV.norefs args = true) (hw : wpT Try.prog (fun _ _ _ => False) (fun a => a = res) T.impl_within args []) : PCon Try.prog F.impl_within args res :=
  con_auto Try.func31 T.impl_within_l hl hn hw

def T.laws_szTyS : T :=
.op (.lenL (.x 0)) (
.op (.bin .sub (.x 1) (.x 2)) (
.op (.bin .lss (.x 3) (.c (.v (.int .i64 0)))) (
.ite (.x 4)
 (.ret [(.c (.v (.int .i64 (-1))))])
 (.bind 1 (
  .loop [(.x 3), (.c (.v (.int .i64 0)))] (
   .op (.lenL (.x 0)) (
   .op (.bin .lss (.x 6) (.x 7)) (
   .ite (.x 8)
    (.op (.elem 4 (.x 0) (.x 6)) (
    .chk (.cells (.x 9) 4) (
    .op (.call F.laws_szTy [(.x 9), (.x 5)] false) (
    .op (.bin .lss (.x 10) (.c (.v (.int .i64 0)))) (
    .ite (.x 11)
     (.esc (.esc (.ret [(.c (.v (.int .i64 (-1))))])))
     (.op (.bin .add (.x 6) (.c (.v (.int .i64 1)))) (
     .jump [(.x 10), (.x 12)])))))))
    (.esc (.jump [(.x 5)])))))) (
 .ret [(.x 5)])))))

theorem T.laws_szTyS_l : leftF Try.prog [] FL Try.f32 = some (2, T.laws_szTyS) := by kernel_rfl

theorem T.laws_szTyS_con {args : List AV} {res : AV} (hl : args.length = 2) (hn : AV.norefs args = true) (hw : wpT Try.prog (fun _ _ _ => False) (fun a => a = res) T.laws_szTyS args []) : PCon Try.prog F.laws_szTyS args res :=
  con_auto Try.func32 T.laws_szTyS_l hl hn hw

def T.laws_toTyS : T :=
.op (.lenL (.x 0)) (
.op (.rep 56 (.agg [(.v (.int .i64 0)), (.v (.int .i64 0)), (.v (.string ⟨#[]⟩)), .nils]) (.x 1) (.x 1)) (
.bind 1 (
 .loop [(.x 2), (.c (.v (.int .i64 0)))] (
  .op (.lenL (.x 0)) (
  .op (.bin .lss (.x 4) (.x 5)) (
  .ite (.x 6)
   (.op (.elem 4 (.x 0) (.x 4)) (
   .chk (.cells (.x 7) 4) (
   .op (.call F.laws_toTy [(.x 7)] false) (
   .chk (.idx (.x 3) (.x 4)) (
   .chk (.cells (.x 8) 4) (
   .op (.set (.x 3) (.x 4) 0 4 (.x 8)) (
   .op (.bin .add (.x 4) (.c (.v (.int .i64 1)))) (
   .jump [(.x 9), (.x 10)]))))))))
   (.esc (.jump [(.x 3)])))))) (
.ret [(.sl (.x 3))])))

theorem T.laws_toTyS_l : leftF Try.prog [] FL Try.f33 = some (1, T.laws_toTyS) := by kernel_rfl

theorem T.laws_toTyS_con {args : List AV} {res : AV} (hl : args.length = 1) (hn : AV.norefs args = true) (hw : wpT Try.prog (fun _ _ _ => False) (fun a => a = res) T.laws_toTyS args []) : PCon Try.prog F.laws_toTyS args res :=
  con_auto Try.func33 T.laws_toTyS_l hl hn hw

def T.laws_eqTyS : T :=
.op (.lenL (.x 0)) (
.op (.lenL (.x 1)) (
.op (.bin .neq (.x 2) (.x 3)) (
.ite (.x 4)
 (.ret [(.c (.v (.bool false)))])
 (.bind 0 (
  .loop [(.c (.v (.int .i64 0)))] (
   .op (.lenL (.x 0)) (
   .op (.bin .lss (.x 5) (.x 6)) (
   .ite (.x 7)
    (.op (.elem 4 (.x 0) (.x 5)) (
    .chk (.cells (.x 8) 4) (
    .op (.elem 4 (.x 1) (.x 5)) (
    .chk (.cells (.x 9) 4) (
    .op (.call F.laws_eqTy [(.x 8), (.x 9)] false) (
    .op (.un .not (.x 10)) (
    .ite (.x 11)
     (.esc (.esc (.ret [(.c (.v (.bool false)))])))
     (.op (.bin .add (.x 5) (.c (.v (.int .i64 1)))) (
     .jump [(.x 12)])))))))))
    (.esc (.jump [])))))) (
 .ret [(.c (.v (.bool true)))])))))

theorem T.laws_eqTyS_l : leftF Try.prog [] FL Try.f34 = some (2, T.laws_eqTyS) := by kernel_rfl

theorem T.laws_eqTyS_con {args : List AV} {res : AV} (hl : args.length = 2) (hn : AV.norefs args = true) (hw : wpT Try.prog (fun _ _ _ => False) (fun a => a = res) T.laws_eqTyS args []) : PCon Try.prog F.laws_eqTyS args res :=
  con_auto Try.func34 T.laws_eqTyS_l hl hn hw

def T.spec_l1In : T :=
.bind 1 (
 .op (.bin .geq (.x 0) (.x 1)) (
 .ite (.x 3)
  (.op (.bin .leq (.x 0) (.x 2)) (
  .jump [(.x 4)]))
  (.jump [(.c (.v (.bool false)))]))) (
.ret [(.x 3)])

theorem T.spec_l1In_l : leftF Try.prog [] FL Try.f35 = some (3, T.spec_l1In) := by kernel_rfl

theorem T.spec_l1In_con {args : List AV} {res : AV} (hl : args.length = 3) (hn : AV.norefs args = true) (hw : wpT Try.prog (fun _ _ _ => False) (fun a => a = res) T.spec_l1In args []) : PCon Try.prog F.spec_l1In args res :=
  con_auto Try.func35 T.spec_l1In_l hl hn hw

def T.spec_l20Same : T :=
.op (.lenL (.x 0)) (
.op (.lenL (.x 1)) (
.op (.bin .neq (.x 2) (.x 3)) (
.ite (.x 4)
 (.ret [(.c (.v (.bool false)))])
 (.bind 0 (
  .loop [(.c (.v (.int .i64 0)))] (
   .op (.lenL (.x 0)) (
   .op (.bin .lss (.x 5) (.x 6)) (
   .ite (.x 7)
    (.op (.elem 1 (.x 0) (.x 5)) (
    .chk (.lt (.x 8) 0) (
    .op (.elem 1 (.x 1) (.x 5)) (
    .chk (.lt (.x 9) 0) (
    .op (.bin .neq (.cell 8 0) (.cell 9 0)) (
    .ite (.x 10)
     (.esc (.esc (.ret [(.c (.v (.bool false)))])))
     (.op (.bin .add (.x 5) (.c (.v (.int .i64 1)))) (
     .jump [(.x 11)]))))))))
    (.esc (.jump [])))))) (
 .ret [(.c (.v (.bool true)))])))))

theorem T.spec_l20Same_l : leftF Try.prog [] FL Try.f36 = some (2, T.spec_l20Same) := by kernel_rfl

theorem T.spec_l20Same_con {args : List AV} {res : AV} (hl : args.length = 2) (hn : AV.norefs args = true) (hw : wpT Try.prog (fun _ _ _ => False) (fun a => a = res) T.spec_l20Same args []) : PCon Try.prog F.spec_l20Same args res :=
  con_auto Try.func36 T.spec_l20Same_l hl hn hw

def T.slices_EqualFunc__impl_Ty__impl_Ty_impl_Ty_impl_Ty : T :=
.op (.lenL (.x 0)) (
.op (.lenL (.x 1)) (
.op (.bin .neq (.x 3) (.x 4)) (
.ite (.x 5)
 (.ret [(.c (.v (.bool false)))])
 (.bind 0 (
  .op (.lenL (.x 0)) (
  .loop [(.c (.v (.int .i64 0)))] (
   .op (.bin .lss (.x 7) (.x 6)) (
   .ite (.x 8)
    (.op (.elem 4 (.x 0) (.x 7)) (
    .chk (.cells (.x 9) 4) (
    .chk (.cells (.x 9) 4) (
    .op (.elem 4 (.x 1) (.x 7)) (
    .chk (.cells (.x 10) 4) (
    .chk (.cells (.x 10) 4) (
    .chk (.cells (.x 9) 4) (
    .chk (.cells (.x 10) 4) (
    .op (.callv (.x 2) [(.x 9), (.x 10)] false) (
    .op (.un .not (.x 11)) (
    .ite (.x 12)
     (.esc (.esc (.ret [(.c (.v (.bool false)))])))
     (.op (.bin .add (.x 7) (.c (.v (.int .i64 1)))) (
     .jump [(.x 13)])))))))))))))
    (.esc (.jump [])))))) (
 .ret [(.c (.v (.bool true)))])))))

theorem T.slices_EqualFunc__impl_Ty__impl_Ty_impl_Ty_impl_Ty_l : leftF Try.prog [] FL Try.f37 = some (3, T.slices_EqualFunc__impl_Ty__impl_Ty_impl_Ty_impl_Ty) := by kernel_rfl

theorem T.slices_EqualFunc__impl_Ty__impl_Ty_impl_Ty_impl_Ty_con {args : List AV} {res : AV} (hl : args.length = 3) (hn : AV.norefs args = true) (hw : wpT Try.prog (fun _ _ _ => False) (fun a => a = res) T.slices_EqualFunc__impl_Ty__impl_Ty_impl_Ty_impl_Ty args []) : PCon Try.prog F.slices_EqualFunc__impl_Ty__impl_Ty_impl_Ty_impl_Ty args res :=
  con_auto Try.func37 T.slices_EqualFunc__impl_Ty__impl_Ty_impl_Ty_impl_Ty_l hl hn hw

def T.spec_l1Int : T :=
.op (.lenL (.x 1)) (
.op (.call F.spec_l1Below [(.x 0), (.x 2)] false) (
.op (.elem 1 (.x 1) (.x 3)) (
.chk (.lt (.x 4) 0) (
.ret [(.cell 4 0)]))))

theorem T.spec_l1Int_l : leftF Try.prog [] FL Try.f38 = some (2, T.spec_l1Int) := by kernel_rfl

theorem T.spec_l1Int_con {args : List AV} {res : AV} (hl : args.length = 2) (hn : AV.norefs args = true) (hw : wpT Try.prog (fun _ _ _ => False) (fun a => a = res) T.spec_l1Int args []) : PCon Try.prog F.spec_l1Int args res :=
  con_auto Try.func38 T.spec_l1Int_l hl hn hw

-- spec_l1Byte: no walk
end Go.Proofs.Ab
