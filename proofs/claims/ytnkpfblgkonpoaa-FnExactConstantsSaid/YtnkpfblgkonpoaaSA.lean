/-
  THE ABSTRACT CODE of this seat's functions, printed by a program of ours (wip/tool/Gen.lean) from the translation; each with the theorem that it is that function's.
-/
import Derived.Test.YtnkpfblgkonpoaaChecked
import Derived.KernelRfl
import Derived.Test.YtnkpfblgkonpoaaAbCodeS
set_option linter.unusedVariables false
set_option linter.unusedSimpArgs false
namespace Go.Proofs.Ab
open Go.Ab
set_option maxRecDepth 100000

namespace F
abbrev gosem_cut_init : FuncId := 2
abbrev laws_FnExactConstants : FuncId := 3
abbrev laws_FnExactPutShort : FuncId := 4
abbrev laws_FnShort : FuncId := 5
abbrev laws_FnExactTySize : FuncId := 6
abbrev laws_FnExactGetShort : FuncId := 7
abbrev laws_FnExactSameTy : FuncId := 8
abbrev spec_PutShort : FuncId := 9
abbrev impl_PutShort : FuncId := 10
abbrev laws_eqByteS : FuncId := 11
abbrev laws_markByteS : FuncId := 12
abbrev laws_heldByteS : FuncId := 13
abbrev laws_big : FuncId := 14
abbrev spec_DrawPutShort : FuncId := 15
abbrev impl_GetShort : FuncId := 16
abbrev laws_szTy : FuncId := 17
abbrev spec_TySize : FuncId := 18
abbrev laws_toTy : FuncId := 19
abbrev impl_TySize : FuncId := 20
abbrev laws_eqTy : FuncId := 21
abbrev spec_GetShort : FuncId := 22
abbrev laws_toByteS : FuncId := 23
abbrev spec_SameTy : FuncId := 24
abbrev impl_SameTy : FuncId := 25
abbrev impl_turned : FuncId := 26
abbrev spec_l1New : FuncId := 27
abbrev spec_l1Once : FuncId := 28
abbrev spec_l1Odd : FuncId := 29
abbrev spec_l1Below : FuncId := 30
abbrev impl_within : FuncId := 31
abbrev laws_szTyS : FuncId := 32
abbrev laws_toTyS : FuncId := 33
abbrev laws_eqTyS : FuncId := 34
abbrev spec_l1In : FuncId := 35
abbrev spec_l20Same : FuncId := 36
abbrev slices_EqualFunc__impl_Ty__impl_Ty_impl_Ty_impl_Ty : FuncId := 37
abbrev spec_l1Int : FuncId := 38
abbrev spec_l1Byte : FuncId := 39
end F
namespace T
abbrev x__ : TypeId := 0
abbrev func__ : TypeId := 1
abbrev int64 : TypeId := 2
abbrev int : TypeId := 3
abbrev bool : TypeId := 4
abbrev uint8 : TypeId := 5
abbrev abi_BoundsErrorCode : TypeId := 6
abbrev u7_struct__ : TypeId := 7
abbrev runtime_boundsError : TypeId := 8
abbrev string : TypeId := 9
abbrev runtime_errorString : TypeId := 10
abbrev runtime_plainError : TypeId := 11
abbrev uintptr : TypeId := 12
abbrev u13_struct__ : TypeId := 13
abbrev runtime_errorAddressString : TypeId := 14
abbrev ptr_runtime_TypeAssertionError : TypeId := 15
abbrev ptr_runtime_PanicNilError : TypeId := 16
abbrev ptr_abi_Type : TypeId := 17
abbrev u18_struct__ : TypeId := 18
abbrev maps_unhashableTypeError : TypeId := 19
abbrev interface___ : TypeId := 20
abbrev int32 : TypeId := 21
abbrev func___bool : TypeId := 22
abbrev sl_uint8 : TypeId := 23
abbrev func_int__sl_uint8 : TypeId := 24
abbrev func_sl_uint8__sl_uint8__bool : TypeId := 25
abbrev func_sl_uint8__int__int : TypeId := 26
abbrev func_int__bool : TypeId := 27
abbrev func_sl_uint8__bool : TypeId := 28
abbrev func_sl_uint8__int : TypeId := 29
abbrev x_int__int__bool_ : TypeId := 30
abbrev func_sl_uint8__int___int__int__bool_ : TypeId := 31
abbrev sl_laws_Ty : TypeId := 32
abbrev u33_struct__ : TypeId := 33
abbrev laws_Ty : TypeId := 34
abbrev func_laws_Ty__int__int : TypeId := 35
abbrev func_impl_Ty__int : TypeId := 36
abbrev sl_impl_Ty : TypeId := 37
abbrev u38_struct__ : TypeId := 38
abbrev impl_Ty : TypeId := 39
abbrev func_laws_Ty__impl_Ty : TypeId := 40
abbrev func_impl_Ty__impl_Ty__bool : TypeId := 41
abbrev func_laws_Ty__bool : TypeId := 42
abbrev func_sl_uint8__sl_uint8 : TypeId := 43
abbrev func_sl_uint8__int__bool : TypeId := 44
abbrev func_laws_Ty__laws_Ty__bool : TypeId := 45
abbrev uint64 : TypeId := 46
abbrev uint : TypeId := 47
abbrev func_int__uint64 : TypeId := 48
abbrev ptr_spec_l1Cur : TypeId := 49
abbrev func_sl_uint8__ptr_spec_l1Cur : TypeId := 50
abbrev func_ptr_spec_l1Cur__int__bool : TypeId := 51
abbrev func_ptr_spec_l1Cur__int : TypeId := 52
abbrev func_ptr_spec_l1Cur__int__int : TypeId := 53
abbrev func_int__int__int__bool : TypeId := 54
abbrev func_sl_laws_Ty__int__int : TypeId := 55
abbrev func_sl_laws_Ty__sl_impl_Ty : TypeId := 56
abbrev func_sl_impl_Ty__sl_impl_Ty__bool : TypeId := 57
abbrev func_sl_impl_Ty__sl_impl_Ty__func_impl_Ty__impl_Ty__bool__bool : TypeId := 58
abbrev u59_struct__ : TypeId := 59
abbrev spec_l1Cur : TypeId := 60
abbrev func_ptr_spec_l1Cur__sl_int__int : TypeId := 61
abbrev sl_int : TypeId := 62
abbrev func___string : TypeId := 63
abbrev u64_struct__ : TypeId := 64
abbrev runtime_TypeAssertionError : TypeId := 65
abbrev x_0_ptr_runtime_PanicNilError : TypeId := 66
abbrev u67_struct__ : TypeId := 67
abbrev runtime_PanicNilError : TypeId := 68
abbrev func___int : TypeId := 69
abbrev uint32 : TypeId := 70
abbrev abi_TFlag : TypeId := 71
abbrev abi_Kind : TypeId := 72
abbrev func_unsafe_Pointer__unsafe_Pointer__bool : TypeId := 73
abbrev ptr_uint8 : TypeId := 74
abbrev abi_NameOff : TypeId := 75
abbrev abi_TypeOff : TypeId := 76
abbrev u77_struct__ : TypeId := 77
abbrev abi_Type : TypeId := 78
abbrev unsafe_Pointer : TypeId := 79
end T

def A.laws_FnExactConstants : AFn where
  nargs := 0
  nt := 1
  res := [.tmp 0]
  code := .seq (.keep [] (.region none [
     ⟨none, (some 0), .mov (.c (.v (.bool false)))⟩]))
   (.seq (.cond (.c (.v (.bool false)))
    (.seq (.keep [0] (.region none [
      ⟨none, (some 0), .mov (.c (.v (.bool false)))⟩]))
    (.ret))
    (.skip))
   (.seq (.cond (.c (.v (.bool false)))
    (.seq (.keep [0] (.region none [
      ⟨none, (some 0), .mov (.c (.v (.bool false)))⟩]))
    (.ret))
    (.skip))
   (.seq (.cond (.c (.v (.bool false)))
    (.seq (.keep [0] (.region none [
      ⟨none, (some 0), .mov (.c (.v (.bool false)))⟩]))
    (.ret))
    (.skip))
   (.seq (.cond (.c (.v (.bool false)))
    (.seq (.keep [0] (.region none [
      ⟨none, (some 0), .mov (.c (.v (.bool false)))⟩]))
    (.ret))
    (.skip))
   (.seq (.cond (.c (.v (.bool false)))
    (.seq (.keep [0] (.region none [
      ⟨none, (some 0), .mov (.c (.v (.bool false)))⟩]))
    (.ret))
    (.skip))
   (.seq (.cond (.c (.v (.bool false)))
    (.seq (.keep [0] (.region none [
      ⟨none, (some 0), .mov (.c (.v (.bool false)))⟩]))
    (.ret))
    (.skip))
   (.seq (.cond (.c (.v (.bool false)))
    (.seq (.keep [0] (.region none [
      ⟨none, (some 0), .mov (.c (.v (.bool false)))⟩]))
    (.ret))
    (.skip))
   (.seq (.cond (.c (.v (.bool false)))
    (.seq (.keep [0] (.region none [
      ⟨none, (some 0), .mov (.c (.v (.bool false)))⟩]))
    (.ret))
    (.skip))
   (.seq (.cond (.c (.v (.bool false)))
    (.seq (.keep [0] (.region none [
      ⟨none, (some 0), .mov (.c (.v (.bool false)))⟩]))
    (.ret))
    (.skip))
   (.seq (.cond (.c (.v (.bool false)))
    (.seq (.keep [0] (.region none [
      ⟨none, (some 0), .mov (.c (.v (.bool false)))⟩]))
    (.ret))
    (.skip))
   (.seq (.cond (.c (.v (.bool false)))
    (.seq (.keep [0] (.region none [
      ⟨none, (some 0), .mov (.c (.v (.bool false)))⟩]))
    (.ret))
    (.skip))
   (.seq (.cond (.c (.v (.bool false)))
    (.seq (.keep [0] (.region none [
      ⟨none, (some 0), .mov (.c (.v (.bool false)))⟩]))
    (.ret))
    (.skip))
   (.seq (.cond (.c (.v (.bool false)))
    (.seq (.keep [0] (.region none [
      ⟨none, (some 0), .mov (.c (.v (.bool false)))⟩]))
    (.ret))
    (.skip))
   (.seq (.cond (.c (.v (.bool false)))
    (.seq (.keep [0] (.region none [
      ⟨none, (some 0), .mov (.c (.v (.bool false)))⟩]))
    (.ret))
    (.skip))
   (.seq (.cond (.c (.v (.bool false)))
    (.seq (.keep [0] (.region none [
      ⟨none, (some 0), .mov (.c (.v (.bool false)))⟩]))
    (.ret))
    (.skip))
   (.seq (.cond (.c (.v (.bool false)))
    (.seq (.keep [0] (.region none [
      ⟨none, (some 0), .mov (.c (.v (.bool false)))⟩]))
    (.ret))
    (.skip))
   (.seq (.cond (.c (.v (.bool false)))
    (.seq (.keep [0] (.region none [
      ⟨none, (some 0), .mov (.c (.v (.bool false)))⟩]))
    (.ret))
    (.skip))
   (.seq (.cond (.c (.v (.bool false)))
    (.seq (.keep [0] (.region none [
      ⟨none, (some 0), .mov (.c (.v (.bool false)))⟩]))
    (.ret))
    (.skip))
   (.seq (.cond (.c (.v (.bool false)))
    (.seq (.keep [0] (.region none [
      ⟨none, (some 0), .mov (.c (.v (.bool false)))⟩]))
    (.ret))
    (.skip))
   (.seq (.cond (.c (.v (.bool false)))
    (.seq (.keep [0] (.region none [
      ⟨none, (some 0), .mov (.c (.v (.bool false)))⟩]))
    (.ret))
    (.skip))
   (.seq (.cond (.c (.v (.bool false)))
    (.seq (.keep [0] (.region none [
      ⟨none, (some 0), .mov (.c (.v (.bool false)))⟩]))
    (.ret))
    (.skip))
   (.seq (.cond (.c (.v (.bool false)))
    (.seq (.keep [0] (.region none [
      ⟨none, (some 0), .mov (.c (.v (.bool false)))⟩]))
    (.ret))
    (.skip))
   (.seq (.cond (.c (.v (.bool false)))
    (.seq (.keep [0] (.region none [
      ⟨none, (some 0), .mov (.c (.v (.bool false)))⟩]))
    (.ret))
    (.skip))
   (.seq (.cond (.c (.v (.bool false)))
    (.seq (.keep [0] (.region none [
      ⟨none, (some 0), .mov (.c (.v (.bool false)))⟩]))
    (.ret))
    (.skip))
   (.seq (.cond (.c (.v (.bool false)))
    (.seq (.keep [0] (.region none [
      ⟨none, (some 0), .mov (.c (.v (.bool false)))⟩]))
    (.ret))
    (.skip))
   (.seq (.cond (.c (.v (.bool false)))
    (.seq (.keep [0] (.region none [
      ⟨none, (some 0), .mov (.c (.v (.bool false)))⟩]))
    (.ret))
    (.skip))
   (.seq (.cond (.c (.v (.bool false)))
    (.seq (.keep [0] (.region none [
      ⟨none, (some 0), .mov (.c (.v (.bool false)))⟩]))
    (.ret))
    (.skip))
   (.seq (.cond (.c (.v (.bool false)))
    (.seq (.keep [0] (.region none [
      ⟨none, (some 0), .mov (.c (.v (.bool false)))⟩]))
    (.ret))
    (.skip))
   (.seq (.cond (.c (.v (.bool false)))
    (.seq (.keep [0] (.region none [
      ⟨none, (some 0), .mov (.c (.v (.bool false)))⟩]))
    (.ret))
    (.skip))
   (.seq (.cond (.c (.v (.bool false)))
    (.seq (.keep [0] (.region none [
      ⟨none, (some 0), .mov (.c (.v (.bool false)))⟩]))
    (.ret))
    (.skip))
   (.seq (.cond (.c (.v (.bool false)))
    (.seq (.keep [0] (.region none [
      ⟨none, (some 0), .mov (.c (.v (.bool false)))⟩]))
    (.ret))
    (.skip))
   (.seq (.cond (.c (.v (.bool false)))
    (.seq (.keep [0] (.region none [
      ⟨none, (some 0), .mov (.c (.v (.bool false)))⟩]))
    (.ret))
    (.skip))
   (.seq (.cond (.c (.v (.bool false)))
    (.seq (.keep [0] (.region none [
      ⟨none, (some 0), .mov (.c (.v (.bool false)))⟩]))
    (.ret))
    (.skip))
   (.seq (.cond (.c (.v (.bool false)))
    (.seq (.keep [0] (.region none [
      ⟨none, (some 0), .mov (.c (.v (.bool false)))⟩]))
    (.ret))
    (.skip))
   (.seq (.cond (.c (.v (.bool false)))
    (.seq (.keep [0] (.region none [
      ⟨none, (some 0), .mov (.c (.v (.bool false)))⟩]))
    (.ret))
    (.skip))
   (.seq (.cond (.c (.v (.bool false)))
    (.seq (.keep [0] (.region none [
      ⟨none, (some 0), .mov (.c (.v (.bool false)))⟩]))
    (.ret))
    (.skip))
   (.seq (.cond (.c (.v (.bool false)))
    (.seq (.keep [0] (.region none [
      ⟨none, (some 0), .mov (.c (.v (.bool false)))⟩]))
    (.ret))
    (.skip))
   (.seq (.cond (.c (.v (.bool false)))
    (.seq (.keep [0] (.region none [
      ⟨none, (some 0), .mov (.c (.v (.bool false)))⟩]))
    (.ret))
    (.skip))
   (.seq (.cond (.c (.v (.bool false)))
    (.seq (.keep [0] (.region none [
      ⟨none, (some 0), .mov (.c (.v (.bool false)))⟩]))
    (.ret))
    (.skip))
   (.seq (.cond (.c (.v (.bool false)))
    (.seq (.keep [0] (.region none [
      ⟨none, (some 0), .mov (.c (.v (.bool false)))⟩]))
    (.ret))
    (.skip))
   (.seq (.cond (.c (.v (.bool false)))
    (.seq (.keep [0] (.region none [
      ⟨none, (some 0), .mov (.c (.v (.bool false)))⟩]))
    (.ret))
    (.skip))
   (.seq (.cond (.c (.v (.bool false)))
    (.seq (.keep [0] (.region none [
      ⟨none, (some 0), .mov (.c (.v (.bool false)))⟩]))
    (.ret))
    (.skip))
   (.seq (.cond (.c (.v (.bool false)))
    (.seq (.keep [0] (.region none [
      ⟨none, (some 0), .mov (.c (.v (.bool false)))⟩]))
    (.ret))
    (.skip))
   (.seq (.cond (.c (.v (.bool false)))
    (.seq (.keep [0] (.region none [
      ⟨none, (some 0), .mov (.c (.v (.bool false)))⟩]))
    (.ret))
    (.skip))
   (.seq (.cond (.c (.v (.bool false)))
    (.seq (.keep [0] (.region none [
      ⟨none, (some 0), .mov (.c (.v (.bool false)))⟩]))
    (.ret))
    (.skip))
   (.seq (.cond (.c (.v (.bool false)))
    (.seq (.keep [0] (.region none [
      ⟨none, (some 0), .mov (.c (.v (.bool false)))⟩]))
    (.ret))
    (.skip))
   (.seq (.cond (.c (.v (.bool false)))
    (.seq (.keep [0] (.region none [
      ⟨none, (some 0), .mov (.c (.v (.bool false)))⟩]))
    (.ret))
    (.skip))
   (.seq (.cond (.c (.v (.bool false)))
    (.seq (.keep [0] (.region none [
      ⟨none, (some 0), .mov (.c (.v (.bool false)))⟩]))
    (.ret))
    (.skip))
   (.seq (.cond (.c (.v (.bool false)))
    (.seq (.keep [0] (.region none [
      ⟨none, (some 0), .mov (.c (.v (.bool false)))⟩]))
    (.ret))
    (.skip))
   (.seq (.cond (.c (.v (.bool false)))
    (.seq (.keep [0] (.region none [
      ⟨none, (some 0), .mov (.c (.v (.bool false)))⟩]))
    (.ret))
    (.skip))
   (.seq (.cond (.c (.v (.bool false)))
    (.seq (.keep [0] (.region none [
      ⟨none, (some 0), .mov (.c (.v (.bool false)))⟩]))
    (.ret))
    (.skip))
   (.seq (.cond (.c (.v (.bool false)))
    (.seq (.keep [0] (.region none [
      ⟨none, (some 0), .mov (.c (.v (.bool false)))⟩]))
    (.ret))
    (.skip))
   (.seq (.cond (.c (.v (.bool false)))
    (.seq (.keep [0] (.region none [
      ⟨none, (some 0), .mov (.c (.v (.bool false)))⟩]))
    (.ret))
    (.skip))
   (.seq (.cond (.c (.v (.bool false)))
    (.seq (.keep [0] (.region none [
      ⟨none, (some 0), .mov (.c (.v (.bool false)))⟩]))
    (.ret))
    (.skip))
   (.seq (.cond (.c (.v (.bool false)))
    (.seq (.keep [0] (.region none [
      ⟨none, (some 0), .mov (.c (.v (.bool false)))⟩]))
    (.ret))
    (.skip))
   (.seq (.cond (.c (.v (.bool false)))
    (.seq (.keep [0] (.region none [
      ⟨none, (some 0), .mov (.c (.v (.bool false)))⟩]))
    (.ret))
    (.skip))
   (.seq (.cond (.c (.v (.bool false)))
    (.seq (.keep [0] (.region none [
      ⟨none, (some 0), .mov (.c (.v (.bool false)))⟩]))
    (.ret))
    (.skip))
   (.seq (.cond (.c (.v (.bool false)))
    (.seq (.keep [0] (.region none [
      ⟨none, (some 0), .mov (.c (.v (.bool false)))⟩]))
    (.ret))
    (.skip))
   (.seq (.cond (.c (.v (.bool false)))
    (.seq (.keep [0] (.region none [
      ⟨none, (some 0), .mov (.c (.v (.bool false)))⟩]))
    (.ret))
    (.skip))
   (.seq (.cond (.c (.v (.bool false)))
    (.seq (.keep [0] (.region none [
      ⟨none, (some 0), .mov (.c (.v (.bool false)))⟩]))
    (.ret))
    (.skip))
   (.seq (.cond (.c (.v (.bool false)))
    (.seq (.keep [0] (.region none [
      ⟨none, (some 0), .mov (.c (.v (.bool false)))⟩]))
    (.ret))
    (.skip))
   (.seq (.cond (.c (.v (.bool false)))
    (.seq (.keep [0] (.region none [
      ⟨none, (some 0), .mov (.c (.v (.bool false)))⟩]))
    (.ret))
    (.skip))
   (.seq (.cond (.c (.v (.bool false)))
    (.seq (.keep [0] (.region none [
      ⟨none, (some 0), .mov (.c (.v (.bool false)))⟩]))
    (.ret))
    (.skip))
   (.seq (.cond (.c (.v (.bool false)))
    (.seq (.keep [0] (.region none [
      ⟨none, (some 0), .mov (.c (.v (.bool false)))⟩]))
    (.ret))
    (.skip))
   (.seq (.cond (.c (.v (.bool false)))
    (.seq (.keep [0] (.region none [
      ⟨none, (some 0), .mov (.c (.v (.bool false)))⟩]))
    (.ret))
    (.skip))
   (.seq (.cond (.c (.v (.bool false)))
    (.seq (.keep [0] (.region none [
      ⟨none, (some 0), .mov (.c (.v (.bool false)))⟩]))
    (.ret))
    (.skip))
   (.seq (.cond (.c (.v (.bool false)))
    (.seq (.keep [0] (.region none [
      ⟨none, (some 0), .mov (.c (.v (.bool false)))⟩]))
    (.ret))
    (.skip))
   (.seq (.cond (.c (.v (.bool false)))
    (.seq (.keep [0] (.region none [
      ⟨none, (some 0), .mov (.c (.v (.bool false)))⟩]))
    (.ret))
    (.skip))
   (.seq (.cond (.c (.v (.bool false)))
    (.seq (.keep [0] (.region none [
      ⟨none, (some 0), .mov (.c (.v (.bool false)))⟩]))
    (.ret))
    (.skip))
   (.seq (.cond (.c (.v (.bool false)))
    (.seq (.keep [0] (.region none [
      ⟨none, (some 0), .mov (.c (.v (.bool false)))⟩]))
    (.ret))
    (.skip))
   (.seq (.cond (.c (.v (.bool false)))
    (.seq (.keep [0] (.region none [
      ⟨none, (some 0), .mov (.c (.v (.bool false)))⟩]))
    (.ret))
    (.skip))
   (.seq (.cond (.c (.v (.bool false)))
    (.seq (.keep [0] (.region none [
      ⟨none, (some 0), .mov (.c (.v (.bool false)))⟩]))
    (.ret))
    (.skip))
   (.seq (.cond (.c (.v (.bool false)))
    (.seq (.keep [0] (.region none [
      ⟨none, (some 0), .mov (.c (.v (.bool false)))⟩]))
    (.ret))
    (.skip))
   (.seq (.cond (.c (.v (.bool false)))
    (.seq (.keep [0] (.region none [
      ⟨none, (some 0), .mov (.c (.v (.bool false)))⟩]))
    (.ret))
    (.skip))
   (.seq (.cond (.c (.v (.bool false)))
    (.seq (.keep [0] (.region none [
      ⟨none, (some 0), .mov (.c (.v (.bool false)))⟩]))
    (.ret))
    (.skip))
   (.seq (.cond (.c (.v (.bool false)))
    (.seq (.keep [0] (.region none [
      ⟨none, (some 0), .mov (.c (.v (.bool false)))⟩]))
    (.ret))
    (.skip))
   (.seq (.cond (.c (.v (.bool false)))
    (.seq (.keep [0] (.region none [
      ⟨none, (some 0), .mov (.c (.v (.bool false)))⟩]))
    (.ret))
    (.skip))
   (.seq (.cond (.c (.v (.bool false)))
    (.seq (.keep [0] (.region none [
      ⟨none, (some 0), .mov (.c (.v (.bool false)))⟩]))
    (.ret))
    (.skip))
   (.seq (.cond (.c (.v (.bool false)))
    (.seq (.keep [0] (.region none [
      ⟨none, (some 0), .mov (.c (.v (.bool false)))⟩]))
    (.ret))
    (.skip))
   (.seq (.cond (.c (.v (.bool false)))
    (.seq (.keep [0] (.region none [
      ⟨none, (some 0), .mov (.c (.v (.bool false)))⟩]))
    (.ret))
    (.skip))
   (.seq (.cond (.c (.v (.bool false)))
    (.seq (.keep [0] (.region none [
      ⟨none, (some 0), .mov (.c (.v (.bool false)))⟩]))
    (.ret))
    (.skip))
   (.seq (.cond (.c (.v (.bool false)))
    (.seq (.keep [0] (.region none [
      ⟨none, (some 0), .mov (.c (.v (.bool false)))⟩]))
    (.ret))
    (.skip))
   (.seq (.cond (.c (.v (.bool false)))
    (.seq (.keep [0] (.region none [
      ⟨none, (some 0), .mov (.c (.v (.bool false)))⟩]))
    (.ret))
    (.skip))
   (.seq (.cond (.c (.v (.bool false)))
    (.seq (.keep [0] (.region none [
      ⟨none, (some 0), .mov (.c (.v (.bool false)))⟩]))
    (.ret))
    (.skip))
   (.seq (.cond (.c (.v (.bool false)))
    (.seq (.keep [0] (.region none [
      ⟨none, (some 0), .mov (.c (.v (.bool false)))⟩]))
    (.ret))
    (.skip))
   (.seq (.cond (.c (.v (.bool false)))
    (.seq (.keep [0] (.region none [
      ⟨none, (some 0), .mov (.c (.v (.bool false)))⟩]))
    (.ret))
    (.skip))
   (.seq (.cond (.c (.v (.bool false)))
    (.seq (.keep [0] (.region none [
      ⟨none, (some 0), .mov (.c (.v (.bool false)))⟩]))
    (.ret))
    (.skip))
   (.seq (.cond (.c (.v (.bool false)))
    (.seq (.keep [0] (.region none [
      ⟨none, (some 0), .mov (.c (.v (.bool false)))⟩]))
    (.ret))
    (.skip))
   (.seq (.cond (.c (.v (.bool false)))
    (.seq (.keep [0] (.region none [
      ⟨none, (some 0), .mov (.c (.v (.bool false)))⟩]))
    (.ret))
    (.skip))
   (.seq (.cond (.c (.v (.bool false)))
    (.seq (.keep [0] (.region none [
      ⟨none, (some 0), .mov (.c (.v (.bool false)))⟩]))
    (.ret))
    (.skip))
   (.seq (.cond (.c (.v (.bool false)))
    (.seq (.keep [0] (.region none [
      ⟨none, (some 0), .mov (.c (.v (.bool false)))⟩]))
    (.ret))
    (.skip))
   (.seq (.cond (.c (.v (.bool false)))
    (.seq (.keep [0] (.region none [
      ⟨none, (some 0), .mov (.c (.v (.bool false)))⟩]))
    (.ret))
    (.skip))
   (.seq (.cond (.c (.v (.bool false)))
    (.seq (.keep [0] (.region none [
      ⟨none, (some 0), .mov (.c (.v (.bool false)))⟩]))
    (.ret))
    (.skip))
   (.seq (.cond (.c (.v (.bool false)))
    (.seq (.keep [0] (.region none [
      ⟨none, (some 0), .mov (.c (.v (.bool false)))⟩]))
    (.ret))
    (.skip))
   (.seq (.cond (.c (.v (.bool false)))
    (.seq (.keep [0] (.region none [
      ⟨none, (some 0), .mov (.c (.v (.bool false)))⟩]))
    (.ret))
    (.skip))
   (.seq (.cond (.c (.v (.bool false)))
    (.seq (.keep [0] (.region none [
      ⟨none, (some 0), .mov (.c (.v (.bool false)))⟩]))
    (.ret))
    (.skip))
   (.seq (.cond (.c (.v (.bool false)))
    (.seq (.keep [0] (.region none [
      ⟨none, (some 0), .mov (.c (.v (.bool false)))⟩]))
    (.ret))
    (.skip))
   (.seq (.cond (.c (.v (.bool false)))
    (.seq (.keep [0] (.region none [
      ⟨none, (some 0), .mov (.c (.v (.bool false)))⟩]))
    (.ret))
    (.skip))
   (.seq (.cond (.c (.v (.bool false)))
    (.seq (.keep [0] (.region none [
      ⟨none, (some 0), .mov (.c (.v (.bool false)))⟩]))
    (.ret))
    (.skip))
   (.seq (.cond (.c (.v (.bool false)))
    (.seq (.keep [0] (.region none [
      ⟨none, (some 0), .mov (.c (.v (.bool false)))⟩]))
    (.ret))
    (.skip))
   (.seq (.cond (.c (.v (.bool false)))
    (.seq (.keep [0] (.region none [
      ⟨none, (some 0), .mov (.c (.v (.bool false)))⟩]))
    (.ret))
    (.skip))
   (.seq (.cond (.c (.v (.bool false)))
    (.seq (.keep [0] (.region none [
      ⟨none, (some 0), .mov (.c (.v (.bool false)))⟩]))
    (.ret))
    (.skip))
   (.seq (.cond (.c (.v (.bool false)))
    (.seq (.keep [0] (.region none [
      ⟨none, (some 0), .mov (.c (.v (.bool false)))⟩]))
    (.ret))
    (.skip))
   (.seq (.cond (.c (.v (.bool false)))
    (.seq (.keep [0] (.region none [
      ⟨none, (some 0), .mov (.c (.v (.bool false)))⟩]))
    (.ret))
    (.skip))
   (.seq (.cond (.c (.v (.bool false)))
    (.seq (.keep [0] (.region none [
      ⟨none, (some 0), .mov (.c (.v (.bool false)))⟩]))
    (.ret))
    (.skip))
   (.seq (.cond (.c (.v (.bool false)))
    (.seq (.keep [0] (.region none [
      ⟨none, (some 0), .mov (.c (.v (.bool false)))⟩]))
    (.ret))
    (.skip))
   (.seq (.cond (.c (.v (.bool false)))
    (.seq (.keep [0] (.region none [
      ⟨none, (some 0), .mov (.c (.v (.bool false)))⟩]))
    (.ret))
    (.skip))
   (.seq (.cond (.c (.v (.bool false)))
    (.seq (.keep [0] (.region none [
      ⟨none, (some 0), .mov (.c (.v (.bool false)))⟩]))
    (.ret))
    (.skip))
   (.seq (.cond (.c (.v (.bool false)))
    (.seq (.keep [0] (.region none [
      ⟨none, (some 0), .mov (.c (.v (.bool false)))⟩]))
    (.ret))
    (.skip))
   (.seq (.cond (.c (.v (.bool false)))
    (.seq (.keep [0] (.region none [
      ⟨none, (some 0), .mov (.c (.v (.bool false)))⟩]))
    (.ret))
    (.skip))
   (.seq (.cond (.c (.v (.bool false)))
    (.seq (.keep [0] (.region none [
      ⟨none, (some 0), .mov (.c (.v (.bool false)))⟩]))
    (.ret))
    (.skip))
   (.seq (.cond (.c (.v (.bool false)))
    (.seq (.keep [0] (.region none [
      ⟨none, (some 0), .mov (.c (.v (.bool false)))⟩]))
    (.ret))
    (.skip))
   (.seq (.cond (.c (.v (.bool false)))
    (.seq (.keep [0] (.region none [
      ⟨none, (some 0), .mov (.c (.v (.bool false)))⟩]))
    (.ret))
    (.skip))
   (.seq (.cond (.c (.v (.bool false)))
    (.seq (.keep [0] (.region none [
      ⟨none, (some 0), .mov (.c (.v (.bool false)))⟩]))
    (.ret))
    (.skip))
   (.seq (.cond (.c (.v (.bool false)))
    (.seq (.keep [0] (.region none [
      ⟨none, (some 0), .mov (.c (.v (.bool false)))⟩]))
    (.ret))
    (.skip))
   (.seq (.cond (.c (.v (.bool false)))
    (.seq (.keep [0] (.region none [
      ⟨none, (some 0), .mov (.c (.v (.bool false)))⟩]))
    (.ret))
    (.skip))
   (.seq (.cond (.c (.v (.bool false)))
    (.seq (.keep [0] (.region none [
      ⟨none, (some 0), .mov (.c (.v (.bool false)))⟩]))
    (.ret))
    (.skip))
   (.seq (.cond (.c (.v (.bool false)))
    (.seq (.keep [0] (.region none [
      ⟨none, (some 0), .mov (.c (.v (.bool false)))⟩]))
    (.ret))
    (.skip))
   (.seq (.cond (.c (.v (.bool false)))
    (.seq (.keep [0] (.region none [
      ⟨none, (some 0), .mov (.c (.v (.bool false)))⟩]))
    (.ret))
    (.skip))
   (.seq (.cond (.c (.v (.bool false)))
    (.seq (.keep [0] (.region none [
      ⟨none, (some 0), .mov (.c (.v (.bool false)))⟩]))
    (.ret))
    (.skip))
   (.seq (.cond (.c (.v (.bool false)))
    (.seq (.keep [0] (.region none [
      ⟨none, (some 0), .mov (.c (.v (.bool false)))⟩]))
    (.ret))
    (.skip))
   (.seq (.cond (.c (.v (.bool false)))
    (.seq (.keep [0] (.region none [
      ⟨none, (some 0), .mov (.c (.v (.bool false)))⟩]))
    (.ret))
    (.skip))
   (.seq (.cond (.c (.v (.bool false)))
    (.seq (.keep [0] (.region none [
      ⟨none, (some 0), .mov (.c (.v (.bool false)))⟩]))
    (.ret))
    (.skip))
   (.seq (.cond (.c (.v (.bool false)))
    (.seq (.keep [0] (.region none [
      ⟨none, (some 0), .mov (.c (.v (.bool false)))⟩]))
    (.ret))
    (.skip))
   (.seq (.cond (.c (.v (.bool false)))
    (.seq (.keep [0] (.region none [
      ⟨none, (some 0), .mov (.c (.v (.bool false)))⟩]))
    (.ret))
    (.skip))
   (.seq (.cond (.c (.v (.bool false)))
    (.seq (.keep [0] (.region none [
      ⟨none, (some 0), .mov (.c (.v (.bool false)))⟩]))
    (.ret))
    (.skip))
   (.seq (.cond (.c (.v (.bool false)))
    (.seq (.keep [0] (.region none [
      ⟨none, (some 0), .mov (.c (.v (.bool false)))⟩]))
    (.ret))
    (.skip))
   (.seq (.cond (.c (.v (.bool false)))
    (.seq (.keep [0] (.region none [
      ⟨none, (some 0), .mov (.c (.v (.bool false)))⟩]))
    (.ret))
    (.skip))
   (.seq (.cond (.c (.v (.bool false)))
    (.seq (.keep [0] (.region none [
      ⟨none, (some 0), .mov (.c (.v (.bool false)))⟩]))
    (.ret))
    (.skip))
   (.seq (.cond (.c (.v (.bool false)))
    (.seq (.keep [0] (.region none [
      ⟨none, (some 0), .mov (.c (.v (.bool false)))⟩]))
    (.ret))
    (.skip))
   (.seq (.cond (.c (.v (.bool false)))
    (.seq (.keep [0] (.region none [
      ⟨none, (some 0), .mov (.c (.v (.bool false)))⟩]))
    (.ret))
    (.skip))
   (.seq (.cond (.c (.v (.bool false)))
    (.seq (.keep [0] (.region none [
      ⟨none, (some 0), .mov (.c (.v (.bool false)))⟩]))
    (.ret))
    (.skip))
   (.seq (.cond (.c (.v (.bool false)))
    (.seq (.keep [0] (.region none [
      ⟨none, (some 0), .mov (.c (.v (.bool false)))⟩]))
    (.ret))
    (.skip))
   (.seq (.cond (.c (.v (.bool false)))
    (.seq (.keep [0] (.region none [
      ⟨none, (some 0), .mov (.c (.v (.bool false)))⟩]))
    (.ret))
    (.skip))
   (.seq (.cond (.c (.v (.bool false)))
    (.seq (.keep [0] (.region none [
      ⟨none, (some 0), .mov (.c (.v (.bool false)))⟩]))
    (.ret))
    (.skip))
   (.seq (.cond (.c (.v (.bool false)))
    (.seq (.keep [0] (.region none [
      ⟨none, (some 0), .mov (.c (.v (.bool false)))⟩]))
    (.ret))
    (.skip))
   (.seq (.cond (.c (.v (.bool false)))
    (.seq (.keep [0] (.region none [
      ⟨none, (some 0), .mov (.c (.v (.bool false)))⟩]))
    (.ret))
    (.skip))
   (.seq (.cond (.c (.v (.bool false)))
    (.seq (.keep [0] (.region none [
      ⟨none, (some 0), .mov (.c (.v (.bool false)))⟩]))
    (.ret))
    (.skip))
   (.seq (.cond (.c (.v (.bool false)))
    (.seq (.keep [0] (.region none [
      ⟨none, (some 0), .mov (.c (.v (.bool false)))⟩]))
    (.ret))
    (.skip))
   (.seq (.cond (.c (.v (.bool false)))
    (.seq (.keep [0] (.region none [
      ⟨none, (some 0), .mov (.c (.v (.bool false)))⟩]))
    (.ret))
    (.skip))
   (.seq (.cond (.c (.v (.bool false)))
    (.seq (.keep [0] (.region none [
      ⟨none, (some 0), .mov (.c (.v (.bool false)))⟩]))
    (.ret))
    (.skip))
   (.seq (.cond (.c (.v (.bool false)))
    (.seq (.keep [0] (.region none [
      ⟨none, (some 0), .mov (.c (.v (.bool false)))⟩]))
    (.ret))
    (.skip))
   (.seq (.cond (.c (.v (.bool false)))
    (.seq (.keep [0] (.region none [
      ⟨none, (some 0), .mov (.c (.v (.bool false)))⟩]))
    (.ret))
    (.skip))
   (.seq (.cond (.c (.v (.bool false)))
    (.seq (.keep [0] (.region none [
      ⟨none, (some 0), .mov (.c (.v (.bool false)))⟩]))
    (.ret))
    (.skip))
   (.seq (.cond (.c (.v (.bool false)))
    (.seq (.keep [0] (.region none [
      ⟨none, (some 0), .mov (.c (.v (.bool false)))⟩]))
    (.ret))
    (.skip))
   (.seq (.cond (.c (.v (.bool false)))
    (.seq (.keep [0] (.region none [
      ⟨none, (some 0), .mov (.c (.v (.bool false)))⟩]))
    (.ret))
    (.skip))
   (.seq (.cond (.c (.v (.bool false)))
    (.seq (.keep [0] (.region none [
      ⟨none, (some 0), .mov (.c (.v (.bool false)))⟩]))
    (.ret))
    (.skip))
   (.seq (.cond (.c (.v (.bool false)))
    (.seq (.keep [0] (.region none [
      ⟨none, (some 0), .mov (.c (.v (.bool false)))⟩]))
    (.ret))
    (.skip))
   (.seq (.cond (.c (.v (.bool false)))
    (.seq (.keep [0] (.region none [
      ⟨none, (some 0), .mov (.c (.v (.bool false)))⟩]))
    (.ret))
    (.skip))
   (.seq (.cond (.c (.v (.bool false)))
    (.seq (.keep [0] (.region none [
      ⟨none, (some 0), .mov (.c (.v (.bool false)))⟩]))
    (.ret))
    (.skip))
   (.seq (.cond (.c (.v (.bool false)))
    (.seq (.keep [0] (.region none [
      ⟨none, (some 0), .mov (.c (.v (.bool false)))⟩]))
    (.ret))
    (.skip))
   (.seq (.cond (.c (.v (.bool false)))
    (.seq (.keep [0] (.region none [
      ⟨none, (some 0), .mov (.c (.v (.bool false)))⟩]))
    (.ret))
    (.skip))
   (.seq (.cond (.c (.v (.bool false)))
    (.seq (.keep [0] (.region none [
      ⟨none, (some 0), .mov (.c (.v (.bool false)))⟩]))
    (.ret))
    (.skip))
   (.seq (.cond (.c (.v (.bool false)))
    (.seq (.keep [0] (.region none [
      ⟨none, (some 0), .mov (.c (.v (.bool false)))⟩]))
    (.ret))
    (.skip))
   (.seq (.cond (.c (.v (.bool false)))
    (.seq (.keep [0] (.region none [
      ⟨none, (some 0), .mov (.c (.v (.bool false)))⟩]))
    (.ret))
    (.skip))
   (.seq (.cond (.c (.v (.bool false)))
    (.seq (.keep [0] (.region none [
      ⟨none, (some 0), .mov (.c (.v (.bool false)))⟩]))
    (.ret))
    (.skip))
   (.seq (.cond (.c (.v (.bool false)))
    (.seq (.keep [0] (.region none [
      ⟨none, (some 0), .mov (.c (.v (.bool false)))⟩]))
    (.ret))
    (.skip))
   (.seq (.cond (.c (.v (.bool false)))
    (.seq (.keep [0] (.region none [
      ⟨none, (some 0), .mov (.c (.v (.bool false)))⟩]))
    (.ret))
    (.skip))
   (.seq (.cond (.c (.v (.bool false)))
    (.seq (.keep [0] (.region none [
      ⟨none, (some 0), .mov (.c (.v (.bool false)))⟩]))
    (.ret))
    (.skip))
   (.seq (.cond (.c (.v (.bool false)))
    (.seq (.keep [0] (.region none [
      ⟨none, (some 0), .mov (.c (.v (.bool false)))⟩]))
    (.ret))
    (.skip))
   (.seq (.cond (.c (.v (.bool false)))
    (.seq (.keep [0] (.region none [
      ⟨none, (some 0), .mov (.c (.v (.bool false)))⟩]))
    (.ret))
    (.skip))
   (.seq (.cond (.c (.v (.bool false)))
    (.seq (.keep [0] (.region none [
      ⟨none, (some 0), .mov (.c (.v (.bool false)))⟩]))
    (.ret))
    (.skip))
   (.seq (.cond (.c (.v (.bool false)))
    (.seq (.keep [0] (.region none [
      ⟨none, (some 0), .mov (.c (.v (.bool false)))⟩]))
    (.ret))
    (.skip))
   (.seq (.cond (.c (.v (.bool false)))
    (.seq (.keep [0] (.region none [
      ⟨none, (some 0), .mov (.c (.v (.bool false)))⟩]))
    (.ret))
    (.skip))
   (.seq (.cond (.c (.v (.bool false)))
    (.seq (.keep [0] (.region none [
      ⟨none, (some 0), .mov (.c (.v (.bool false)))⟩]))
    (.ret))
    (.skip))
   (.seq (.cond (.c (.v (.bool false)))
    (.seq (.keep [0] (.region none [
      ⟨none, (some 0), .mov (.c (.v (.bool false)))⟩]))
    (.ret))
    (.skip))
   (.seq (.cond (.c (.v (.bool false)))
    (.seq (.keep [0] (.region none [
      ⟨none, (some 0), .mov (.c (.v (.bool false)))⟩]))
    (.ret))
    (.skip))
   (.seq (.cond (.c (.v (.bool false)))
    (.seq (.keep [0] (.region none [
      ⟨none, (some 0), .mov (.c (.v (.bool false)))⟩]))
    (.ret))
    (.skip))
   (.seq (.cond (.c (.v (.bool false)))
    (.seq (.keep [0] (.region none [
      ⟨none, (some 0), .mov (.c (.v (.bool false)))⟩]))
    (.ret))
    (.skip))
   (.seq (.keep [0] (.region none [
     ⟨none, (some 0), .mov (.c (.v (.bool true)))⟩]))
   (.ret)))))))))))))))))))))))))))))))))))))))))))))))))))))))))))))))))))))))))))))))))))))))))))))))))))))))))))))))))))))))))))))))))))))))))))))))))))))))))))))))))))))))))))

theorem A.laws_FnExactConstants_ok : cFn Try.prog F.laws_FnExactConstants A.laws_FnExactConstants :=
  ⟨_, _, Try.func3, rfl, by kernel_rfl, rfl, by decide, by kernel_rfl, by kernel_rfl, by kernel_rfl⟩

def A.laws_FnExactPutShort : AFn where
  nargs := 1
  nt := 41
  res := [.tmp 2]
  code := .seq (.keep [0] (.region none [
     ⟨none, (some 2), .mov (.c (.v (.bool false)))⟩]))
   (.seq (.keep [0, 3] (.region none [
     ⟨none, (some 8), .mov (.t 0)⟩,
     ⟨none, (some 9), .pcall F.spec_PutShort [(.t 8)]⟩,
     ⟨none, (some 3), .mov (.t 9)⟩]))
   (.seq (.keep [0, 3, 4] (.region none [
     ⟨none, (some 10), .mov (.t 0)⟩,
     ⟨none, (some 11), .pcall F.impl_PutShort [(.t 10)]⟩,
     ⟨none, (some 4), .mov (.t 11)⟩]))
   (.seq (.seq (.keep [0, 3, 4, 15] (.region none [
     ⟨none, (some 12), .mov (.t 4)⟩,
     ⟨none, (some 13), .mov (.t 3)⟩,
     ⟨none, (some 14), .pcall F.laws_eqByteS [(.t 12), (.t 13)]⟩,
     ⟨none, (some 15), .un .not (.t 14)⟩]))
   (.cond (.t 15)
    (.seq (.keep [2] (.region none [
      ⟨none, (some 2), .mov (.c (.v (.bool false)))⟩]))
    (.ret))
    (.skip)))
   (.seq (.keep [0, 3, 4, 5] (.region none [
     ⟨none, (some 5), .mov (.c (.v (.int .i64 1)))⟩]))
   (.seq (.keep [0, 3, 4, 5] (.region none [
     ⟨none, (some 16), .mov (.t 4)⟩,
     ⟨none, (some 17), .mov (.t 5)⟩,
     ⟨none, (some 18), .pcall F.laws_markByteS [(.t 16), (.t 17)]⟩,
     ⟨none, (some 5), .mov (.t 18)⟩]))
   (.seq (.keep [0, 3, 4, 5, 6] (.region none [
     ⟨none, (some 6), .mov (.c (.v (.int .i64 1)))⟩]))
   (.seq (.keep [0, 3, 4, 5, 6] (.region none [
     ⟨none, (some 19), .mov (.t 4)⟩,
     ⟨none, (some 20), .mov (.t 6)⟩,
     ⟨none, (some 21), .pcall F.laws_heldByteS [(.t 19), (.t 20)]⟩,
     ⟨none, (some 6), .mov (.t 21)⟩]))
   (.seq (.seq (.keep [0, 3, 4, 5, 6, 23] (.region none [
     ⟨none, (some 22), .mov (.t 6)⟩,
     ⟨none, (some 23), .bin .lss (.t 22) (.c (.v (.int .i64 0)))⟩]))
   (.cond (.t 23)
    (.seq (.keep [2] (.region none [
      ⟨none, (some 2), .mov (.c (.v (.bool false)))⟩]))
    (.ret))
    (.skip)))
   (.seq (.seq (.keep [0, 3, 4, 5, 26] (.region none [
     ⟨none, (some 24), .mov (.t 6)⟩,
     ⟨none, (some 25), .mov (.t 5)⟩,
     ⟨none, (some 26), .bin .neq (.t 24) (.t 25)⟩]))
   (.cond (.t 26)
    (.seq (.keep [2] (.region none [
      ⟨none, (some 2), .mov (.c (.v (.bool false)))⟩]))
    (.ret))
    (.skip)))
   (.seq (.keep [3, 4, 5, 7] (.region none [
     ⟨none, (some 27), .mov (.t 0)⟩,
     ⟨none, (some 28), .pcall F.impl_PutShort [(.t 27)]⟩,
     ⟨none, (some 7), .mov (.t 28)⟩]))
   (.seq (.seq (.keep [4, 5, 32] (.region none [
     ⟨none, (some 29), .mov (.t 7)⟩,
     ⟨none, (some 30), .mov (.t 3)⟩,
     ⟨none, (some 31), .pcall F.laws_eqByteS [(.t 29), (.t 30)]⟩,
     ⟨none, (some 32), .un .not (.t 31)⟩]))
   (.cond (.t 32)
    (.seq (.keep [2] (.region none [
      ⟨none, (some 2), .mov (.c (.v (.bool false)))⟩]))
    (.ret))
    (.skip)))
   (.seq (.keep [4, 5, 6] (.region none [
     ⟨none, (some 6), .mov (.c (.v (.int .i64 1)))⟩]))
   (.seq (.keep [5, 6] (.region none [
     ⟨none, (some 33), .mov (.t 4)⟩,
     ⟨none, (some 34), .mov (.t 6)⟩,
     ⟨none, (some 35), .pcall F.laws_heldByteS [(.t 33), (.t 34)]⟩,
     ⟨none, (some 6), .mov (.t 35)⟩]))
   (.seq (.seq (.keep [5, 6, 37] (.region none [
     ⟨none, (some 36), .mov (.t 6)⟩,
     ⟨none, (some 37), .bin .lss (.t 36) (.c (.v (.int .i64 0)))⟩]))
   (.cond (.t 37)
    (.seq (.keep [2] (.region none [
      ⟨none, (some 2), .mov (.c (.v (.bool false)))⟩]))
    (.ret))
    (.skip)))
   (.seq (.seq (.keep [40] (.region none [
     ⟨none, (some 38), .mov (.t 6)⟩,
     ⟨none, (some 39), .mov (.t 5)⟩,
     ⟨none, (some 40), .bin .neq (.t 38) (.t 39)⟩]))
   (.cond (.t 40)
    (.seq (.keep [2] (.region none [
      ⟨none, (some 2), .mov (.c (.v (.bool false)))⟩]))
    (.ret))
    (.skip)))
   (.seq (.keep [2] (.region none [
     ⟨none, (some 2), .mov (.c (.v (.bool true)))⟩]))
   (.ret)))))))))))))))))

theorem A.laws_FnExactPutShort_ok : cFn Try.prog F.laws_FnExactPutShort A.laws_FnExactPutShort :=
  ⟨_, _, Try.func4, rfl, by kernel_rfl, rfl, by decide, by kernel_rfl, by kernel_rfl, by kernel_rfl⟩

-- laws_FnShort: not covered
def A.laws_FnExactTySize : AFn where
  nargs := 1
  nt := 27
  res := [.tmp 2]
  code := .seq (.keep [1] (.region none [
     ⟨none, (some 1), .box T.laws_Ty 4 (.t 0)⟩,
     ⟨none, (some 2), .mov (.c (.v (.bool false)))⟩]))
   (.seq (.keep [1, 3] (.region none [
     ⟨none, (some 3), .mov (.c (.v (.int .i64 1048576)))⟩]))
   (.seq (.keep [1, 3] (.region none [
     ⟨none, (some 7), .load (some 4) (.t 1)⟩,
     ⟨none, (some 8), .mov (.t 3)⟩,
     ⟨none, (some 9), .pcall F.laws_szTy [(.t 7), (.t 8)]⟩,
     ⟨none, (some 3), .mov (.t 9)⟩]))
   (.seq (.seq (.keep [1, 11] (.region none [
     ⟨none, (some 10), .mov (.t 3)⟩,
     ⟨none, (some 11), .bin .lss (.t 10) (.c (.v (.int .i64 0)))⟩]))
   (.cond (.t 11)
    (.seq (.keep [2] (.region none [
      ⟨none, (some 2), .mov (.c (.v (.bool true)))⟩]))
    (.ret))
    (.skip)))
   (.seq (.keep [1, 4] (.region none [
     ⟨none, (some 12), .load (some 4) (.t 1)⟩,
     ⟨none, (some 13), .pcall F.laws_toTy [(.t 12)]⟩,
     ⟨none, (some 14), .pcall F.spec_TySize [(.t 13)]⟩,
     ⟨none, (some 4), .mov (.t 14)⟩]))
   (.seq (.keep [1, 4, 5] (.region none [
     ⟨none, (some 15), .load (some 4) (.t 1)⟩,
     ⟨none, (some 16), .pcall F.laws_toTy [(.t 15)]⟩,
     ⟨none, (some 5), .alloc T.impl_Ty 4 (.agg [(.v (.int .i64 0)), (.v (.int .i64 0)), (.v (.string ⟨#[]⟩)), .nils])⟩,
     ⟨none, none, .store 4 (.t 5) (.t 16)⟩]))
   (.seq (.keep [1, 4, 5, 6] (.region none [
     ⟨none, (some 17), .load (some 4) (.t 5)⟩,
     ⟨none, (some 18), .pcall F.impl_TySize [(.t 17)]⟩,
     ⟨none, (some 6), .mov (.t 18)⟩]))
   (.seq (.seq (.keep [1, 5, 21] (.region none [
     ⟨none, (some 19), .mov (.t 6)⟩,
     ⟨none, (some 20), .mov (.t 4)⟩,
     ⟨none, (some 21), .bin .neq (.t 19) (.t 20)⟩]))
   (.cond (.t 21)
    (.seq (.keep [2] (.region none [
      ⟨none, (some 2), .mov (.c (.v (.bool false)))⟩]))
    (.ret))
    (.skip)))
   (.seq (.seq (.keep [26] (.region (some [[], [], [1], [0, 2, 2], [3]]) [
     ⟨none, (some 22), .load (some 4) (.t 5)⟩,
     ⟨none, (some 23), .load (some 4) (.t 1)⟩,
     ⟨none, (some 24), .qcall F.laws_toTy [(.t 23)]⟩,
     ⟨none, (some 25), .qcall F.laws_eqTy [(.t 22), (.t 24)]⟩,
     ⟨none, (some 26), .un .not (.t 25)⟩]))
   (.cond (.t 26)
    (.seq (.keep [2] (.region none [
      ⟨none, (some 2), .mov (.c (.v (.bool false)))⟩]))
    (.ret))
    (.skip)))
   (.seq (.keep [2] (.region none [
     ⟨none, (some 2), .mov (.c (.v (.bool true)))⟩]))
   (.ret))))))))))

theorem A.laws_FnExactTySize_ok : cFn Try.prog F.laws_FnExactTySize A.laws_FnExactTySize :=
  ⟨_, _, Try.func6, rfl, by kernel_rfl, rfl, by decide, by kernel_rfl, by kernel_rfl, by kernel_rfl⟩

def A.laws_FnExactGetShort : AFn where
  nargs := 2
  nt := 50
  res := [.tmp 4]
  code := .seq (.keep [0, 1] (.region none [
     ⟨none, (some 4), .mov (.c (.v (.bool false)))⟩]))
   (.seq (.seq (.keep [0, 1, 14] (.region none [
     ⟨none, (some 12), .mov (.t 0)⟩,
     ⟨none, (some 13), .lenL (.t 12)⟩,
     ⟨none, (some 14), .bin .gtr (.t 13) (.c (.v (.int .i64 1048576)))⟩]))
   (.cond (.t 14)
    (.seq (.keep [4] (.region none [
      ⟨none, (some 4), .mov (.c (.v (.bool true)))⟩]))
    (.ret))
    (.skip)))
   (.seq (.keep [0, 1, 5, 6, 7] (.region none [
     ⟨none, (some 16), .mov (.t 0)⟩,
     ⟨none, (some 17), .pcall F.laws_toByteS [(.t 16)]⟩,
     ⟨none, (some 18), .mov (.t 1)⟩,
     ⟨none, (some 19), .pcall F.spec_GetShort [(.t 17), (.t 18)]⟩,
     ⟨none, (some 15), .mov (.t 19)⟩,
     ⟨none, (some 20), .ext (.t 15) 0⟩,
     ⟨none, (some 21), .ext (.t 15) 1⟩,
     ⟨none, (some 22), .ext (.t 15) 2⟩,
     ⟨none, (some 5), .mov (.t 20)⟩,
     ⟨none, (some 6), .mov (.t 21)⟩,
     ⟨none, (some 7), .mov (.t 22)⟩]))
   (.seq (.keep [0, 1, 5, 6, 7, 8] (.region none [
     ⟨none, (some 23), .mov (.t 0)⟩,
     ⟨none, (some 24), .pcall F.laws_toByteS [(.t 23)]⟩,
     ⟨none, (some 8), .mov (.t 24)⟩]))
   (.seq (.keep [0, 5, 6, 7, 8, 9, 10, 11] (.region none [
     ⟨none, (some 26), .mov (.t 8)⟩,
     ⟨none, (some 27), .mov (.t 1)⟩,
     ⟨none, (some 28), .pcall F.impl_GetShort [(.t 26), (.t 27)]⟩,
     ⟨none, (some 25), .mov (.t 28)⟩,
     ⟨none, (some 29), .ext (.t 25) 0⟩,
     ⟨none, (some 30), .ext (.t 25) 1⟩,
     ⟨none, (some 31), .ext (.t 25) 2⟩,
     ⟨none, (some 9), .mov (.t 29)⟩,
     ⟨none, (some 10), .mov (.t 30)⟩,
     ⟨none, (some 11), .mov (.t 31)⟩]))
   (.seq (.seq (.keep [0, 8, 44] (.region none [
     ⟨none, (some 32), .mov (.t 9)⟩,
     ⟨none, (some 33), .mov (.t 5)⟩,
     ⟨none, (some 34), .bin .neq (.t 32) (.t 33)⟩,
     ⟨none, (some 35), .mov (.t 34)⟩,
     ⟨(some (35, false)), (some 36), .mov (.t 10)⟩,
     ⟨(some (35, false)), (some 37), .mov (.t 6)⟩,
     ⟨(some (35, false)), (some 38), .bin .neq (.t 36) (.t 37)⟩,
     ⟨none, (some 39), .pick (.t 35) (.c (.v (.bool true))) (.t 38)⟩,
     ⟨none, (some 40), .mov (.t 39)⟩,
     ⟨(some (40, false)), (some 41), .mov (.t 11)⟩,
     ⟨(some (40, false)), (some 42), .mov (.t 7)⟩,
     ⟨(some (40, false)), (some 43), .bin .neq (.t 41) (.t 42)⟩,
     ⟨none, (some 44), .pick (.t 40) (.c (.v (.bool true))) (.t 43)⟩]))
   (.cond (.t 44)
    (.seq (.keep [4] (.region none [
      ⟨none, (some 4), .mov (.c (.v (.bool false)))⟩]))
    (.ret))
    (.skip)))
   (.seq (.seq (.keep [49] (.region none [
     ⟨none, (some 45), .mov (.t 8)⟩,
     ⟨none, (some 46), .mov (.t 0)⟩,
     ⟨none, (some 47), .pcall F.laws_toByteS [(.t 46)]⟩,
     ⟨none, (some 48), .pcall F.laws_eqByteS [(.t 45), (.t 47)]⟩,
     ⟨none, (some 49), .un .not (.t 48)⟩]))
   (.cond (.t 49)
    (.seq (.keep [4] (.region none [
      ⟨none, (some 4), .mov (.c (.v (.bool false)))⟩]))
    (.ret))
    (.skip)))
   (.seq (.keep [4] (.region none [
     ⟨none, (some 4), .mov (.c (.v (.bool true)))⟩]))
   (.ret))))))))

theorem A.laws_FnExactGetShort_ok : cFn Try.prog F.laws_FnExactGetShort A.laws_FnExactGetShort :=
  ⟨_, _, Try.func7, rfl, by kernel_rfl, rfl, by decide, by kernel_rfl, by kernel_rfl, by kernel_rfl⟩

def A.laws_FnExactSameTy : AFn where
  nargs := 2
  nt := 45
  res := [.tmp 4]
  code := .seq (.keep [2, 3] (.region none [
     ⟨none, (some 2), .box T.laws_Ty 4 (.t 0)⟩,
     ⟨none, (some 3), .box T.laws_Ty 4 (.t 1)⟩,
     ⟨none, (some 4), .mov (.c (.v (.bool false)))⟩]))
   (.seq (.keep [2, 3, 5] (.region none [
     ⟨none, (some 5), .mov (.c (.v (.int .i64 1048576)))⟩]))
   (.seq (.keep [2, 3, 5] (.region none [
     ⟨none, (some 10), .load (some 4) (.t 2)⟩,
     ⟨none, (some 11), .mov (.t 5)⟩,
     ⟨none, (some 12), .pcall F.laws_szTy [(.t 10), (.t 11)]⟩,
     ⟨none, (some 5), .mov (.t 12)⟩]))
   (.seq (.seq (.keep [2, 3, 5, 14] (.region none [
     ⟨none, (some 13), .mov (.t 5)⟩,
     ⟨none, (some 14), .bin .lss (.t 13) (.c (.v (.int .i64 0)))⟩]))
   (.cond (.t 14)
    (.seq (.keep [4] (.region none [
      ⟨none, (some 4), .mov (.c (.v (.bool true)))⟩]))
    (.ret))
    (.skip)))
   (.seq (.keep [2, 3, 5] (.region none [
     ⟨none, (some 15), .load (some 4) (.t 3)⟩,
     ⟨none, (some 16), .mov (.t 5)⟩,
     ⟨none, (some 17), .pcall F.laws_szTy [(.t 15), (.t 16)]⟩,
     ⟨none, (some 5), .mov (.t 17)⟩]))
   (.seq (.seq (.keep [2, 3, 19] (.region none [
     ⟨none, (some 18), .mov (.t 5)⟩,
     ⟨none, (some 19), .bin .lss (.t 18) (.c (.v (.int .i64 0)))⟩]))
   (.cond (.t 19)
    (.seq (.keep [4] (.region none [
      ⟨none, (some 4), .mov (.c (.v (.bool true)))⟩]))
    (.ret))
    (.skip)))
   (.seq (.keep [2, 3, 6] (.region (some [[], [0], [], [2, 1], [1, 3, 3], [4, 4, 0, 1, 2, 3, 4]]) [
     ⟨none, (some 20), .load (some 4) (.t 2)⟩,
     ⟨none, (some 21), .qcall F.laws_toTy [(.t 20)]⟩,
     ⟨none, (some 22), .load (some 4) (.t 3)⟩,
     ⟨none, (some 23), .qcall F.laws_toTy [(.t 22)]⟩,
     ⟨none, (some 24), .qcall F.spec_SameTy [(.t 21), (.t 23)]⟩,
     ⟨none, (some 6), .mov (.t 24)⟩]))
   (.seq (.keep [2, 3, 6, 7] (.region none [
     ⟨none, (some 25), .load (some 4) (.t 2)⟩,
     ⟨none, (some 26), .pcall F.laws_toTy [(.t 25)]⟩,
     ⟨none, (some 7), .alloc T.impl_Ty 4 (.agg [(.v (.int .i64 0)), (.v (.int .i64 0)), (.v (.string ⟨#[]⟩)), .nils])⟩,
     ⟨none, none, .store 4 (.t 7) (.t 26)⟩]))
   (.seq (.keep [2, 3, 6, 7, 8] (.region none [
     ⟨none, (some 27), .load (some 4) (.t 3)⟩,
     ⟨none, (some 28), .pcall F.laws_toTy [(.t 27)]⟩,
     ⟨none, (some 8), .alloc T.impl_Ty 4 (.agg [(.v (.int .i64 0)), (.v (.int .i64 0)), (.v (.string ⟨#[]⟩)), .nils])⟩,
     ⟨none, none, .store 4 (.t 8) (.t 28)⟩]))
   (.seq (.keep [2, 3, 6, 7, 8, 9] (.region none [
     ⟨none, (some 29), .load (some 4) (.t 7)⟩,
     ⟨none, (some 30), .load (some 4) (.t 8)⟩,
     ⟨none, (some 31), .pcall F.impl_SameTy [(.t 29), (.t 30)]⟩,
     ⟨none, (some 9), .mov (.t 31)⟩]))
   (.seq (.seq (.keep [2, 3, 7, 8, 34] (.region none [
     ⟨none, (some 32), .mov (.t 9)⟩,
     ⟨none, (some 33), .mov (.t 6)⟩,
     ⟨none, (some 34), .bin .neq (.t 32) (.t 33)⟩]))
   (.cond (.t 34)
    (.seq (.keep [4] (.region none [
      ⟨none, (some 4), .mov (.c (.v (.bool false)))⟩]))
    (.ret))
    (.skip)))
   (.seq (.seq (.keep [3, 8, 39] (.region (some [[], [], [1], [0, 2, 2], [3]]) [
     ⟨none, (some 35), .load (some 4) (.t 7)⟩,
     ⟨none, (some 36), .load (some 4) (.t 2)⟩,
     ⟨none, (some 37), .qcall F.laws_toTy [(.t 36)]⟩,
     ⟨none, (some 38), .qcall F.laws_eqTy [(.t 35), (.t 37)]⟩,
     ⟨none, (some 39), .un .not (.t 38)⟩]))
   (.cond (.t 39)
    (.seq (.keep [4] (.region none [
      ⟨none, (some 4), .mov (.c (.v (.bool false)))⟩]))
    (.ret))
    (.skip)))
   (.seq (.seq (.keep [44] (.region (some [[], [], [1], [0, 2, 2], [3]]) [
     ⟨none, (some 40), .load (some 4) (.t 8)⟩,
     ⟨none, (some 41), .load (some 4) (.t 3)⟩,
     ⟨none, (some 42), .qcall F.laws_toTy [(.t 41)]⟩,
     ⟨none, (some 43), .qcall F.laws_eqTy [(.t 40), (.t 42)]⟩,
     ⟨none, (some 44), .un .not (.t 43)⟩]))
   (.cond (.t 44)
    (.seq (.keep [4] (.region none [
      ⟨none, (some 4), .mov (.c (.v (.bool false)))⟩]))
    (.ret))
    (.skip)))
   (.seq (.keep [4] (.region none [
     ⟨none, (some 4), .mov (.c (.v (.bool true)))⟩]))
   (.ret))))))))))))))

theorem A.laws_FnExactSameTy_ok : cFn Try.prog F.laws_FnExactSameTy A.laws_FnExactSameTy :=
  ⟨_, _, Try.func8, rfl, by kernel_rfl, rfl, by decide, by kernel_rfl, by kernel_rfl, by kernel_rfl⟩

def A.spec_PutShort : AFn where
  nargs := 1
  nt := 33
  res := [.tmp 2]
  code := .seq (.keep [0] (.region none [
     ⟨none, (some 2), .mov (.c .nils)⟩]))
   (.seq (.keep [0, 3] (.region none [
     ⟨none, (some 5), .mov (.t 0)⟩,
     ⟨none, (some 6), .convInt .u64 (.t 5)⟩,
     ⟨none, (some 7), .bin .shl (.t 6) (.c (.v (.int .u64 1)))⟩,
     ⟨none, (some 3), .mov (.t 7)⟩]))
   (.seq (.seq (.keep [0, 3, 9] (.region none [
     ⟨none, (some 8), .mov (.t 0)⟩,
     ⟨none, (some 9), .bin .lss (.t 8) (.c (.v (.int .i64 0)))⟩]))
   (.cond (.t 9)
    (.keep [3] (.region none [
      ⟨none, (some 10), .mov (.t 0)⟩,
      ⟨none, (some 11), .bin .add (.t 10) (.c (.v (.int .i64 1)))⟩,
      ⟨none, (some 12), .un .neg (.t 11)⟩,
      ⟨none, (some 13), .convInt .u64 (.t 12)⟩,
      ⟨none, (some 14), .bin .shl (.t 13) (.c (.v (.int .u64 1)))⟩,
      ⟨none, (some 15), .bin .add (.t 14) (.c (.v (.int .u64 1)))⟩,
      ⟨none, (some 3), .mov (.t 15)⟩]))
    (.skip)))
   (.seq (.keep [3, 4] (.region none [
     ⟨none, (some 16), .buildSlice T.uint8 1 0 (.v (.int .u8 0)) []⟩,
     ⟨none, (some 4), .mov (.t 16)⟩]))
   (.seq (.block 0 (.loop (.seq (.seq (.keep [3, 4, 18] (.region none [
       ⟨none, (some 17), .mov (.t 3)⟩,
       ⟨none, (some 18), .bin .geq (.t 17) (.c (.v (.int .u64 128)))⟩]))
     (.cond (.t 18)
      (.skip)
      (.exit 0)))
     (.block 1 (.seq (.keep [3, 4] (.region none [
        ⟨none, (some 19), .mov (.t 4)⟩,
        ⟨none, (some 20), .mov (.t 3)⟩,
        ⟨none, (some 21), .bin .and (.t 20) (.c (.v (.int .u64 127)))⟩,
        ⟨none, (some 22), .bin .add (.t 21) (.c (.v (.int .u64 128)))⟩,
        ⟨none, (some 23), .convInt .u8 (.t 22)⟩,
        ⟨none, (some 24), .buildSlice T.uint8 1 1 (.v (.int .u8 0)) [(0, (.t 23))]⟩,
        ⟨none, (some 25), .app T.uint8 1 1 (.t 19) (.t 24)⟩,
        ⟨none, (some 4), .mov (.t 25)⟩]))
      (.keep [3, 4] (.region none [
        ⟨none, (some 26), .mov (.t 3)⟩,
        ⟨none, (some 27), .bin .shr (.t 26) (.c (.v (.int .u64 7)))⟩,
        ⟨none, (some 3), .mov (.t 27)⟩])))))))
   (.seq (.keep [2] (.region none [
     ⟨none, (some 28), .mov (.t 4)⟩,
     ⟨none, (some 29), .mov (.t 3)⟩,
     ⟨none, (some 30), .convInt .u8 (.t 29)⟩,
     ⟨none, (some 31), .buildSlice T.uint8 1 1 (.v (.int .u8 0)) [(0, (.t 30))]⟩,
     ⟨none, (some 32), .app T.uint8 1 1 (.t 28) (.t 31)⟩,
     ⟨none, (some 2), .mov (.t 32)⟩]))
   (.ret))))))

theorem A.spec_PutShort_ok : cFn Try.prog F.spec_PutShort A.spec_PutShort :=
  ⟨_, _, Try.func9, rfl, by kernel_rfl, rfl, by decide, by kernel_rfl, by kernel_rfl, by kernel_rfl⟩

def A.impl_PutShort : AFn where
  nargs := 1
  nt := 23
  res := [.tmp 2]
  code := .seq (.keep [0] (.region none [
     ⟨none, (some 2), .mov (.c .nils)⟩]))
   (.seq (.keep [0, 3] (.region none [
     ⟨none, (some 3), .mov (.c .nils)⟩]))
   (.seq (.keep [3, 4] (.region none [
     ⟨none, (some 5), .mov (.t 0)⟩,
     ⟨none, (some 6), .pcall F.impl_turned [(.t 5)]⟩,
     ⟨none, (some 4), .mov (.t 6)⟩]))
   (.seq (.block 0 (.loop (.seq (.seq (.keep [3, 4, 8] (.region none [
       ⟨none, (some 7), .mov (.t 4)⟩,
       ⟨none, (some 8), .bin .gtr (.t 7) (.c (.v (.int .u64 127)))⟩]))
     (.cond (.t 8)
      (.skip)
      (.exit 0)))
     (.seq (.block 1 (.keep [3, 4] (.region none [
        ⟨none, (some 11), .mov (.t 3)⟩,
        ⟨none, (some 12), .mov (.t 4)⟩,
        ⟨none, (some 13), .bin .and (.t 12) (.c (.v (.int .u64 127)))⟩,
        ⟨none, (some 14), .convInt .u8 (.t 13)⟩,
        ⟨none, (some 15), .bin .or (.t 14) (.c (.v (.int .u8 128)))⟩,
        ⟨none, (some 16), .buildSlice T.uint8 1 1 (.v (.int .u8 0)) [(0, (.t 15))]⟩,
        ⟨none, (some 17), .app T.uint8 1 1 (.t 11) (.t 16)⟩,
        ⟨none, (some 3), .mov (.t 17)⟩])))
     (.keep [3, 4] (.region none [
       ⟨none, (some 9), .mov (.t 4)⟩,
       ⟨none, (some 10), .bin .shr (.t 9) (.c (.v (.int .u64 7)))⟩,
       ⟨none, (some 4), .mov (.t 10)⟩]))))))
   (.seq (.keep [2] (.region none [
     ⟨none, (some 18), .mov (.t 3)⟩,
     ⟨none, (some 19), .mov (.t 4)⟩,
     ⟨none, (some 20), .convInt .u8 (.t 19)⟩,
     ⟨none, (some 21), .buildSlice T.uint8 1 1 (.v (.int .u8 0)) [(0, (.t 20))]⟩,
     ⟨none, (some 22), .app T.uint8 1 1 (.t 18) (.t 21)⟩,
     ⟨none, (some 2), .mov (.t 22)⟩]))
   (.ret)))))

theorem A.impl_PutShort_ok : cFn Try.prog F.impl_PutShort A.impl_PutShort :=
  ⟨_, _, Try.func10, rfl, by kernel_rfl, rfl, by decide, by kernel_rfl, by kernel_rfl, by kernel_rfl⟩

def A.laws_eqByteS : AFn where
  nargs := 2
  nt := 26
  res := [.tmp 4]
  code := .seq (.keep [0, 1] (.region none [
     ⟨none, (some 4), .mov (.c (.v (.bool false)))⟩]))
   (.seq (.seq (.keep [0, 1, 10] (.region none [
     ⟨none, (some 6), .mov (.t 0)⟩,
     ⟨none, (some 7), .lenL (.t 6)⟩,
     ⟨none, (some 8), .mov (.t 1)⟩,
     ⟨none, (some 9), .lenL (.t 8)⟩,
     ⟨none, (some 10), .bin .neq (.t 7) (.t 9)⟩]))
   (.cond (.t 10)
    (.seq (.keep [4] (.region none [
      ⟨none, (some 4), .mov (.c (.v (.bool false)))⟩]))
    (.ret))
    (.skip)))
   (.seq (.seq (.keep [0, 1, 5] (.region none [
     ⟨none, (some 5), .mov (.c (.v (.int .i64 0)))⟩]))
   (.block 0 (.loop (.seq (.seq (.keep [0, 1, 5, 14] (.region none [
       ⟨none, (some 11), .mov (.t 5)⟩,
       ⟨none, (some 12), .mov (.t 0)⟩,
       ⟨none, (some 13), .lenL (.t 12)⟩,
       ⟨none, (some 14), .bin .lss (.t 11) (.t 13)⟩]))
     (.cond (.t 14)
      (.skip)
      (.exit 0)))
     (.seq (.block 1 (.seq (.keep [0, 1, 5, 25] (.region (some [[], [], [0, 1], [2], [], [], [4, 5], [6], [3, 7]]) [
        ⟨none, (some 17), .mov (.t 0)⟩,
        ⟨none, (some 18), .mov (.t 5)⟩,
        ⟨none, (some 19), .iaddr 1 (.t 17) (.t 18)⟩,
        ⟨none, (some 20), .load none (.t 19)⟩,
        ⟨none, (some 21), .mov (.t 1)⟩,
        ⟨none, (some 22), .mov (.t 5)⟩,
        ⟨none, (some 23), .iaddr 1 (.t 21) (.t 22)⟩,
        ⟨none, (some 24), .load none (.t 23)⟩,
        ⟨none, (some 25), .bin .neq (.t 20) (.t 24)⟩]))
      (.cond (.t 25)
       (.seq (.keep [4] (.region none [
         ⟨none, (some 4), .mov (.c (.v (.bool false)))⟩]))
       (.ret))
       (.skip))))
     (.keep [0, 1, 5] (.region none [
       ⟨none, (some 15), .mov (.t 5)⟩,
       ⟨none, (some 16), .bin .add (.t 15) (.c (.v (.int .i64 1)))⟩,
       ⟨none, (some 5), .mov (.t 16)⟩])))))))
   (.seq (.keep [4] (.region none [
     ⟨none, (some 4), .mov (.c (.v (.bool true)))⟩]))
   (.ret))))

theorem A.laws_eqByteS_ok : cFn Try.prog F.laws_eqByteS A.laws_eqByteS :=
  ⟨_, _, Try.func11, rfl, by kernel_rfl, rfl, by decide, by kernel_rfl, by kernel_rfl, by kernel_rfl⟩

def A.laws_markByteS : AFn where
  nargs := 2
  nt := 20
  res := [.tmp 4]
  code := .seq (.keep [0, 1] (.region none [
     ⟨none, (some 4), .mov (.c (.v (.int .i64 0)))⟩]))
   (.seq (.seq (.keep [0, 1, 5] (.region none [
     ⟨none, (some 5), .mov (.c (.v (.int .i64 0)))⟩]))
   (.block 0 (.loop (.seq (.seq (.keep [0, 1, 5, 9] (.region none [
       ⟨none, (some 6), .mov (.t 5)⟩,
       ⟨none, (some 7), .mov (.t 0)⟩,
       ⟨none, (some 8), .lenL (.t 7)⟩,
       ⟨none, (some 9), .bin .lss (.t 6) (.t 8)⟩]))
     (.cond (.t 9)
      (.skip)
      (.exit 0)))
     (.seq (.block 1 (.seq (.keep [0, 1, 5] (.region none [
        ⟨none, (some 12), .mov (.t 0)⟩,
        ⟨none, (some 13), .mov (.t 5)⟩,
        ⟨none, (some 14), .mov (.t 1)⟩,
        ⟨none, (some 15), .convInt .u8 (.t 14)⟩,
        ⟨none, (some 16), .iaddr 1 (.t 12) (.t 13)⟩,
        ⟨none, none, .store 1 (.t 16) (.t 15)⟩]))
      (.keep [0, 1, 5] (.region none [
        ⟨none, (some 17), .mov (.t 1)⟩,
        ⟨none, (some 18), .bin .add (.t 17) (.c (.v (.int .i64 1)))⟩,
        ⟨none, (some 1), .mov (.t 18)⟩]))))
     (.keep [0, 1, 5] (.region none [
       ⟨none, (some 10), .mov (.t 5)⟩,
       ⟨none, (some 11), .bin .add (.t 10) (.c (.v (.int .i64 1)))⟩,
       ⟨none, (some 5), .mov (.t 11)⟩])))))))
   (.seq (.keep [4] (.region none [
     ⟨none, (some 19), .mov (.t 1)⟩,
     ⟨none, (some 4), .mov (.t 19)⟩]))
   (.ret)))

theorem A.laws_markByteS_ok : cFn Try.prog F.laws_markByteS A.laws_markByteS :=
  ⟨_, _, Try.func12, rfl, by kernel_rfl, rfl, by decide, by kernel_rfl, by kernel_rfl, by kernel_rfl⟩

def A.laws_heldByteS : AFn where
  nargs := 2
  nt := 22
  res := [.tmp 4]
  code := .seq (.keep [0, 1] (.region none [
     ⟨none, (some 4), .mov (.c (.v (.int .i64 0)))⟩]))
   (.seq (.seq (.keep [0, 1, 5] (.region none [
     ⟨none, (some 5), .mov (.c (.v (.int .i64 0)))⟩]))
   (.block 0 (.loop (.seq (.seq (.keep [0, 1, 5, 9] (.region none [
       ⟨none, (some 6), .mov (.t 5)⟩,
       ⟨none, (some 7), .mov (.t 0)⟩,
       ⟨none, (some 8), .lenL (.t 7)⟩,
       ⟨none, (some 9), .bin .lss (.t 6) (.t 8)⟩]))
     (.cond (.t 9)
      (.skip)
      (.exit 0)))
     (.seq (.block 1 (.seq (.seq (.keep [0, 1, 5, 18] (.region none [
        ⟨none, (some 12), .mov (.t 0)⟩,
        ⟨none, (some 13), .mov (.t 5)⟩,
        ⟨none, (some 14), .iaddr 1 (.t 12) (.t 13)⟩,
        ⟨none, (some 15), .load none (.t 14)⟩,
        ⟨none, (some 16), .mov (.t 1)⟩,
        ⟨none, (some 17), .convInt .u8 (.t 16)⟩,
        ⟨none, (some 18), .bin .neq (.t 15) (.t 17)⟩]))
      (.cond (.t 18)
       (.seq (.keep [4] (.region none [
         ⟨none, (some 4), .mov (.c (.v (.int .i64 (-1))))⟩]))
       (.ret))
       (.skip)))
      (.keep [0, 1, 5] (.region none [
        ⟨none, (some 19), .mov (.t 1)⟩,
        ⟨none, (some 20), .bin .add (.t 19) (.c (.v (.int .i64 1)))⟩,
        ⟨none, (some 1), .mov (.t 20)⟩]))))
     (.keep [0, 1, 5] (.region none [
       ⟨none, (some 10), .mov (.t 5)⟩,
       ⟨none, (some 11), .bin .add (.t 10) (.c (.v (.int .i64 1)))⟩,
       ⟨none, (some 5), .mov (.t 11)⟩])))))))
   (.seq (.keep [4] (.region none [
     ⟨none, (some 21), .mov (.t 1)⟩,
     ⟨none, (some 4), .mov (.t 21)⟩]))
   (.ret)))

theorem A.laws_heldByteS_ok : cFn Try.prog F.laws_heldByteS A.laws_heldByteS :=
  ⟨_, _, Try.func13, rfl, by kernel_rfl, rfl, by decide, by kernel_rfl, by kernel_rfl, by kernel_rfl⟩

def A.laws_big : AFn where
  nargs := 1
  nt := 6
  res := [.tmp 2]
  code := .seq (.keep [0] (.region none [
     ⟨none, (some 2), .mov (.c (.v (.bool false)))⟩]))
   (.seq (.keep [2] (.region none [
     ⟨none, (some 3), .mov (.t 0)⟩,
     ⟨none, (some 4), .lenL (.t 3)⟩,
     ⟨none, (some 5), .bin .gtr (.t 4) (.c (.v (.int .i64 1048576)))⟩,
     ⟨none, (some 2), .mov (.t 5)⟩]))
   (.ret))

theorem A.laws_big_ok : cFn Try.prog F.laws_big A.laws_big :=
  ⟨_, _, Try.func14, rfl, by kernel_rfl, rfl, by decide, by kernel_rfl, by kernel_rfl, by kernel_rfl⟩

def A.spec_DrawPutShort : AFn where
  nargs := 1
  nt := 16
  res := [.tmp 2]
  code := .seq (.keep [0] (.region none [
     ⟨none, (some 2), .mov (.c (.v (.int .i64 0)))⟩]))
   (.seq (.keep [3] (.region none [
     ⟨none, (some 4), .mov (.t 0)⟩,
     ⟨none, (some 5), .pcall F.spec_l1New [(.t 4)]⟩,
     ⟨none, (some 3), .mov (.t 5)⟩]))
   (.seq (.seq (.keep [3, 7] (.region none [
     ⟨none, (some 6), .mov (.t 3)⟩,
     ⟨none, (some 7), .call F.spec_l1Once [(.t 6), (.c (.v (.int .i64 3)))]⟩]))
   (.cond (.t 7)
    (.seq (.keep [2] (.region none [
      ⟨none, (some 8), .mov (.t 3)⟩,
      ⟨none, (some 9), .call F.spec_l1Odd [(.t 8)]⟩,
      ⟨none, (some 2), .mov (.t 9)⟩]))
    (.ret))
    (.skip)))
   (.seq (.keep [2] (.region none [
     ⟨none, (some 10), .mov (.t 3)⟩,
     ⟨none, (some 11), .call F.spec_l1Below [(.t 10), (.c (.v (.int .i64 16000000)))]⟩,
     ⟨none, (some 12), .bin .sub (.t 11) (.c (.v (.int .i64 8000000)))⟩,
     ⟨none, (some 13), .mov (.t 3)⟩,
     ⟨none, (some 14), .call F.spec_l1Below [(.t 13), (.c (.v (.int .i64 23)))]⟩,
     ⟨none, (some 15), .bin .shr (.t 12) (.t 14)⟩,
     ⟨none, (some 2), .mov (.t 15)⟩]))
   (.ret))))

theorem A.spec_DrawPutShort_ok : cFn Try.prog F.spec_DrawPutShort A.spec_DrawPutShort :=
  ⟨_, _, Try.func15, rfl, by kernel_rfl, rfl, by decide, by kernel_rfl, by kernel_rfl, by kernel_rfl⟩

def A.impl_GetShort : AFn where
  nargs := 2
  nt := 70
  res := [.tmp 4, .tmp 5, .tmp 6]
  code := .seq (.keep [0, 1] (.region none [
     ⟨none, (some 4), .mov (.c (.v (.int .i64 0)))⟩,
     ⟨none, (some 5), .mov (.c (.v (.int .i64 0)))⟩,
     ⟨none, (some 6), .mov (.c (.v (.bool false)))⟩]))
   (.seq (.seq (.keep [0, 1, 15] (.region none [
     ⟨none, (some 10), .mov (.t 1)⟩,
     ⟨none, (some 11), .mov (.t 0)⟩,
     ⟨none, (some 12), .lenL (.t 11)⟩,
     ⟨none, (some 13), .bin .sub (.t 12) (.c (.v (.int .i64 1)))⟩,
     ⟨none, (some 14), .pcall F.impl_within [(.t 10), (.c (.v (.int .i64 0))), (.t 13)]⟩,
     ⟨none, (some 15), .un .not (.t 14)⟩]))
   (.cond (.t 15)
    (.seq (.keep [4, 5, 6] (.region none [
      ⟨none, (some 4), .mov (.c (.v (.int .i64 0)))⟩,
      ⟨none, (some 5), .mov (.c (.v (.int .i64 0)))⟩,
      ⟨none, (some 6), .mov (.c (.v (.bool false)))⟩]))
    (.ret))
    (.skip)))
   (.seq (.keep [0, 1, 7] (.region none [
     ⟨none, (some 7), .mov (.c (.v (.int .u64 0)))⟩]))
   (.seq (.seq (.keep [0, 1, 7, 8] (.region none [
     ⟨none, (some 8), .mov (.c (.v (.int .i64 0)))⟩]))
   (.block 0 (.loop (.seq (.seq (.keep [0, 1, 7, 8, 25] (.region none [
       ⟨none, (some 16), .mov (.t 8)⟩,
       ⟨none, (some 17), .bin .lss (.t 16) (.c (.v (.int .i64 10)))⟩,
       ⟨none, (some 18), .mov (.t 17)⟩,
       ⟨(some (18, true)), (some 19), .mov (.t 1)⟩,
       ⟨(some (18, true)), (some 20), .mov (.t 8)⟩,
       ⟨(some (18, true)), (some 21), .bin .add (.t 19) (.t 20)⟩,
       ⟨(some (18, true)), (some 22), .mov (.t 0)⟩,
       ⟨(some (18, true)), (some 23), .lenL (.t 22)⟩,
       ⟨(some (18, true)), (some 24), .bin .lss (.t 21) (.t 23)⟩,
       ⟨none, (some 25), .pick (.t 18) (.t 24) (.c (.v (.bool false)))⟩]))
     (.cond (.t 25)
      (.skip)
      (.exit 0)))
     (.seq (.block 1 (.seq (.keep [0, 1, 7, 8, 9] (.region none [
        ⟨none, (some 28), .mov (.t 0)⟩,
        ⟨none, (some 29), .mov (.t 1)⟩,
        ⟨none, (some 30), .mov (.t 8)⟩,
        ⟨none, (some 31), .bin .add (.t 29) (.t 30)⟩,
        ⟨none, (some 32), .iaddr 1 (.t 28) (.t 31)⟩,
        ⟨none, (some 33), .load none (.t 32)⟩,
        ⟨none, (some 9), .mov (.t 33)⟩]))
      (.seq (.keep [0, 1, 7, 8, 9] (.region none [
        ⟨none, (some 34), .mov (.t 7)⟩,
        ⟨none, (some 35), .mov (.t 9)⟩,
        ⟨none, (some 36), .bin .and (.t 35) (.c (.v (.int .u8 127)))⟩,
        ⟨none, (some 37), .convInt .u64 (.t 36)⟩,
        ⟨none, (some 38), .mov (.t 8)⟩,
        ⟨none, (some 39), .bin .mul (.c (.v (.int .i64 7))) (.t 38)⟩,
        ⟨none, (some 40), .bin .shl (.t 37) (.t 39)⟩,
        ⟨none, (some 41), .bin .or (.t 34) (.t 40)⟩,
        ⟨none, (some 7), .mov (.t 41)⟩]))
      (.seq (.seq (.keep [0, 1, 7, 8, 9, 43] (.region none [
        ⟨none, (some 42), .mov (.t 9)⟩,
        ⟨none, (some 43), .bin .gtr (.t 42) (.c (.v (.int .u8 127)))⟩]))
      (.cond (.t 43)
       (.exit 1)
       (.skip)))
      (.seq (.seq (.keep [1, 7, 8, 57] (.region none [
        ⟨none, (some 44), .mov (.t 8)⟩,
        ⟨none, (some 45), .bin .gtr (.t 44) (.c (.v (.int .i64 0)))⟩,
        ⟨none, (some 46), .mov (.t 45)⟩,
        ⟨(some (46, true)), (some 47), .mov (.t 9)⟩,
        ⟨(some (46, true)), (some 48), .bin .eql (.t 47) (.c (.v (.int .u8 0)))⟩,
        ⟨none, (some 49), .pick (.t 46) (.t 48) (.c (.v (.bool false)))⟩,
        ⟨none, (some 50), .mov (.t 49)⟩,
        ⟨(some (50, false)), (some 51), .mov (.t 8)⟩,
        ⟨(some (50, false)), (some 52), .bin .eql (.t 51) (.c (.v (.int .i64 9)))⟩,
        ⟨(some (50, false)), (some 53), .mov (.t 52)⟩,
        ⟨(some (53, true)), (some 54), .mov (.t 9)⟩,
        ⟨(some (53, true)), (some 55), .bin .gtr (.t 54) (.c (.v (.int .u8 1)))⟩,
        ⟨(some (50, false)), (some 56), .pick (.t 53) (.t 55) (.c (.v (.bool false)))⟩,
        ⟨none, (some 57), .pick (.t 50) (.c (.v (.bool true))) (.t 56)⟩]))
      (.cond (.t 57)
       (.seq (.keep [4, 5, 6] (.region none [
         ⟨none, (some 4), .mov (.c (.v (.int .i64 0)))⟩,
         ⟨none, (some 5), .mov (.c (.v (.int .i64 0)))⟩,
         ⟨none, (some 6), .mov (.c (.v (.bool false)))⟩]))
       (.ret))
       (.skip)))
      (.seq (.keep [4, 5, 6] (.region none [
        ⟨none, (some 58), .mov (.t 7)⟩,
        ⟨none, (some 59), .bin .shr (.t 58) (.c (.v (.int .u64 1)))⟩,
        ⟨none, (some 60), .convInt .i64 (.t 59)⟩,
        ⟨none, (some 61), .mov (.t 7)⟩,
        ⟨none, (some 62), .bin .and (.t 61) (.c (.v (.int .u64 1)))⟩,
        ⟨none, (some 63), .convInt .i64 (.t 62)⟩,
        ⟨none, (some 64), .un .neg (.t 63)⟩,
        ⟨none, (some 65), .bin .xor (.t 60) (.t 64)⟩,
        ⟨none, (some 66), .mov (.t 1)⟩,
        ⟨none, (some 67), .mov (.t 8)⟩,
        ⟨none, (some 68), .bin .add (.t 66) (.t 67)⟩,
        ⟨none, (some 69), .bin .add (.t 68) (.c (.v (.int .i64 1)))⟩,
        ⟨none, (some 4), .mov (.t 65)⟩,
        ⟨none, (some 5), .mov (.t 69)⟩,
        ⟨none, (some 6), .mov (.c (.v (.bool true)))⟩]))
      (.ret)))))))
     (.keep [0, 1, 7, 8] (.region none [
       ⟨none, (some 26), .mov (.t 8)⟩,
       ⟨none, (some 27), .bin .add (.t 26) (.c (.v (.int .i64 1)))⟩,
       ⟨none, (some 8), .mov (.t 27)⟩])))))))
   (.seq (.keep [4, 5, 6] (.region none [
     ⟨none, (some 4), .mov (.c (.v (.int .i64 0)))⟩,
     ⟨none, (some 5), .mov (.c (.v (.int .i64 0)))⟩,
     ⟨none, (some 6), .mov (.c (.v (.bool false)))⟩]))
   (.ret)))))

theorem A.impl_GetShort_ok : cFn Try.prog F.impl_GetShort A.impl_GetShort :=
  ⟨_, _, Try.func16, rfl, by kernel_rfl, rfl, by decide, by kernel_rfl, by kernel_rfl, by kernel_rfl⟩

def A.laws_szTy : AFn where
  nargs := 2
  nt := 19
  res := [.tmp 4]
  code := .seq (.keep [1, 2] (.region none [
     ⟨none, (some 2), .box T.laws_Ty 4 (.t 0)⟩,
     ⟨none, (some 4), .mov (.c (.v (.int .i64 0)))⟩]))
   (.seq (.keep [1, 2] (.region none [
     ⟨none, (some 5), .mov (.t 1)⟩,
     ⟨none, (some 6), .faddr 2 (.t 2)⟩,
     ⟨none, (some 7), .load none (.t 6)⟩,
     ⟨none, (some 8), .lenS (.t 7)⟩,
     ⟨none, (some 9), .bin .sub (.t 5) (.t 8)⟩,
     ⟨none, (some 1), .mov (.t 9)⟩]))
   (.seq (.seq (.keep [1, 2, 11] (.region none [
     ⟨none, (some 10), .mov (.t 1)⟩,
     ⟨none, (some 11), .bin .lss (.t 10) (.c (.v (.int .i64 0)))⟩]))
   (.cond (.t 11)
    (.seq (.keep [4] (.region none [
      ⟨none, (some 4), .mov (.c (.v (.int .i64 (-1))))⟩]))
    (.ret))
    (.skip)))
   (.seq (.keep [1] (.region none [
     ⟨none, (some 12), .faddr 3 (.t 2)⟩,
     ⟨none, (some 13), .load none (.t 12)⟩,
     ⟨none, (some 14), .mov (.t 1)⟩,
     ⟨none, (some 15), .pcall F.laws_szTyS [(.t 13), (.t 14)]⟩,
     ⟨none, (some 1), .mov (.t 15)⟩]))
   (.seq (.seq (.keep [1, 17] (.region none [
     ⟨none, (some 16), .mov (.t 1)⟩,
     ⟨none, (some 17), .bin .lss (.t 16) (.c (.v (.int .i64 0)))⟩]))
   (.cond (.t 17)
    (.seq (.keep [4] (.region none [
      ⟨none, (some 4), .mov (.c (.v (.int .i64 (-1))))⟩]))
    (.ret))
    (.skip)))
   (.seq (.keep [4] (.region none [
     ⟨none, (some 18), .mov (.t 1)⟩,
     ⟨none, (some 4), .mov (.t 18)⟩]))
   (.ret))))))

theorem A.laws_szTy_ok : cFn Try.prog F.laws_szTy A.laws_szTy :=
  ⟨_, _, Try.func17, rfl, by kernel_rfl, rfl, by decide, by kernel_rfl, by kernel_rfl, by kernel_rfl⟩

def A.spec_TySize : AFn where
  nargs := 1
  nt := 21
  res := [.tmp 2]
  code := .seq (.keep [1] (.region none [
     ⟨none, (some 1), .box T.impl_Ty 4 (.t 0)⟩,
     ⟨none, (some 2), .mov (.c (.v (.int .i64 0)))⟩]))
   (.seq (.keep [1, 3] (.region none [
     ⟨none, (some 3), .mov (.c (.v (.int .i64 1)))⟩]))
   (.seq (.seq (.keep [1, 3, 4] (.region none [
     ⟨none, (some 4), .mov (.c (.v (.int .i64 0)))⟩]))
   (.block 0 (.loop (.seq (.seq (.keep [1, 3, 4, 9] (.region none [
       ⟨none, (some 5), .mov (.t 4)⟩,
       ⟨none, (some 6), .faddr 3 (.t 1)⟩,
       ⟨none, (some 7), .load none (.t 6)⟩,
       ⟨none, (some 8), .lenL (.t 7)⟩,
       ⟨none, (some 9), .bin .lss (.t 5) (.t 8)⟩]))
     (.cond (.t 9)
      (.skip)
      (.exit 0)))
     (.seq (.block 1 (.keep [1, 3, 4] (.region none [
        ⟨none, (some 12), .mov (.t 3)⟩,
        ⟨none, (some 13), .faddr 3 (.t 1)⟩,
        ⟨none, (some 14), .load none (.t 13)⟩,
        ⟨none, (some 15), .mov (.t 4)⟩,
        ⟨none, (some 16), .iaddr 4 (.t 14) (.t 15)⟩,
        ⟨none, (some 17), .load (some 4) (.t 16)⟩,
        ⟨none, (some 18), .pcall F.spec_TySize [(.t 17)]⟩,
        ⟨none, (some 19), .bin .add (.t 12) (.t 18)⟩,
        ⟨none, (some 3), .mov (.t 19)⟩])))
     (.keep [1, 3, 4] (.region none [
       ⟨none, (some 10), .mov (.t 4)⟩,
       ⟨none, (some 11), .bin .add (.t 10) (.c (.v (.int .i64 1)))⟩,
       ⟨none, (some 4), .mov (.t 11)⟩])))))))
   (.seq (.keep [2] (.region none [
     ⟨none, (some 20), .mov (.t 3)⟩,
     ⟨none, (some 2), .mov (.t 20)⟩]))
   (.ret))))

theorem A.spec_TySize_ok : cFn Try.prog F.spec_TySize A.spec_TySize :=
  ⟨_, _, Try.func18, rfl, by kernel_rfl, rfl, by decide, by kernel_rfl, by kernel_rfl, by kernel_rfl⟩

def A.laws_toTy : AFn where
  nargs := 1
  nt := 18
  res := [.cell 2 (some 4)]
  code := .seq (.keep [1, 2] (.region none [
     ⟨none, (some 1), .box T.laws_Ty 4 (.t 0)⟩,
     ⟨none, (some 2), .alloc T.impl_Ty 4 (.agg [(.v (.int .i64 0)), (.v (.int .i64 0)), (.v (.string ⟨#[]⟩)), .nils])⟩]))
   (.seq (.keep [1, 2, 3] (.region none [
     ⟨none, (some 3), .alloc T.impl_Ty 4 (.agg [(.v (.int .i64 0)), (.v (.int .i64 0)), (.v (.string ⟨#[]⟩)), .nils])⟩]))
   (.seq (.keep [1, 2, 3] (.region none [
     ⟨none, (some 4), .faddr 0 (.t 1)⟩,
     ⟨none, (some 5), .load none (.t 4)⟩,
     ⟨none, (some 6), .faddr 0 (.t 3)⟩,
     ⟨none, none, .store 1 (.t 6) (.t 5)⟩]))
   (.seq (.keep [1, 2, 3] (.region none [
     ⟨none, (some 7), .faddr 1 (.t 1)⟩,
     ⟨none, (some 8), .load none (.t 7)⟩,
     ⟨none, (some 9), .faddr 1 (.t 3)⟩,
     ⟨none, none, .store 1 (.t 9) (.t 8)⟩]))
   (.seq (.keep [1, 2, 3] (.region none [
     ⟨none, (some 10), .faddr 2 (.t 1)⟩,
     ⟨none, (some 11), .load none (.t 10)⟩,
     ⟨none, (some 12), .faddr 2 (.t 3)⟩,
     ⟨none, none, .store 1 (.t 12) (.t 11)⟩]))
   (.seq (.keep [2, 3] (.region none [
     ⟨none, (some 13), .faddr 3 (.t 1)⟩,
     ⟨none, (some 14), .load none (.t 13)⟩,
     ⟨none, (some 15), .pcall F.laws_toTyS [(.t 14)]⟩,
     ⟨none, (some 16), .faddr 3 (.t 3)⟩,
     ⟨none, none, .store 1 (.t 16) (.t 15)⟩]))
   (.seq (.keep [2] (.region none [
     ⟨none, (some 17), .load (some 4) (.t 3)⟩,
     ⟨none, none, .store 4 (.t 2) (.t 17)⟩]))
   (.ret)))))))

theorem A.laws_toTy_ok : cFn Try.prog F.laws_toTy A.laws_toTy :=
  ⟨_, _, Try.func19, rfl, by kernel_rfl, rfl, by decide, by kernel_rfl, by kernel_rfl, by kernel_rfl⟩

def A.impl_TySize : AFn where
  nargs := 1
  nt := 19
  res := [.tmp 2]
  code := .seq (.keep [1] (.region none [
     ⟨none, (some 1), .box T.impl_Ty 4 (.t 0)⟩,
     ⟨none, (some 2), .mov (.c (.v (.int .i64 0)))⟩]))
   (.seq (.keep [1, 3] (.region none [
     ⟨none, (some 3), .mov (.c (.v (.int .i64 1)))⟩]))
   (.seq (.seq (.keep [3, 7, 8, 9] (.region none [
     ⟨none, (some 6), .faddr 3 (.t 1)⟩,
     ⟨none, (some 7), .load none (.t 6)⟩,
     ⟨none, (some 8), .lenL (.t 7)⟩,
     ⟨none, (some 9), .mov (.c (.v (.int .i64 0)))⟩]))
   (.block 0 (.loop (.seq (.keep [3, 7, 8, 9, 10] (.region none [
       ⟨none, (some 10), .bin .lss (.t 9) (.t 8)⟩]))
     (.seq (.cond (.t 10)
      (.skip)
      (.exit 0))
     (.seq (.block 1 (.seq (.keep [3, 5, 7, 8, 9] (.region none [
        ⟨none, (some 11), .iaddr 4 (.t 7) (.t 9)⟩,
        ⟨none, (some 12), .load (some 4) (.t 11)⟩,
        ⟨none, (some 5), .alloc T.impl_Ty 4 (.agg [(.v (.int .i64 0)), (.v (.int .i64 0)), (.v (.string ⟨#[]⟩)), .nils])⟩,
        ⟨none, none, .store 4 (.t 5) (.t 12)⟩]))
      (.keep [3, 7, 8, 9] (.region none [
        ⟨none, (some 13), .mov (.t 3)⟩,
        ⟨none, (some 14), .load (some 4) (.t 5)⟩,
        ⟨none, (some 15), .pcall F.impl_TySize [(.t 14)]⟩,
        ⟨none, (some 16), .bin .add (.t 13) (.t 15)⟩,
        ⟨none, (some 3), .mov (.t 16)⟩]))))
     (.keep [3, 7, 8, 9] (.region none [
       ⟨none, (some 17), .bin .add (.t 9) (.c (.v (.int .i64 1)))⟩,
       ⟨none, (some 9), .mov (.t 17)⟩]))))))))
   (.seq (.keep [2] (.region none [
     ⟨none, (some 18), .mov (.t 3)⟩,
     ⟨none, (some 2), .mov (.t 18)⟩]))
   (.ret))))

theorem A.impl_TySize_ok : cFn Try.prog F.impl_TySize A.impl_TySize :=
  ⟨_, _, Try.func20, rfl, by kernel_rfl, rfl, by decide, by kernel_rfl, by kernel_rfl, by kernel_rfl⟩

def A.laws_eqTy : AFn where
  nargs := 2
  nt := 26
  res := [.tmp 4]
  code := .seq (.keep [2, 3] (.region none [
     ⟨none, (some 2), .box T.impl_Ty 4 (.t 0)⟩,
     ⟨none, (some 3), .box T.impl_Ty 4 (.t 1)⟩,
     ⟨none, (some 4), .mov (.c (.v (.bool false)))⟩]))
   (.seq (.seq (.keep [2, 3, 9] (.region none [
     ⟨none, (some 5), .faddr 0 (.t 2)⟩,
     ⟨none, (some 6), .load none (.t 5)⟩,
     ⟨none, (some 7), .faddr 0 (.t 3)⟩,
     ⟨none, (some 8), .load none (.t 7)⟩,
     ⟨none, (some 9), .bin .neq (.t 6) (.t 8)⟩]))
   (.cond (.t 9)
    (.seq (.keep [4] (.region none [
      ⟨none, (some 4), .mov (.c (.v (.bool false)))⟩]))
    (.ret))
    (.skip)))
   (.seq (.seq (.keep [2, 3, 14] (.region none [
     ⟨none, (some 10), .faddr 1 (.t 2)⟩,
     ⟨none, (some 11), .load none (.t 10)⟩,
     ⟨none, (some 12), .faddr 1 (.t 3)⟩,
     ⟨none, (some 13), .load none (.t 12)⟩,
     ⟨none, (some 14), .bin .neq (.t 11) (.t 13)⟩]))
   (.cond (.t 14)
    (.seq (.keep [4] (.region none [
      ⟨none, (some 4), .mov (.c (.v (.bool false)))⟩]))
    (.ret))
    (.skip)))
   (.seq (.seq (.keep [2, 3, 19] (.region none [
     ⟨none, (some 15), .faddr 2 (.t 2)⟩,
     ⟨none, (some 16), .load none (.t 15)⟩,
     ⟨none, (some 17), .faddr 2 (.t 3)⟩,
     ⟨none, (some 18), .load none (.t 17)⟩,
     ⟨none, (some 19), .bin .neq (.t 16) (.t 18)⟩]))
   (.cond (.t 19)
    (.seq (.keep [4] (.region none [
      ⟨none, (some 4), .mov (.c (.v (.bool false)))⟩]))
    (.ret))
    (.skip)))
   (.seq (.seq (.keep [25] (.region none [
     ⟨none, (some 20), .faddr 3 (.t 2)⟩,
     ⟨none, (some 21), .load none (.t 20)⟩,
     ⟨none, (some 22), .faddr 3 (.t 3)⟩,
     ⟨none, (some 23), .load none (.t 22)⟩,
     ⟨none, (some 24), .pcall F.laws_eqTyS [(.t 21), (.t 23)]⟩,
     ⟨none, (some 25), .un .not (.t 24)⟩]))
   (.cond (.t 25)
    (.seq (.keep [4] (.region none [
      ⟨none, (some 4), .mov (.c (.v (.bool false)))⟩]))
    (.ret))
    (.skip)))
   (.seq (.keep [4] (.region none [
     ⟨none, (some 4), .mov (.c (.v (.bool true)))⟩]))
   (.ret))))))

theorem A.laws_eqTy_ok : cFn Try.prog F.laws_eqTy A.laws_eqTy :=
  ⟨_, _, Try.func21, rfl, by kernel_rfl, rfl, by decide, by kernel_rfl, by kernel_rfl, by kernel_rfl⟩

def A.spec_GetShort : AFn where
  nargs := 2
  nt := 74
  res := [.tmp 4, .tmp 5, .tmp 6]
  code := .seq (.keep [0, 1] (.region none [
     ⟨none, (some 4), .mov (.c (.v (.int .i64 0)))⟩,
     ⟨none, (some 5), .mov (.c (.v (.int .i64 0)))⟩,
     ⟨none, (some 6), .mov (.c (.v (.bool false)))⟩]))
   (.seq (.seq (.keep [0, 1, 15] (.region none [
     ⟨none, (some 10), .mov (.t 1)⟩,
     ⟨none, (some 11), .mov (.t 0)⟩,
     ⟨none, (some 12), .lenL (.t 11)⟩,
     ⟨none, (some 13), .bin .sub (.t 12) (.c (.v (.int .i64 1)))⟩,
     ⟨none, (some 14), .pcall F.spec_l1In [(.t 10), (.c (.v (.int .i64 0))), (.t 13)]⟩,
     ⟨none, (some 15), .un .not (.t 14)⟩]))
   (.cond (.t 15)
    (.seq (.keep [4, 5, 6] (.region none [
      ⟨none, (some 4), .mov (.c (.v (.int .i64 0)))⟩,
      ⟨none, (some 5), .mov (.c (.v (.int .i64 0)))⟩,
      ⟨none, (some 6), .mov (.c (.v (.bool false)))⟩]))
    (.ret))
    (.skip)))
   (.seq (.keep [0, 1, 7] (.region none [
     ⟨none, (some 7), .mov (.c (.v (.int .u64 0)))⟩]))
   (.seq (.seq (.keep [0, 1, 7, 8] (.region none [
     ⟨none, (some 8), .mov (.c (.v (.int .i64 0)))⟩]))
   (.block 0 (.loop (.seq (.seq (.keep [0, 1, 7, 8, 25] (.region none [
       ⟨none, (some 16), .mov (.t 8)⟩,
       ⟨none, (some 17), .bin .lss (.t 16) (.c (.v (.int .i64 10)))⟩,
       ⟨none, (some 18), .mov (.t 17)⟩,
       ⟨(some (18, true)), (some 19), .mov (.t 1)⟩,
       ⟨(some (18, true)), (some 20), .mov (.t 8)⟩,
       ⟨(some (18, true)), (some 21), .bin .add (.t 19) (.t 20)⟩,
       ⟨(some (18, true)), (some 22), .mov (.t 0)⟩,
       ⟨(some (18, true)), (some 23), .lenL (.t 22)⟩,
       ⟨(some (18, true)), (some 24), .bin .lss (.t 21) (.t 23)⟩,
       ⟨none, (some 25), .pick (.t 18) (.t 24) (.c (.v (.bool false)))⟩]))
     (.cond (.t 25)
      (.skip)
      (.exit 0)))
     (.seq (.block 1 (.seq (.keep [0, 1, 7, 8] (.region none [
        ⟨none, (some 28), .mov (.t 7)⟩,
        ⟨none, (some 29), .mov (.t 0)⟩,
        ⟨none, (some 30), .mov (.t 1)⟩,
        ⟨none, (some 31), .mov (.t 8)⟩,
        ⟨none, (some 32), .bin .add (.t 30) (.t 31)⟩,
        ⟨none, (some 33), .iaddr 1 (.t 29) (.t 32)⟩,
        ⟨none, (some 34), .load none (.t 33)⟩,
        ⟨none, (some 35), .bin .and (.t 34) (.c (.v (.int .u8 127)))⟩,
        ⟨none, (some 36), .convInt .u64 (.t 35)⟩,
        ⟨none, (some 37), .mov (.t 8)⟩,
        ⟨none, (some 38), .bin .mul (.c (.v (.int .i64 7))) (.t 37)⟩,
        ⟨none, (some 39), .convInt .u64 (.t 38)⟩,
        ⟨none, (some 40), .bin .shl (.t 36) (.t 39)⟩,
        ⟨none, (some 41), .bin .add (.t 28) (.t 40)⟩,
        ⟨none, (some 7), .mov (.t 41)⟩]))
      (.seq (.keep [0, 1, 7, 8, 48] (.region none [
        ⟨none, (some 42), .mov (.t 0)⟩,
        ⟨none, (some 43), .mov (.t 1)⟩,
        ⟨none, (some 44), .mov (.t 8)⟩,
        ⟨none, (some 45), .bin .add (.t 43) (.t 44)⟩,
        ⟨none, (some 46), .iaddr 1 (.t 42) (.t 45)⟩,
        ⟨none, (some 47), .load none (.t 46)⟩,
        ⟨none, (some 48), .bin .lss (.t 47) (.c (.v (.int .u8 128)))⟩]))
      (.cond (.t 48)
       (.seq (.keep [0, 1, 7, 8, 9] (.region none [
         ⟨none, (some 49), .mov (.t 7)⟩,
         ⟨none, (some 50), .bin .shr (.t 49) (.c (.v (.int .u64 1)))⟩,
         ⟨none, (some 51), .convInt .i64 (.t 50)⟩,
         ⟨none, (some 9), .mov (.t 51)⟩]))
       (.seq (.seq (.keep [0, 1, 8, 9, 54] (.region none [
         ⟨none, (some 52), .mov (.t 7)⟩,
         ⟨none, (some 53), .bin .and (.t 52) (.c (.v (.int .u64 1)))⟩,
         ⟨none, (some 54), .bin .eql (.t 53) (.c (.v (.int .u64 1)))⟩]))
       (.cond (.t 54)
        (.keep [0, 1, 8, 9] (.region none [
          ⟨none, (some 55), .mov (.t 9)⟩,
          ⟨none, (some 56), .un .neg (.t 55)⟩,
          ⟨none, (some 57), .bin .sub (.t 56) (.c (.v (.int .i64 1)))⟩,
          ⟨none, (some 9), .mov (.t 57)⟩]))
        (.skip)))
       (.seq (.seq (.keep [1, 8, 9, 68] (.region (some [[], [0], [], [], [], [], [4, 5], [6], [2, 3, 7], [1, 8, 1], [9]]) [
         ⟨none, (some 58), .mov (.t 9)⟩,
         ⟨none, (some 59), .qcall F.spec_PutShort [(.t 58)]⟩,
         ⟨none, (some 60), .mov (.t 0)⟩,
         ⟨none, (some 61), .mov (.t 1)⟩,
         ⟨none, (some 62), .mov (.t 1)⟩,
         ⟨none, (some 63), .mov (.t 8)⟩,
         ⟨none, (some 64), .bin .add (.t 62) (.t 63)⟩,
         ⟨none, (some 65), .bin .add (.t 64) (.c (.v (.int .i64 1)))⟩,
         ⟨none, (some 66), .sliceL 1 (.t 60) (some (.t 61)) (some (.t 65))⟩,
         ⟨none, (some 67), .qcall F.spec_l20Same [(.t 59), (.t 66)]⟩,
         ⟨none, (some 68), .un .not (.t 67)⟩]))
       (.cond (.t 68)
        (.seq (.keep [4, 5, 6] (.region none [
          ⟨none, (some 4), .mov (.c (.v (.int .i64 0)))⟩,
          ⟨none, (some 5), .mov (.c (.v (.int .i64 0)))⟩,
          ⟨none, (some 6), .mov (.c (.v (.bool false)))⟩]))
        (.ret))
        (.skip)))
       (.seq (.keep [4, 5, 6] (.region none [
         ⟨none, (some 69), .mov (.t 9)⟩,
         ⟨none, (some 70), .mov (.t 1)⟩,
         ⟨none, (some 71), .mov (.t 8)⟩,
         ⟨none, (some 72), .bin .add (.t 70) (.t 71)⟩,
         ⟨none, (some 73), .bin .add (.t 72) (.c (.v (.int .i64 1)))⟩,
         ⟨none, (some 4), .mov (.t 69)⟩,
         ⟨none, (some 5), .mov (.t 73)⟩,
         ⟨none, (some 6), .mov (.c (.v (.bool true)))⟩]))
       (.ret)))))
       (.skip)))))
     (.keep [0, 1, 7, 8] (.region none [
       ⟨none, (some 26), .mov (.t 8)⟩,
       ⟨none, (some 27), .bin .add (.t 26) (.c (.v (.int .i64 1)))⟩,
       ⟨none, (some 8), .mov (.t 27)⟩])))))))
   (.seq (.keep [4, 5, 6] (.region none [
     ⟨none, (some 4), .mov (.c (.v (.int .i64 0)))⟩,
     ⟨none, (some 5), .mov (.c (.v (.int .i64 0)))⟩,
     ⟨none, (some 6), .mov (.c (.v (.bool false)))⟩]))
   (.ret)))))

theorem A.spec_GetShort_ok : cFn Try.prog F.spec_GetShort A.spec_GetShort :=
  ⟨_, _, Try.func22, rfl, by kernel_rfl, rfl, by decide, by kernel_rfl, by kernel_rfl, by kernel_rfl⟩

def A.laws_toByteS : AFn where
  nargs := 1
  nt := 22
  res := [.tmp 2]
  code := .seq (.keep [0] (.region none [
     ⟨none, (some 2), .mov (.c .nils)⟩]))
   (.seq (.keep [0, 3] (.region none [
     ⟨none, (some 5), .mov (.t 0)⟩,
     ⟨none, (some 6), .lenL (.t 5)⟩,
     ⟨none, (some 7), .mk T.uint8 1 1 (.v (.int .u8 0)) (.t 6) (.t 6)⟩,
     ⟨none, (some 3), .mov (.t 7)⟩]))
   (.seq (.seq (.keep [0, 3, 4] (.region none [
     ⟨none, (some 4), .mov (.c (.v (.int .i64 0)))⟩]))
   (.block 0 (.loop (.seq (.seq (.keep [0, 3, 4, 11] (.region none [
       ⟨none, (some 8), .mov (.t 4)⟩,
       ⟨none, (some 9), .mov (.t 0)⟩,
       ⟨none, (some 10), .lenL (.t 9)⟩,
       ⟨none, (some 11), .bin .lss (.t 8) (.t 10)⟩]))
     (.cond (.t 11)
      (.skip)
      (.exit 0)))
     (.seq (.block 1 (.keep [0, 3, 4] (.region none [
        ⟨none, (some 14), .mov (.t 3)⟩,
        ⟨none, (some 15), .mov (.t 4)⟩,
        ⟨none, (some 16), .mov (.t 0)⟩,
        ⟨none, (some 17), .mov (.t 4)⟩,
        ⟨none, (some 18), .iaddr 1 (.t 16) (.t 17)⟩,
        ⟨none, (some 19), .load none (.t 18)⟩,
        ⟨none, (some 20), .iaddr 1 (.t 14) (.t 15)⟩,
        ⟨none, none, .store 1 (.t 20) (.t 19)⟩])))
     (.keep [0, 3, 4] (.region none [
       ⟨none, (some 12), .mov (.t 4)⟩,
       ⟨none, (some 13), .bin .add (.t 12) (.c (.v (.int .i64 1)))⟩,
       ⟨none, (some 4), .mov (.t 13)⟩])))))))
   (.seq (.keep [2] (.region none [
     ⟨none, (some 21), .mov (.t 3)⟩,
     ⟨none, (some 2), .mov (.t 21)⟩]))
   (.ret))))

theorem A.laws_toByteS_ok : cFn Try.prog F.laws_toByteS A.laws_toByteS :=
  ⟨_, _, Try.func23, rfl, by kernel_rfl, rfl, by decide, by kernel_rfl, by kernel_rfl, by kernel_rfl⟩

def A.spec_SameTy : AFn where
  nargs := 2
  nt := 53
  res := [.tmp 4]
  code := .seq (.keep [2, 3] (.region none [
     ⟨none, (some 2), .box T.impl_Ty 4 (.t 0)⟩,
     ⟨none, (some 3), .box T.impl_Ty 4 (.t 1)⟩,
     ⟨none, (some 4), .mov (.c (.v (.bool false)))⟩]))
   (.seq (.seq (.keep [2, 3, 33] (.region none [
     ⟨none, (some 6), .faddr 0 (.t 2)⟩,
     ⟨none, (some 7), .load none (.t 6)⟩,
     ⟨none, (some 8), .faddr 0 (.t 3)⟩,
     ⟨none, (some 9), .load none (.t 8)⟩,
     ⟨none, (some 10), .bin .neq (.t 7) (.t 9)⟩,
     ⟨none, (some 11), .mov (.t 10)⟩,
     ⟨(some (11, false)), (some 12), .faddr 1 (.t 2)⟩,
     ⟨(some (11, false)), (some 13), .load none (.t 12)⟩,
     ⟨(some (11, false)), (some 14), .faddr 1 (.t 3)⟩,
     ⟨(some (11, false)), (some 15), .load none (.t 14)⟩,
     ⟨(some (11, false)), (some 16), .bin .neq (.t 13) (.t 15)⟩,
     ⟨none, (some 17), .pick (.t 11) (.c (.v (.bool true))) (.t 16)⟩,
     ⟨none, (some 18), .mov (.t 17)⟩,
     ⟨(some (18, false)), (some 19), .faddr 2 (.t 2)⟩,
     ⟨(some (18, false)), (some 20), .load none (.t 19)⟩,
     ⟨(some (18, false)), (some 21), .faddr 2 (.t 3)⟩,
     ⟨(some (18, false)), (some 22), .load none (.t 21)⟩,
     ⟨(some (18, false)), (some 23), .bin .neq (.t 20) (.t 22)⟩,
     ⟨none, (some 24), .pick (.t 18) (.c (.v (.bool true))) (.t 23)⟩,
     ⟨none, (some 25), .mov (.t 24)⟩,
     ⟨(some (25, false)), (some 26), .faddr 3 (.t 2)⟩,
     ⟨(some (25, false)), (some 27), .load none (.t 26)⟩,
     ⟨(some (25, false)), (some 28), .lenL (.t 27)⟩,
     ⟨(some (25, false)), (some 29), .faddr 3 (.t 3)⟩,
     ⟨(some (25, false)), (some 30), .load none (.t 29)⟩,
     ⟨(some (25, false)), (some 31), .lenL (.t 30)⟩,
     ⟨(some (25, false)), (some 32), .bin .neq (.t 28) (.t 31)⟩,
     ⟨none, (some 33), .pick (.t 25) (.c (.v (.bool true))) (.t 32)⟩]))
   (.cond (.t 33)
    (.seq (.keep [4] (.region none [
      ⟨none, (some 4), .mov (.c (.v (.bool false)))⟩]))
    (.ret))
    (.skip)))
   (.seq (.seq (.keep [2, 3, 5] (.region none [
     ⟨none, (some 5), .mov (.c (.v (.int .i64 0)))⟩]))
   (.block 0 (.loop (.seq (.seq (.keep [2, 3, 5, 38] (.region none [
       ⟨none, (some 34), .mov (.t 5)⟩,
       ⟨none, (some 35), .faddr 3 (.t 2)⟩,
       ⟨none, (some 36), .load none (.t 35)⟩,
       ⟨none, (some 37), .lenL (.t 36)⟩,
       ⟨none, (some 38), .bin .lss (.t 34) (.t 37)⟩]))
     (.cond (.t 38)
      (.skip)
      (.exit 0)))
     (.seq (.block 1 (.seq (.keep [2, 3, 5, 52] (.region (some [[], [0], [], [1, 2], [3], [], [5], [], [6, 7], [8], [4, 9], [10]]) [
        ⟨none, (some 41), .faddr 3 (.t 2)⟩,
        ⟨none, (some 42), .load none (.t 41)⟩,
        ⟨none, (some 43), .mov (.t 5)⟩,
        ⟨none, (some 44), .iaddr 4 (.t 42) (.t 43)⟩,
        ⟨none, (some 45), .load (some 4) (.t 44)⟩,
        ⟨none, (some 46), .faddr 3 (.t 3)⟩,
        ⟨none, (some 47), .load none (.t 46)⟩,
        ⟨none, (some 48), .mov (.t 5)⟩,
        ⟨none, (some 49), .iaddr 4 (.t 47) (.t 48)⟩,
        ⟨none, (some 50), .load (some 4) (.t 49)⟩,
        ⟨none, (some 51), .qcall F.spec_SameTy [(.t 45), (.t 50)]⟩,
        ⟨none, (some 52), .un .not (.t 51)⟩]))
      (.cond (.t 52)
       (.seq (.keep [4] (.region none [
         ⟨none, (some 4), .mov (.c (.v (.bool false)))⟩]))
       (.ret))
       (.skip))))
     (.keep [2, 3, 5] (.region none [
       ⟨none, (some 39), .mov (.t 5)⟩,
       ⟨none, (some 40), .bin .add (.t 39) (.c (.v (.int .i64 1)))⟩,
       ⟨none, (some 5), .mov (.t 40)⟩])))))))
   (.seq (.keep [4] (.region none [
     ⟨none, (some 4), .mov (.c (.v (.bool true)))⟩]))
   (.ret))))

theorem A.spec_SameTy_ok : cFn Try.prog F.spec_SameTy A.spec_SameTy :=
  ⟨_, _, Try.func24, rfl, by kernel_rfl, rfl, by decide, by kernel_rfl, by kernel_rfl, by kernel_rfl⟩

def A.impl_SameTy : AFn where
  nargs := 2
  nt := 31
  res := [.tmp 4]
  code := .seq (.keep [2, 3] (.region none [
     ⟨none, (some 2), .box T.impl_Ty 4 (.t 0)⟩,
     ⟨none, (some 3), .box T.impl_Ty 4 (.t 1)⟩,
     ⟨none, (some 4), .mov (.c (.v (.bool false)))⟩]))
   (.seq (.keep [4] (.region none [
     ⟨none, (some 5), .faddr 0 (.t 2)⟩,
     ⟨none, (some 6), .load none (.t 5)⟩,
     ⟨none, (some 7), .faddr 0 (.t 3)⟩,
     ⟨none, (some 8), .load none (.t 7)⟩,
     ⟨none, (some 9), .bin .eql (.t 6) (.t 8)⟩,
     ⟨none, (some 10), .mov (.t 9)⟩,
     ⟨(some (10, true)), (some 11), .faddr 1 (.t 2)⟩,
     ⟨(some (10, true)), (some 12), .load none (.t 11)⟩,
     ⟨(some (10, true)), (some 13), .faddr 1 (.t 3)⟩,
     ⟨(some (10, true)), (some 14), .load none (.t 13)⟩,
     ⟨(some (10, true)), (some 15), .bin .eql (.t 12) (.t 14)⟩,
     ⟨none, (some 16), .pick (.t 10) (.t 15) (.c (.v (.bool false)))⟩,
     ⟨none, (some 17), .mov (.t 16)⟩,
     ⟨(some (17, true)), (some 18), .faddr 2 (.t 2)⟩,
     ⟨(some (17, true)), (some 19), .load none (.t 18)⟩,
     ⟨(some (17, true)), (some 20), .faddr 2 (.t 3)⟩,
     ⟨(some (17, true)), (some 21), .load none (.t 20)⟩,
     ⟨(some (17, true)), (some 22), .bin .eql (.t 19) (.t 21)⟩,
     ⟨none, (some 23), .pick (.t 17) (.t 22) (.c (.v (.bool false)))⟩,
     ⟨none, (some 24), .mov (.t 23)⟩,
     ⟨(some (24, true)), (some 25), .faddr 3 (.t 2)⟩,
     ⟨(some (24, true)), (some 26), .load none (.t 25)⟩,
     ⟨(some (24, true)), (some 27), .faddr 3 (.t 3)⟩,
     ⟨(some (24, true)), (some 28), .load none (.t 27)⟩,
     ⟨(some (24, true)), (some 29), .pcall F.slices_EqualFunc__impl_Ty__impl_Ty_impl_Ty_impl_Ty [(.t 26), (.t 28), (.c (.fn F.impl_SameTy []))]⟩,
     ⟨none, (some 30), .pick (.t 24) (.t 29) (.c (.v (.bool false)))⟩,
     ⟨none, (some 4), .mov (.t 30)⟩]))
   (.ret))

theorem A.impl_SameTy_ok : cFn Try.prog F.impl_SameTy A.impl_SameTy :=
  ⟨_, _, Try.func25, rfl, by kernel_rfl, rfl, by decide, by kernel_rfl, by kernel_rfl, by kernel_rfl⟩

def A.impl_turned : AFn where
  nargs := 1
  nt := 10
  res := [.tmp 2]
  code := .seq (.keep [0] (.region none [
     ⟨none, (some 2), .mov (.c (.v (.int .u64 0)))⟩]))
   (.seq (.keep [2] (.region none [
     ⟨none, (some 3), .mov (.t 0)⟩,
     ⟨none, (some 4), .convInt .u64 (.t 3)⟩,
     ⟨none, (some 5), .bin .shl (.t 4) (.c (.v (.int .u64 1)))⟩,
     ⟨none, (some 6), .mov (.t 0)⟩,
     ⟨none, (some 7), .bin .shr (.t 6) (.c (.v (.int .u64 63)))⟩,
     ⟨none, (some 8), .convInt .u64 (.t 7)⟩,
     ⟨none, (some 9), .bin .xor (.t 5) (.t 8)⟩,
     ⟨none, (some 2), .mov (.t 9)⟩]))
   (.ret))

theorem A.impl_turned_ok : cFn Try.prog F.impl_turned A.impl_turned :=
  ⟨_, _, Try.func26, rfl, by kernel_rfl, rfl, by decide, by kernel_rfl, by kernel_rfl, by kernel_rfl⟩

def A.spec_l1New : AFn where
  nargs := 1
  nt := 32
  res := [.tmp 2]
  code := .seq (.keep [0] (.region none [
     ⟨none, (some 2), .mov (.c (.v (.pointer none)))⟩]))
   (.seq (.keep [0, 3] (.region none [
     ⟨none, (some 5), .mov (.t 0)⟩,
     ⟨none, (some 6), .lenL (.t 5)⟩,
     ⟨none, (some 7), .bin .add (.c (.v (.int .i64 80080))) (.t 6)⟩,
     ⟨none, (some 3), .mov (.t 7)⟩]))
   (.seq (.seq (.keep [0, 3, 4] (.region none [
     ⟨none, (some 4), .mov (.c (.v (.int .i64 0)))⟩]))
   (.block 0 (.loop (.seq (.seq (.keep [0, 3, 4, 15] (.region none [
       ⟨none, (some 8), .mov (.t 4)⟩,
       ⟨none, (some 9), .mov (.t 0)⟩,
       ⟨none, (some 10), .lenL (.t 9)⟩,
       ⟨none, (some 11), .bin .lss (.t 8) (.t 10)⟩,
       ⟨none, (some 12), .mov (.t 11)⟩,
       ⟨(some (12, true)), (some 13), .mov (.t 4)⟩,
       ⟨(some (12, true)), (some 14), .bin .lss (.t 13) (.c (.v (.int .i64 4000)))⟩,
       ⟨none, (some 15), .pick (.t 12) (.t 14) (.c (.v (.bool false)))⟩]))
     (.cond (.t 15)
      (.skip)
      (.exit 0)))
     (.seq (.block 1 (.keep [0, 3, 4] (.region none [
        ⟨none, (some 18), .mov (.t 3)⟩,
        ⟨none, (some 19), .bin .mul (.t 18) (.c (.v (.int .i64 137)))⟩,
        ⟨none, (some 20), .mov (.t 0)⟩,
        ⟨none, (some 21), .mov (.t 4)⟩,
        ⟨none, (some 22), .iaddr 1 (.t 20) (.t 21)⟩,
        ⟨none, (some 23), .load none (.t 22)⟩,
        ⟨none, (some 24), .convInt .i64 (.t 23)⟩,
        ⟨none, (some 25), .bin .add (.t 19) (.t 24)⟩,
        ⟨none, (some 26), .bin .add (.t 25) (.c (.v (.int .i64 11)))⟩,
        ⟨none, (some 27), .bin .and (.t 26) (.c (.v (.int .i64 1073741823)))⟩,
        ⟨none, (some 3), .mov (.t 27)⟩])))
     (.keep [0, 3, 4] (.region none [
       ⟨none, (some 16), .mov (.t 4)⟩,
       ⟨none, (some 17), .bin .add (.t 16) (.c (.v (.int .i64 1)))⟩,
       ⟨none, (some 4), .mov (.t 17)⟩])))))))
   (.seq (.keep [2] (.region none [
     ⟨none, (some 28), .mov (.t 0)⟩,
     ⟨none, (some 29), .mov (.t 3)⟩,
     ⟨none, (some 30), .build [.nils, (.v (.int .i64 0)), (.v (.int .i64 0))] [(0, 1, (.t 28)), (2, 1, (.t 29))]⟩,
     ⟨none, (some 31), .box T.spec_l1Cur 3 (.t 30)⟩,
     ⟨none, (some 2), .mov (.t 31)⟩]))
   (.ret))))

theorem A.spec_l1New_ok : cFn Try.prog F.spec_l1New A.spec_l1New :=
  ⟨_, _, Try.func27, rfl, by kernel_rfl, rfl, by decide, by kernel_rfl, by kernel_rfl, by kernel_rfl⟩

def A.spec_l1Once : AFn where
  nargs := 2
  nt := 9
  res := [.tmp 4]
  code := .seq (.keep [0, 1] (.region none [
     ⟨none, (some 4), .mov (.c (.v (.bool false)))⟩]))
   (.seq (.keep [4] (.region none [
     ⟨none, (some 5), .mov (.t 0)⟩,
     ⟨none, (some 6), .mov (.t 1)⟩,
     ⟨none, (some 7), .call F.spec_l1Below [(.t 5), (.t 6)]⟩,
     ⟨none, (some 8), .bin .eql (.t 7) (.c (.v (.int .i64 0)))⟩,
     ⟨none, (some 4), .mov (.t 8)⟩]))
   (.ret))

theorem A.spec_l1Once_ok : cFn Try.prog F.spec_l1Once A.spec_l1Once :=
  ⟨_, _, Try.func28, rfl, by kernel_rfl, rfl, by decide, by kernel_rfl, by kernel_rfl, by kernel_rfl⟩

def A.spec_l1Odd : AFn where
  nargs := 1
  nt := 6
  res := [.tmp 2]
  code := .seq (.keep [0] (.region none [
     ⟨none, (some 2), .mov (.c (.v (.int .i64 0)))⟩]))
   (.seq (.keep [2] (.region none [
     ⟨none, (some 3), .mov (.t 0)⟩,
     ⟨none, (some 4), .buildSlice T.int 1 14 (.v (.int .i64 0)) [(0, (.c (.v (.int .i64 (-1))))), (1, (.c (.v (.int .i64 0)))), (2, (.c (.v (.int .i64 1)))), (3, (.c (.v (.int .i64 2)))), (4, (.c (.v (.int .i64 255)))), (5, (.c (.v (.int .i64 256)))), (6, (.c (.v (.int .i64 65535)))), (7, (.c (.v (.int .i64 2147483647)))), (8, (.c (.v (.int .i64 2147483648)))), (9, (.c (.v (.int .i64 4294967295)))), (10, (.c (.v (.int .i64 4294967296)))), (11, (.c (.v (.int .i64 (-2147483648))))), (12, (.c (.v (.int .i64 9223372036854775807)))), (13, (.c (.v (.int .i64 (-9223372036854775808)))))]⟩,
     ⟨none, (some 5), .call F.spec_l1Int [(.t 3), (.t 4)]⟩,
     ⟨none, (some 2), .mov (.t 5)⟩]))
   (.ret))

theorem A.spec_l1Odd_ok : cFn Try.prog F.spec_l1Odd A.spec_l1Odd :=
  ⟨_, _, Try.func29, rfl, by kernel_rfl, rfl, by decide, by kernel_rfl, by kernel_rfl, by kernel_rfl⟩

def A.spec_l1Below : AFn where
  nargs := 2
  nt := 31
  res := [.tmp 4]
  code := .seq (.keep [0, 1] (.region none [
     ⟨none, (some 4), .mov (.c (.v (.int .i64 0)))⟩]))
   (.seq (.seq (.keep [0, 1, 9] (.region none [
     ⟨none, (some 8), .mov (.t 1)⟩,
     ⟨none, (some 9), .bin .leq (.t 8) (.c (.v (.int .i64 0)))⟩]))
   (.cond (.t 9)
    (.seq (.keep [4] (.region none [
      ⟨none, (some 4), .mov (.c (.v (.int .i64 0)))⟩]))
    (.ret))
    (.skip)))
   (.seq (.seq (.keep [0, 1, 11] (.region none [
     ⟨none, (some 10), .mov (.t 1)⟩,
     ⟨none, (some 11), .bin .leq (.t 10) (.c (.v (.int .i64 256)))⟩]))
   (.cond (.t 11)
    (.seq (.keep [4] (.region none [
      ⟨none, (some 12), .mov (.t 0)⟩,
      ⟨none, (some 13), .call F.spec_l1Byte [(.t 12)]⟩,
      ⟨none, (some 14), .mov (.t 1)⟩,
      ⟨none, (some 15), .bin .rem (.t 13) (.t 14)⟩,
      ⟨none, (some 4), .mov (.t 15)⟩]))
    (.ret))
    (.skip)))
   (.seq (.keep [0, 1, 5] (.region none [
     ⟨none, (some 16), .mov (.t 0)⟩,
     ⟨none, (some 17), .call F.spec_l1Byte [(.t 16)]⟩,
     ⟨none, (some 5), .mov (.t 17)⟩]))
   (.seq (.keep [0, 1, 5, 6] (.region none [
     ⟨none, (some 18), .mov (.t 0)⟩,
     ⟨none, (some 19), .call F.spec_l1Byte [(.t 18)]⟩,
     ⟨none, (some 6), .mov (.t 19)⟩]))
   (.seq (.keep [1, 5, 6, 7] (.region none [
     ⟨none, (some 20), .mov (.t 0)⟩,
     ⟨none, (some 21), .call F.spec_l1Byte [(.t 20)]⟩,
     ⟨none, (some 7), .mov (.t 21)⟩]))
   (.seq (.keep [4] (.region none [
     ⟨none, (some 22), .mov (.t 5)⟩,
     ⟨none, (some 23), .bin .mul (.t 22) (.c (.v (.int .i64 65536)))⟩,
     ⟨none, (some 24), .mov (.t 6)⟩,
     ⟨none, (some 25), .bin .mul (.t 24) (.c (.v (.int .i64 256)))⟩,
     ⟨none, (some 26), .bin .add (.t 23) (.t 25)⟩,
     ⟨none, (some 27), .mov (.t 7)⟩,
     ⟨none, (some 28), .bin .add (.t 26) (.t 27)⟩,
     ⟨none, (some 29), .mov (.t 1)⟩,
     ⟨none, (some 30), .bin .rem (.t 28) (.t 29)⟩,
     ⟨none, (some 4), .mov (.t 30)⟩]))
   (.ret)))))))

theorem A.spec_l1Below_ok : cFn Try.prog F.spec_l1Below A.spec_l1Below :=
  ⟨_, _, Try.func30, rfl, by kernel_rfl, rfl, by decide, by kernel_rfl, by kernel_rfl, by kernel_rfl⟩

def A.impl_within : AFn where
  nargs := 3
  nt := 15
  res := [.tmp 6]
  code := .seq (.keep [0, 1, 2] (.region none [
     ⟨none, (some 6), .mov (.c (.v (.bool false)))⟩]))
   (.seq (.keep [6] (.region none [
     ⟨none, (some 7), .mov (.t 0)⟩,
     ⟨none, (some 8), .mov (.t 1)⟩,
     ⟨none, (some 9), .bin .geq (.t 7) (.t 8)⟩,
     ⟨none, (some 10), .mov (.t 9)⟩,
     ⟨(some (10, true)), (some 11), .mov (.t 0)⟩,
     ⟨(some (10, true)), (some 12), .mov (.t 2)⟩,
     ⟨(some (10, true)), (some 13), .bin .leq (.t 11) (.t 12)⟩,
     ⟨none, (some 14), .pick (.t 10) (.t 13) (.c (.v (.bool false)))⟩,
     ⟨none, (some 6), .mov (.t 14)⟩]))
   (.ret))

theorem A.impl_within_ok : cFn Try.prog F.impl_within A.impl_within :=
  ⟨_, _, Try.func31, rfl, by kernel_rfl, rfl, by decide, by kernel_rfl, by kernel_rfl, by kernel_rfl⟩

def A.laws_szTyS : AFn where
  nargs := 2
  nt := 27
  res := [.tmp 4]
  code := .seq (.keep [0, 1] (.region none [
     ⟨none, (some 4), .mov (.c (.v (.int .i64 0)))⟩]))
   (.seq (.keep [0, 1] (.region none [
     ⟨none, (some 6), .mov (.t 1)⟩,
     ⟨none, (some 7), .mov (.t 0)⟩,
     ⟨none, (some 8), .lenL (.t 7)⟩,
     ⟨none, (some 9), .bin .sub (.t 6) (.t 8)⟩,
     ⟨none, (some 1), .mov (.t 9)⟩]))
   (.seq (.seq (.keep [0, 1, 11] (.region none [
     ⟨none, (some 10), .mov (.t 1)⟩,
     ⟨none, (some 11), .bin .lss (.t 10) (.c (.v (.int .i64 0)))⟩]))
   (.cond (.t 11)
    (.seq (.keep [4] (.region none [
      ⟨none, (some 4), .mov (.c (.v (.int .i64 (-1))))⟩]))
    (.ret))
    (.skip)))
   (.seq (.seq (.keep [0, 1, 5] (.region none [
     ⟨none, (some 5), .mov (.c (.v (.int .i64 0)))⟩]))
   (.block 0 (.loop (.seq (.seq (.keep [0, 1, 5, 15] (.region none [
       ⟨none, (some 12), .mov (.t 5)⟩,
       ⟨none, (some 13), .mov (.t 0)⟩,
       ⟨none, (some 14), .lenL (.t 13)⟩,
       ⟨none, (some 15), .bin .lss (.t 12) (.t 14)⟩]))
     (.cond (.t 15)
      (.skip)
      (.exit 0)))
     (.seq (.block 1 (.seq (.keep [0, 1, 5] (.region none [
        ⟨none, (some 18), .mov (.t 0)⟩,
        ⟨none, (some 19), .mov (.t 5)⟩,
        ⟨none, (some 20), .iaddr 4 (.t 18) (.t 19)⟩,
        ⟨none, (some 21), .load (some 4) (.t 20)⟩,
        ⟨none, (some 22), .mov (.t 1)⟩,
        ⟨none, (some 23), .pcall F.laws_szTy [(.t 21), (.t 22)]⟩,
        ⟨none, (some 1), .mov (.t 23)⟩]))
      (.seq (.keep [0, 1, 5, 25] (.region none [
        ⟨none, (some 24), .mov (.t 1)⟩,
        ⟨none, (some 25), .bin .lss (.t 24) (.c (.v (.int .i64 0)))⟩]))
      (.cond (.t 25)
       (.seq (.keep [4] (.region none [
         ⟨none, (some 4), .mov (.c (.v (.int .i64 (-1))))⟩]))
       (.ret))
       (.skip)))))
     (.keep [0, 1, 5] (.region none [
       ⟨none, (some 16), .mov (.t 5)⟩,
       ⟨none, (some 17), .bin .add (.t 16) (.c (.v (.int .i64 1)))⟩,
       ⟨none, (some 5), .mov (.t 17)⟩])))))))
   (.seq (.keep [4] (.region none [
     ⟨none, (some 26), .mov (.t 1)⟩,
     ⟨none, (some 4), .mov (.t 26)⟩]))
   (.ret)))))

theorem A.laws_szTyS_ok : cFn Try.prog F.laws_szTyS A.laws_szTyS :=
  ⟨_, _, Try.func32, rfl, by kernel_rfl, rfl, by decide, by kernel_rfl, by kernel_rfl, by kernel_rfl⟩

def A.laws_toTyS : AFn where
  nargs := 1
  nt := 23
  res := [.tmp 2]
  code := .seq (.keep [0] (.region none [
     ⟨none, (some 2), .mov (.c .nils)⟩]))
   (.seq (.keep [0, 3] (.region none [
     ⟨none, (some 5), .mov (.t 0)⟩,
     ⟨none, (some 6), .lenL (.t 5)⟩,
     ⟨none, (some 7), .mk T.impl_Ty 4 56 (.agg [(.v (.int .i64 0)), (.v (.int .i64 0)), (.v (.string ⟨#[]⟩)), .nils]) (.t 6) (.t 6)⟩,
     ⟨none, (some 3), .mov (.t 7)⟩]))
   (.seq (.seq (.keep [0, 3, 4] (.region none [
     ⟨none, (some 4), .mov (.c (.v (.int .i64 0)))⟩]))
   (.block 0 (.loop (.seq (.seq (.keep [0, 3, 4, 11] (.region none [
       ⟨none, (some 8), .mov (.t 4)⟩,
       ⟨none, (some 9), .mov (.t 0)⟩,
       ⟨none, (some 10), .lenL (.t 9)⟩,
       ⟨none, (some 11), .bin .lss (.t 8) (.t 10)⟩]))
     (.cond (.t 11)
      (.skip)
      (.exit 0)))
     (.seq (.block 1 (.keep [0, 3, 4] (.region none [
        ⟨none, (some 14), .mov (.t 3)⟩,
        ⟨none, (some 15), .mov (.t 4)⟩,
        ⟨none, (some 16), .mov (.t 0)⟩,
        ⟨none, (some 17), .mov (.t 4)⟩,
        ⟨none, (some 18), .iaddr 4 (.t 16) (.t 17)⟩,
        ⟨none, (some 19), .load (some 4) (.t 18)⟩,
        ⟨none, (some 20), .pcall F.laws_toTy [(.t 19)]⟩,
        ⟨none, (some 21), .iaddr 4 (.t 14) (.t 15)⟩,
        ⟨none, none, .store 4 (.t 21) (.t 20)⟩])))
     (.keep [0, 3, 4] (.region none [
       ⟨none, (some 12), .mov (.t 4)⟩,
       ⟨none, (some 13), .bin .add (.t 12) (.c (.v (.int .i64 1)))⟩,
       ⟨none, (some 4), .mov (.t 13)⟩])))))))
   (.seq (.keep [2] (.region none [
     ⟨none, (some 22), .mov (.t 3)⟩,
     ⟨none, (some 2), .mov (.t 22)⟩]))
   (.ret))))

theorem A.laws_toTyS_ok : cFn Try.prog F.laws_toTyS A.laws_toTyS :=
  ⟨_, _, Try.func33, rfl, by kernel_rfl, rfl, by decide, by kernel_rfl, by kernel_rfl, by kernel_rfl⟩

def A.laws_eqTyS : AFn where
  nargs := 2
  nt := 27
  res := [.tmp 4]
  code := .seq (.keep [0, 1] (.region none [
     ⟨none, (some 4), .mov (.c (.v (.bool false)))⟩]))
   (.seq (.seq (.keep [0, 1, 10] (.region none [
     ⟨none, (some 6), .mov (.t 0)⟩,
     ⟨none, (some 7), .lenL (.t 6)⟩,
     ⟨none, (some 8), .mov (.t 1)⟩,
     ⟨none, (some 9), .lenL (.t 8)⟩,
     ⟨none, (some 10), .bin .neq (.t 7) (.t 9)⟩]))
   (.cond (.t 10)
    (.seq (.keep [4] (.region none [
      ⟨none, (some 4), .mov (.c (.v (.bool false)))⟩]))
    (.ret))
    (.skip)))
   (.seq (.seq (.keep [0, 1, 5] (.region none [
     ⟨none, (some 5), .mov (.c (.v (.int .i64 0)))⟩]))
   (.block 0 (.loop (.seq (.seq (.keep [0, 1, 5, 14] (.region none [
       ⟨none, (some 11), .mov (.t 5)⟩,
       ⟨none, (some 12), .mov (.t 0)⟩,
       ⟨none, (some 13), .lenL (.t 12)⟩,
       ⟨none, (some 14), .bin .lss (.t 11) (.t 13)⟩]))
     (.cond (.t 14)
      (.skip)
      (.exit 0)))
     (.seq (.block 1 (.seq (.keep [0, 1, 5, 26] (.region (some [[], [], [0, 1], [2], [], [], [4, 5], [6], [3, 7], [8]]) [
        ⟨none, (some 17), .mov (.t 0)⟩,
        ⟨none, (some 18), .mov (.t 5)⟩,
        ⟨none, (some 19), .iaddr 4 (.t 17) (.t 18)⟩,
        ⟨none, (some 20), .load (some 4) (.t 19)⟩,
        ⟨none, (some 21), .mov (.t 1)⟩,
        ⟨none, (some 22), .mov (.t 5)⟩,
        ⟨none, (some 23), .iaddr 4 (.t 21) (.t 22)⟩,
        ⟨none, (some 24), .load (some 4) (.t 23)⟩,
        ⟨none, (some 25), .qcall F.laws_eqTy [(.t 20), (.t 24)]⟩,
        ⟨none, (some 26), .un .not (.t 25)⟩]))
      (.cond (.t 26)
       (.seq (.keep [4] (.region none [
         ⟨none, (some 4), .mov (.c (.v (.bool false)))⟩]))
       (.ret))
       (.skip))))
     (.keep [0, 1, 5] (.region none [
       ⟨none, (some 15), .mov (.t 5)⟩,
       ⟨none, (some 16), .bin .add (.t 15) (.c (.v (.int .i64 1)))⟩,
       ⟨none, (some 5), .mov (.t 16)⟩])))))))
   (.seq (.keep [4] (.region none [
     ⟨none, (some 4), .mov (.c (.v (.bool true)))⟩]))
   (.ret))))

theorem A.laws_eqTyS_ok : cFn Try.prog F.laws_eqTyS A.laws_eqTyS :=
  ⟨_, _, Try.func34, rfl, by kernel_rfl, rfl, by decide, by kernel_rfl, by kernel_rfl, by kernel_rfl⟩

def A.spec_l1In : AFn where
  nargs := 3
  nt := 15
  res := [.tmp 6]
  code := .seq (.keep [0, 1, 2] (.region none [
     ⟨none, (some 6), .mov (.c (.v (.bool false)))⟩]))
   (.seq (.keep [6] (.region none [
     ⟨none, (some 7), .mov (.t 0)⟩,
     ⟨none, (some 8), .mov (.t 1)⟩,
     ⟨none, (some 9), .bin .geq (.t 7) (.t 8)⟩,
     ⟨none, (some 10), .mov (.t 9)⟩,
     ⟨(some (10, true)), (some 11), .mov (.t 0)⟩,
     ⟨(some (10, true)), (some 12), .mov (.t 2)⟩,
     ⟨(some (10, true)), (some 13), .bin .leq (.t 11) (.t 12)⟩,
     ⟨none, (some 14), .pick (.t 10) (.t 13) (.c (.v (.bool false)))⟩,
     ⟨none, (some 6), .mov (.t 14)⟩]))
   (.ret))

theorem A.spec_l1In_ok : cFn Try.prog F.spec_l1In A.spec_l1In :=
  ⟨_, _, Try.func35, rfl, by kernel_rfl, rfl, by decide, by kernel_rfl, by kernel_rfl, by kernel_rfl⟩

def A.spec_l20Same : AFn where
  nargs := 2
  nt := 26
  res := [.tmp 4]
  code := .seq (.keep [0, 1] (.region none [
     ⟨none, (some 4), .mov (.c (.v (.bool false)))⟩]))
   (.seq (.seq (.keep [0, 1, 10] (.region none [
     ⟨none, (some 6), .mov (.t 0)⟩,
     ⟨none, (some 7), .lenL (.t 6)⟩,
     ⟨none, (some 8), .mov (.t 1)⟩,
     ⟨none, (some 9), .lenL (.t 8)⟩,
     ⟨none, (some 10), .bin .neq (.t 7) (.t 9)⟩]))
   (.cond (.t 10)
    (.seq (.keep [4] (.region none [
      ⟨none, (some 4), .mov (.c (.v (.bool false)))⟩]))
    (.ret))
    (.skip)))
   (.seq (.seq (.keep [0, 1, 5] (.region none [
     ⟨none, (some 5), .mov (.c (.v (.int .i64 0)))⟩]))
   (.block 0 (.loop (.seq (.seq (.keep [0, 1, 5, 14] (.region none [
       ⟨none, (some 11), .mov (.t 5)⟩,
       ⟨none, (some 12), .mov (.t 0)⟩,
       ⟨none, (some 13), .lenL (.t 12)⟩,
       ⟨none, (some 14), .bin .lss (.t 11) (.t 13)⟩]))
     (.cond (.t 14)
      (.skip)
      (.exit 0)))
     (.seq (.block 1 (.seq (.keep [0, 1, 5, 25] (.region (some [[], [], [0, 1], [2], [], [], [4, 5], [6], [3, 7]]) [
        ⟨none, (some 17), .mov (.t 0)⟩,
        ⟨none, (some 18), .mov (.t 5)⟩,
        ⟨none, (some 19), .iaddr 1 (.t 17) (.t 18)⟩,
        ⟨none, (some 20), .load none (.t 19)⟩,
        ⟨none, (some 21), .mov (.t 1)⟩,
        ⟨none, (some 22), .mov (.t 5)⟩,
        ⟨none, (some 23), .iaddr 1 (.t 21) (.t 22)⟩,
        ⟨none, (some 24), .load none (.t 23)⟩,
        ⟨none, (some 25), .bin .neq (.t 20) (.t 24)⟩]))
      (.cond (.t 25)
       (.seq (.keep [4] (.region none [
         ⟨none, (some 4), .mov (.c (.v (.bool false)))⟩]))
       (.ret))
       (.skip))))
     (.keep [0, 1, 5] (.region none [
       ⟨none, (some 15), .mov (.t 5)⟩,
       ⟨none, (some 16), .bin .add (.t 15) (.c (.v (.int .i64 1)))⟩,
       ⟨none, (some 5), .mov (.t 16)⟩])))))))
   (.seq (.keep [4] (.region none [
     ⟨none, (some 4), .mov (.c (.v (.bool true)))⟩]))
   (.ret))))

theorem A.spec_l20Same_ok : cFn Try.prog F.spec_l20Same A.spec_l20Same :=
  ⟨_, _, Try.func36, rfl, by kernel_rfl, rfl, by decide, by kernel_rfl, by kernel_rfl, by kernel_rfl⟩

def A.slices_EqualFunc__impl_Ty__impl_Ty_impl_Ty_impl_Ty : AFn where
  nargs := 3
  nt := 32
  res := [.tmp 6]
  code := .seq (.keep [0, 1, 2] (.region none [
     ⟨none, (some 6), .mov (.c (.v (.bool false)))⟩]))
   (.seq (.seq (.keep [0, 1, 2, 14] (.region none [
     ⟨none, (some 10), .mov (.t 0)⟩,
     ⟨none, (some 11), .lenL (.t 10)⟩,
     ⟨none, (some 12), .mov (.t 1)⟩,
     ⟨none, (some 13), .lenL (.t 12)⟩,
     ⟨none, (some 14), .bin .neq (.t 11) (.t 13)⟩]))
   (.cond (.t 14)
    (.seq (.keep [6] (.region none [
      ⟨none, (some 6), .mov (.c (.v (.bool false)))⟩]))
    (.ret))
    (.skip)))
   (.seq (.seq (.keep [1, 2, 15, 16, 17] (.region none [
     ⟨none, (some 15), .mov (.t 0)⟩,
     ⟨none, (some 16), .lenL (.t 15)⟩,
     ⟨none, (some 17), .mov (.c (.v (.int .i64 0)))⟩]))
   (.block 0 (.loop (.seq (.keep [1, 2, 15, 16, 17, 18] (.region none [
       ⟨none, (some 18), .bin .lss (.t 17) (.t 16)⟩]))
     (.seq (.cond (.t 18)
      (.skip)
      (.exit 0))
     (.seq (.block 1 (.seq (.keep [1, 2, 7, 8, 15, 16, 17] (.region none [
        ⟨none, (some 19), .mov (.t 17)⟩,
        ⟨none, (some 20), .iaddr 4 (.t 15) (.t 17)⟩,
        ⟨none, (some 21), .load (some 4) (.t 20)⟩,
        ⟨none, (some 8), .alloc T.impl_Ty 4 (.agg [(.v (.int .i64 0)), (.v (.int .i64 0)), (.v (.string ⟨#[]⟩)), .nils])⟩,
        ⟨none, (some 7), .mov (.t 19)⟩,
        ⟨none, none, .store 4 (.t 8) (.t 21)⟩]))
      (.seq (.keep [1, 2, 8, 9, 15, 16, 17] (.region none [
        ⟨none, (some 22), .mov (.t 1)⟩,
        ⟨none, (some 23), .mov (.t 7)⟩,
        ⟨none, (some 24), .iaddr 4 (.t 22) (.t 23)⟩,
        ⟨none, (some 25), .load (some 4) (.t 24)⟩,
        ⟨none, (some 9), .alloc T.impl_Ty 4 (.agg [(.v (.int .i64 0)), (.v (.int .i64 0)), (.v (.string ⟨#[]⟩)), .nils])⟩,
        ⟨none, none, .store 4 (.t 9) (.t 25)⟩]))
      (.seq (.keep [1, 2, 15, 16, 17, 30] (.region none [
        ⟨none, (some 26), .mov (.t 2)⟩,
        ⟨none, (some 27), .load (some 4) (.t 8)⟩,
        ⟨none, (some 28), .load (some 4) (.t 9)⟩,
        ⟨none, (some 29), .pcallv (.t 26) [(.t 27), (.t 28)]⟩,
        ⟨none, (some 30), .un .not (.t 29)⟩]))
      (.cond (.t 30)
       (.seq (.keep [6] (.region none [
         ⟨none, (some 6), .mov (.c (.v (.bool false)))⟩]))
       (.ret))
       (.skip))))))
     (.keep [1, 2, 15, 16, 17] (.region none [
       ⟨none, (some 31), .bin .add (.t 17) (.c (.v (.int .i64 1)))⟩,
       ⟨none, (some 17), .mov (.t 31)⟩]))))))))
   (.seq (.keep [6] (.region none [
     ⟨none, (some 6), .mov (.c (.v (.bool true)))⟩]))
   (.ret))))

theorem A.slices_EqualFunc__impl_Ty__impl_Ty_impl_Ty_impl_Ty_ok : cFn Try.prog F.slices_EqualFunc__impl_Ty__impl_Ty_impl_Ty_impl_Ty A.slices_EqualFunc__impl_Ty__impl_Ty_impl_Ty_impl_Ty :=
  ⟨_, _, Try.func37, rfl, by kernel_rfl, rfl, by decide, by kernel_rfl, by kernel_rfl, by kernel_rfl⟩

def A.spec_l1Int : AFn where
  nargs := 2
  nt := 12
  res := [.tmp 4]
  code := .seq (.keep [0, 1] (.region none [
     ⟨none, (some 4), .mov (.c (.v (.int .i64 0)))⟩]))
   (.seq (.keep [4] (.region none [
     ⟨none, (some 5), .mov (.t 1)⟩,
     ⟨none, (some 6), .mov (.t 0)⟩,
     ⟨none, (some 7), .mov (.t 1)⟩,
     ⟨none, (some 8), .lenL (.t 7)⟩,
     ⟨none, (some 9), .call F.spec_l1Below [(.t 6), (.t 8)]⟩,
     ⟨none, (some 10), .iaddr 1 (.t 5) (.t 9)⟩,
     ⟨none, (some 11), .load none (.t 10)⟩,
     ⟨none, (some 4), .mov (.t 11)⟩]))
   (.ret))

theorem A.spec_l1Int_ok : cFn Try.prog F.spec_l1Int A.spec_l1Int :=
  ⟨_, _, Try.func38, rfl, by kernel_rfl, rfl, by decide, by kernel_rfl, by kernel_rfl, by kernel_rfl⟩

def A.spec_l1Byte : AFn where
  nargs := 1
  nt := 58
  res := [.tmp 2]
  code := .seq (.keep [0] (.region none [
     ⟨none, (some 2), .mov (.c (.v (.int .i64 0)))⟩]))
   (.seq (.keep [0] (.region none [
     ⟨none, (some 4), .mov (.t 0)⟩,
     ⟨none, (some 5), .mov (.t 0)⟩,
     ⟨none, (some 6), .nilc (.t 5)⟩,
     ⟨none, (some 7), .faddr 2 (.t 6)⟩,
     ⟨none, (some 8), .load none (.t 7)⟩,
     ⟨none, (some 9), .bin .mul (.t 8) (.c (.v (.int .i64 6364136223846793005)))⟩,
     ⟨none, (some 10), .bin .add (.t 9) (.c (.v (.int .i64 1442695040888963407)))⟩,
     ⟨none, (some 11), .nilc (.t 4)⟩,
     ⟨none, (some 12), .faddr 2 (.t 11)⟩,
     ⟨none, none, .store 1 (.t 12) (.t 10)⟩]))
   (.seq (.keep [0, 3] (.region (some [[], [0], [1], [2], [3], [], [5], [6], [7], [8], [4, 9], [10], [11, 0, 1, 2, 3, 4, 5, 6, 7, 8, 9, 10, 11]]) [
     ⟨none, (some 13), .mov (.t 0)⟩,
     ⟨none, (some 14), .nilc (.t 13)⟩,
     ⟨none, (some 15), .faddr 2 (.t 14)⟩,
     ⟨none, (some 16), .load none (.t 15)⟩,
     ⟨none, (some 17), .bin .shr (.t 16) (.c (.v (.int .u64 33)))⟩,
     ⟨none, (some 18), .mov (.t 0)⟩,
     ⟨none, (some 19), .nilc (.t 18)⟩,
     ⟨none, (some 20), .faddr 2 (.t 19)⟩,
     ⟨none, (some 21), .load none (.t 20)⟩,
     ⟨none, (some 22), .bin .shr (.t 21) (.c (.v (.int .u64 47)))⟩,
     ⟨none, (some 23), .bin .xor (.t 17) (.t 22)⟩,
     ⟨none, (some 24), .bin .and (.t 23) (.c (.v (.int .i64 255)))⟩,
     ⟨none, (some 3), .mov (.t 24)⟩]))
   (.seq (.seq (.keep [0, 3, 34] (.region (some [[], [0], [1], [2], [], [4], [5], [6], [7], [3, 8]]) [
     ⟨none, (some 25), .mov (.t 0)⟩,
     ⟨none, (some 26), .nilc (.t 25)⟩,
     ⟨none, (some 27), .faddr 1 (.t 26)⟩,
     ⟨none, (some 28), .load none (.t 27)⟩,
     ⟨none, (some 29), .mov (.t 0)⟩,
     ⟨none, (some 30), .nilc (.t 29)⟩,
     ⟨none, (some 31), .faddr 0 (.t 30)⟩,
     ⟨none, (some 32), .load none (.t 31)⟩,
     ⟨none, (some 33), .lenL (.t 32)⟩,
     ⟨none, (some 34), .bin .lss (.t 28) (.t 33)⟩]))
   (.cond (.t 34)
    (.seq (.keep [0, 3] (.region (some [[], [], [1], [2], [3], [], [5], [6], [7], [4, 8], [9], [10], [0, 11], [12], [13, 0, 1, 2, 3, 4, 5, 6, 7, 8, 9, 10, 11, 12, 13]]) [
      ⟨none, (some 35), .mov (.t 3)⟩,
      ⟨none, (some 36), .mov (.t 0)⟩,
      ⟨none, (some 37), .nilc (.t 36)⟩,
      ⟨none, (some 38), .faddr 0 (.t 37)⟩,
      ⟨none, (some 39), .load none (.t 38)⟩,
      ⟨none, (some 40), .mov (.t 0)⟩,
      ⟨none, (some 41), .nilc (.t 40)⟩,
      ⟨none, (some 42), .faddr 1 (.t 41)⟩,
      ⟨none, (some 43), .load none (.t 42)⟩,
      ⟨none, (some 44), .iaddr 1 (.t 39) (.t 43)⟩,
      ⟨none, (some 45), .load none (.t 44)⟩,
      ⟨none, (some 46), .convInt .i64 (.t 45)⟩,
      ⟨none, (some 47), .bin .add (.t 35) (.t 46)⟩,
      ⟨none, (some 48), .bin .and (.t 47) (.c (.v (.int .i64 255)))⟩,
      ⟨none, (some 3), .mov (.t 48)⟩]))
    (.keep [3] (.region none [
      ⟨none, (some 49), .mov (.t 0)⟩,
      ⟨none, (some 50), .mov (.t 0)⟩,
      ⟨none, (some 51), .nilc (.t 50)⟩,
      ⟨none, (some 52), .faddr 1 (.t 51)⟩,
      ⟨none, (some 53), .load none (.t 52)⟩,
      ⟨none, (some 54), .bin .add (.t 53) (.c (.v (.int .i64 1)))⟩,
      ⟨none, (some 55), .nilc (.t 49)⟩,
      ⟨none, (some 56), .faddr 1 (.t 55)⟩,
      ⟨none, none, .store 1 (.t 56) (.t 54)⟩])))
    (.skip)))
   (.seq (.keep [2] (.region none [
     ⟨none, (some 57), .mov (.t 3)⟩,
     ⟨none, (some 2), .mov (.t 57)⟩]))
   (.ret)))))

theorem A.spec_l1Byte_ok : cFn Try.prog F.spec_l1Byte A.spec_l1Byte :=
  ⟨_, _, Try.func39, rfl, by kernel_rfl, rfl, by decide, by kernel_rfl, by kernel_rfl, by kernel_rfl⟩

end Go.Proofs.Ab
