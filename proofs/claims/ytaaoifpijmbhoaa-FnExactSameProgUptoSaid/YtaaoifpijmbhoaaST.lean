/-
  WHAT IS LEFT of this seat's functions, printed by a program of ours (wip/tool/Gen2.lean) from the translation; each with the theorem that it is what is left of that function.
-/
import Derived.Test.YtaaoifpijmbhoaaChecked
import Derived.KernelRfl
import Derived.Test.YtaaoifpijmbhoaaAbM4

set_option linter.unusedVariables false
set_option linter.unusedSimpArgs false
set_option linter.defProp false

namespace Go.Proofs.Ab
open Go.Ab
set_option maxRecDepth 100000

namespace F
abbrev main_main : FuncId := 0
abbrev laws_FnExactCodeOk : FuncId := 3
abbrev laws_FnExactExpOk : FuncId := 4
abbrev laws_FnExactSameProg : FuncId := 5
abbrev laws_FnExactAlpha : FuncId := 6
abbrev laws_FnExactProgOk : FuncId := 7
abbrev laws_szCode : FuncId := 8
abbrev spec_CodeOk : FuncId := 9
abbrev laws_toCode : FuncId := 10
abbrev impl_CodeOk : FuncId := 11
abbrev laws_eqCode : FuncId := 12
abbrev laws_szExp : FuncId := 13
abbrev spec_ExpOk : FuncId := 14
abbrev laws_toExp : FuncId := 15
abbrev impl_ExpOk : FuncId := 16
abbrev laws_eqExp : FuncId := 17
abbrev laws_szProg : FuncId := 18
abbrev spec_SameProg : FuncId := 19
abbrev laws_toProg : FuncId := 20
abbrev impl_SameProg : FuncId := 21
abbrev laws_eqProg : FuncId := 22
abbrev spec_Alpha : FuncId := 23
abbrev impl_Alpha : FuncId := 24
abbrev spec_ProgOk : FuncId := 25
abbrev impl_ProgOk : FuncId := 26
abbrev laws_szInstrS : FuncId := 27
abbrev laws_szIntS : FuncId := 28
abbrev spec_l1In : FuncId := 29
abbrev spec_l14InstrOk : FuncId := 30
abbrev laws_toInstrS : FuncId := 31
abbrev laws_toIntS : FuncId := 32
abbrev impl_within : FuncId := 33
abbrev slices_ContainsFunc__impl_Instr_impl_Instr : FuncId := 34
abbrev impl_CodeOk_1 : FuncId := 35
abbrev impl_instrOk : FuncId := 36
abbrev slices_ContainsFunc__int_int : FuncId := 37
abbrev impl_CodeOk_2 : FuncId := 38
abbrev laws_eqInstrS : FuncId := 39
abbrev laws_eqIntS : FuncId := 40
abbrev laws_szExpS : FuncId := 41
abbrev laws_szArmS : FuncId := 42
abbrev spec_l2Node : FuncId := 43
abbrev spec_l2PatOk : FuncId := 44
abbrev laws_toExpS : FuncId := 45
abbrev laws_toArmS : FuncId := 46
abbrev impl_headOk : FuncId := 47
abbrev impl_patOk : FuncId := 48
abbrev laws_eqExpS : FuncId := 49
abbrev laws_eqArmS : FuncId := 50
abbrev laws_szDataS : FuncId := 51
abbrev spec_l2SameNames : FuncId := 52
abbrev spec_l2SameType : FuncId := 53
abbrev spec_l2SameExp : FuncId := 54
abbrev laws_toDataS : FuncId := 55
abbrev impl_SameProg_1 : FuncId := 56
abbrev impl_sameType : FuncId := 57
abbrev impl_SameProg_2 : FuncId := 58
abbrev slices_Equal__string_string : FuncId := 59
abbrev slices_EqualFunc__impl_Ctor__impl_Ctor_impl_Ctor_impl_Ctor : FuncId := 60
abbrev slices_EqualFunc__impl_Data__impl_Data_impl_Data_impl_Data : FuncId := 61
abbrev impl_sameExp : FuncId := 62
abbrev laws_eqDataS : FuncId := 63
abbrev spec_l19Same : FuncId := 64
abbrev impl_alpha : FuncId := 65
abbrev spec_l1Low : FuncId := 66
abbrev spec_l1Name : FuncId := 67
abbrev spec_l2TypeOk : FuncId := 68
abbrev spec_l2NoType : FuncId := 69
abbrev slices_ContainsFunc__impl_Data_impl_Data : FuncId := 70
abbrev impl_ProgOk_1 : FuncId := 71
abbrev impl_dataOk : FuncId := 72
abbrev laws_szInstr : FuncId := 73
abbrev spec_l14Reg : FuncId := 74
abbrev spec_l14Zero : FuncId := 75
abbrev spec_l1Chars : FuncId := 76
abbrev spec_l14Op : FuncId := 77
abbrev laws_toInstr : FuncId := 78
abbrev slices_IndexFunc__impl_Instr_impl_Instr : FuncId := 79
abbrev impl_wants : FuncId := 80
abbrev impl_instrOk_1 : FuncId := 81
abbrev strings_Contains : FuncId := 82
abbrev impl_instrOk_2 : FuncId := 83
abbrev impl_plain : FuncId := 84
abbrev slices_IndexFunc__int_int : FuncId := 85
abbrev laws_eqInstr : FuncId := 86
abbrev laws_szArm : FuncId := 87
abbrev spec_l2Plain : FuncId := 88
abbrev spec_l2Op : FuncId := 89
abbrev spec_l2Prim : FuncId := 90
abbrev laws_toArm : FuncId := 91
abbrev impl_lowOk : FuncId := 92
abbrev impl_upOk : FuncId := 93
abbrev impl_binarySign : FuncId := 94
abbrev impl_primArity : FuncId := 95
abbrev slices_ContainsFunc__impl_Pat_impl_Pat : FuncId := 96
abbrev impl_patOk_1 : FuncId := 97
abbrev laws_eqArm : FuncId := 98
abbrev laws_szData : FuncId := 99
abbrev spec_l2SamePat : FuncId := 100
abbrev laws_toData : FuncId := 101
abbrev slices_EqualFunc__impl_TypeExp__impl_TypeExp_impl_TypeExp_impl_TypeExp : FuncId := 102
abbrev impl_sameExp_1 : FuncId := 103
abbrev impl_samePat : FuncId := 104
abbrev slices_EqualFunc__impl_Exp__impl_Exp_impl_Exp_impl_Exp : FuncId := 105
abbrev slices_EqualFunc__impl_Arm__impl_Arm_impl_Arm_impl_Arm : FuncId := 106
abbrev laws_eqData : FuncId := 107
abbrev spec_l19Name : FuncId := 108
abbrev spec_l5With : FuncId := 109
abbrev spec_l19Pats : FuncId := 110
abbrev impl_names_at : FuncId := 111
abbrev slices_Concat_impl_names_string : FuncId := 112
abbrev impl_bindsIn : FuncId := 113
abbrev impl_alikePat : FuncId := 114
abbrev impl_patNames : FuncId := 115
abbrev spec_l1Key : FuncId := 116
abbrev spec_l1Upper : FuncId := 117
abbrev spec_l1Lower : FuncId := 118
abbrev spec_l1NameByte : FuncId := 119
abbrev slices_IndexFunc__impl_Data_impl_Data : FuncId := 120
abbrev impl_typeOk : FuncId := 121
abbrev impl_emptyType : FuncId := 122
abbrev slices_ContainsFunc__string_string : FuncId := 123
abbrev impl_dataOk_1 : FuncId := 124
abbrev impl_isName : FuncId := 125
abbrev impl_small : FuncId := 126
abbrev strings_Index : FuncId := 127
abbrev laws_szPat : FuncId := 128
abbrev laws_toPat : FuncId := 129
abbrev impl_isKey : FuncId := 130
abbrev impl_great : FuncId := 131
abbrev slices_Contains__string_string : FuncId := 132
abbrev slices_IndexFunc__impl_Pat_impl_Pat : FuncId := 133
abbrev laws_eqPat : FuncId := 134
abbrev laws_szStringS : FuncId := 135
abbrev laws_szCtorS : FuncId := 136
abbrev laws_toStringS : FuncId := 137
abbrev laws_toCtorS : FuncId := 138
abbrev slices_EqualFunc__impl_Pat__impl_Pat_impl_Pat_impl_Pat : FuncId := 139
abbrev laws_eqStringS : FuncId := 140
abbrev laws_eqCtorS : FuncId := 141
abbrev spec_l19Bound : FuncId := 142
abbrev slices_Grow_impl_names_string : FuncId := 143
abbrev spec_l1Num : FuncId := 144
abbrev slices_ContainsFunc__impl_TypeExp_impl_TypeExp : FuncId := 145
abbrev impl_typeOk_1 : FuncId := 146
abbrev slices_IndexFunc__string_string : FuncId := 147
abbrev impl_run : FuncId := 148
abbrev impl_nameByte : FuncId := 149
abbrev internalstringslite_Index : FuncId := 150
abbrev laws_szPatS : FuncId := 151
abbrev laws_toPatS : FuncId := 152
abbrev slices_Index__string_string : FuncId := 153
abbrev laws_eqPatS : FuncId := 154
abbrev laws_szCtor : FuncId := 155
abbrev laws_toCtor : FuncId := 156
abbrev laws_eqCtor : FuncId := 157
abbrev slices_IndexFunc__impl_TypeExp_impl_TypeExp : FuncId := 158
abbrev impl_digit : FuncId := 159
abbrev internalstringslite_IndexByte : FuncId := 160
abbrev internalbytealg_IndexString : FuncId := 161
abbrev internalbytealg_Cutover : FuncId := 162
abbrev internalbytealg_IndexRabinKarp_string : FuncId := 163
abbrev laws_szTypeExp : FuncId := 164
abbrev laws_toTypeExp : FuncId := 165
abbrev laws_eqTypeExp : FuncId := 166
abbrev internalbytealg_IndexByteString : FuncId := 167
abbrev internalbytealg_hashStr_string : FuncId := 168
abbrev laws_szTypeExpS : FuncId := 169
abbrev laws_toTypeExpS : FuncId := 170
abbrev laws_eqTypeExpS : FuncId := 171
abbrev runtime_boundsError_Error : FuncId := 172
abbrev runtime_boundsError_RuntimeError : FuncId := 173
abbrev runtime_errorString_Error : FuncId := 174
abbrev runtime_errorString_RuntimeError : FuncId := 175
abbrev runtime_plainError_Error : FuncId := 176
abbrev runtime_plainError_RuntimeError : FuncId := 177
abbrev runtime_errorAddressString_Error : FuncId := 178
abbrev runtime_errorAddressString_RuntimeError : FuncId := 179
abbrev runtime_TypeAssertionError_Error : FuncId := 180
abbrev runtime_TypeAssertionError_RuntimeError : FuncId := 181
abbrev runtime_PanicNilError_Error : FuncId := 182
abbrev runtime_PanicNilError_RuntimeError : FuncId := 183
abbrev internalabi_Type_Align : FuncId := 184
abbrev internalruntimemaps_unhashableTypeError_Error : FuncId := 185
abbrev internalruntimemaps_unhashableTypeError_RuntimeError : FuncId := 186
abbrev internalabi_Kind_String : FuncId := 187
end F
def FL : List Nat := [3, 4, 5, 6, 7, 8, 9, 11, 12, 13, 14, 16, 17, 18, 19, 21, 22, 23, 24, 25, 26, 27, 28, 29, 30, 33, 34, 35, 36, 37, 38, 39, 40, 41, 42, 43, 44, 47, 48, 49, 50, 51, 52, 53, 54, 56, 57, 58, 59, 60, 61, 62, 63, 64, 65, 66, 67, 68, 69, 70, 71, 72, 73, 74, 75, 76, 77, 79, 80, 81, 82, 83, 84, 85, 86, 87, 88, 89, 90, 92, 93, 94, 95, 96, 97, 98, 99, 100, 102, 103, 104, 105, 106, 107, 108, 111, 114, 116, 117, 118, 119, 120, 121, 122, 123, 124, 125, 126, 127, 128, 130, 131, 132, 133, 134, 135, 136, 139, 140, 141, 142, 144, 145, 146, 147, 148, 149, 150, 151, 153, 154, 155, 157, 158, 159, 160, 162, 163, 164, 166, 168, 169, 171]

-- TYPE 0 1 ()
-- TYPE 1 1 func()
-- TYPE 2 1 int64
-- TYPE 3 1 int
-- TYPE 4 1 bool
-- TYPE 5 1 uint8
-- TYPE 6 1 abi.BoundsErrorCode
-- TYPE 8 4 runtime.boundsError
-- TYPE 9 1 string
-- TYPE 10 1 runtime.errorString
-- TYPE 11 1 runtime.plainError
-- TYPE 12 1 uintptr
-- TYPE 14 2 runtime.errorAddressString
-- TYPE 15 1 *runtime.TypeAssertionError
-- TYPE 16 1 *runtime.PanicNilError
-- TYPE 17 1 *abi.Type
-- TYPE 19 1 maps.unhashableTypeError
-- TYPE 21 1 int32
-- TYPE 22 1 []laws.Instr
-- TYPE 23 1 []int
-- TYPE 25 2 laws.Code
-- TYPE 26 1 func(laws.Code, int) int
-- TYPE 27 1 func(impl.Code) bool
-- TYPE 28 1 []impl.Instr
-- TYPE 30 2 impl.Code
-- TYPE 31 1 func(laws.Code) impl.Code
-- TYPE 32 1 func(impl.Code, impl.Code) bool
-- TYPE 33 1 func(laws.Code) bool
-- TYPE 34 1 []laws.Exp
-- TYPE 35 1 []laws.Arm
-- TYPE 37 7 laws.Exp
-- TYPE 38 1 func(laws.Exp, int) int
-- TYPE 39 1 func(impl.Exp) bool
-- TYPE 40 1 []impl.Exp
-- TYPE 41 1 []impl.Arm
-- TYPE 43 7 impl.Exp
-- TYPE 44 1 func(laws.Exp) impl.Exp
-- TYPE 45 1 func(impl.Exp, impl.Exp) bool
-- TYPE 46 1 func(laws.Exp) bool
-- TYPE 47 1 []laws.Data
-- TYPE 49 8 laws.Prog
-- TYPE 50 1 func(laws.Prog, int) int
-- TYPE 51 1 func(impl.Prog, impl.Prog) bool
-- TYPE 52 1 []impl.Data
-- TYPE 54 8 impl.Prog
-- TYPE 55 1 func(laws.Prog) impl.Prog
-- TYPE 56 1 func(laws.Prog, laws.Prog) bool
-- TYPE 57 1 func(laws.Exp, laws.Exp) bool
-- TYPE 58 1 func(impl.Prog) bool
-- TYPE 59 1 func(laws.Prog) bool
-- TYPE 60 1 func([]laws.Instr, int) int
-- TYPE 61 1 func([]int, int) int
-- TYPE 62 1 func(int, int, int) bool
-- TYPE 63 1 func(impl.Instr, impl.Code) bool
-- TYPE 65 6 impl.Instr
-- TYPE 66 1 func([]laws.Instr) []impl.Instr
-- TYPE 67 1 func([]int) []int
-- TYPE 68 1 func([]impl.Instr, func(impl.Instr) bool) bool
-- TYPE 69 1 func(impl.Code, impl.Instr) bool
-- TYPE 70 1 func(impl.Instr) bool
-- TYPE 71 1 func([]int, func(int) bool) bool
-- TYPE 72 1 func(int) bool
-- TYPE 73 1 func([]impl.Instr, []impl.Instr) bool
-- TYPE 74 1 func([]int, []int) bool
-- TYPE 75 1 func([]laws.Exp, int) int
-- TYPE 76 1 func([]laws.Arm, int) int
-- TYPE 77 1 func(impl.Pat) bool
-- TYPE 78 1 []impl.Pat
-- TYPE 80 5 impl.Pat
-- TYPE 82 12 impl.Arm
-- TYPE 83 1 func([]laws.Exp) []impl.Exp
-- TYPE 84 1 func([]laws.Arm) []impl.Arm
-- TYPE 85 1 func([]impl.Exp, []impl.Exp) bool
-- TYPE 86 1 func([]impl.Arm, []impl.Arm) bool
-- TYPE 87 1 func([]laws.Data, int) int
-- TYPE 88 1 []string
-- TYPE 89 1 []impl.Ctor
-- TYPE 91 4 impl.Data
-- TYPE 92 1 func([]string, []string) bool
-- TYPE 93 1 []impl.TypeExp
-- TYPE 95 4 impl.TypeExp
-- TYPE 97 7 impl.Ctor
-- TYPE 98 1 func(impl.TypeExp, impl.TypeExp) bool
-- TYPE 99 1 func([]laws.Data) []impl.Data
-- TYPE 100 1 func(impl.Ctor, impl.Ctor) bool
-- TYPE 101 1 func([]impl.Ctor, []impl.Ctor, func(impl.Ctor, impl.Ctor) bool) bool
-- TYPE 102 1 func(impl.Data, impl.Data) bool
-- TYPE 103 1 func([]impl.Data, []impl.Data, func(impl.Data, impl.Data) bool) bool
-- TYPE 104 1 func([]impl.Data, []impl.Data) bool
-- TYPE 105 1 func(impl.Exp, impl.Exp, []string, []string) bool
-- TYPE 106 1 func(impl.Exp, impl.Exp, impl.names, impl.names) bool
-- TYPE 107 1 func(string) bool
-- TYPE 108 1 func(string, bool) bool
-- TYPE 109 1 func(impl.TypeExp) bool
-- TYPE 110 1 func([]impl.Data, func(impl.Data) bool) bool
-- TYPE 111 1 func(impl.Data) bool
-- TYPE 112 1 func(laws.Instr, int) int
-- TYPE 113 6 laws.Instr
-- TYPE 114 1 func(impl.Instr, string) bool
-- TYPE 115 1 func(laws.Instr) impl.Instr
-- TYPE 116 1 func([]impl.Instr, func(impl.Instr) bool) int
-- TYPE 117 1 (string, bool)
-- TYPE 118 1 func(impl.Instr) (string, bool)
-- TYPE 119 1 func(string, string) bool
-- TYPE 120 1 func(string, int) bool
-- TYPE 121 1 func([]int, func(int) bool) int
-- TYPE 122 1 func(impl.Instr, impl.Instr) bool
-- TYPE 123 1 func(laws.Arm, int) int
-- TYPE 124 1 []laws.Pat
-- TYPE 126 5 laws.Pat
-- TYPE 128 12 laws.Arm
-- TYPE 129 1 func(impl.Exp, string) bool
-- TYPE 130 1 func(laws.Arm) impl.Arm
-- TYPE 131 1 func(string) int
-- TYPE 132 1 func([]impl.Pat, func(impl.Pat) bool) bool
-- TYPE 133 1 func(impl.Arm, impl.Arm) bool
-- TYPE 134 1 func(laws.Data, int) int
-- TYPE 135 1 []laws.Ctor
-- TYPE 137 4 laws.Data
-- TYPE 138 1 func(impl.Pat, impl.Pat) bool
-- TYPE 139 1 func(laws.Data) impl.Data
-- TYPE 140 1 func([]impl.TypeExp, []impl.TypeExp, func(impl.TypeExp, impl.TypeExp) bool) bool
-- TYPE 141 1 func([]impl.Exp, []impl.Exp, func(impl.Exp, impl.Exp) bool) bool
-- TYPE 142 1 func([]impl.Arm, []impl.Arm, func(impl.Arm, impl.Arm) bool) bool
-- TYPE 143 1 func([]string, []string, string, string) bool
-- TYPE 144 1 func([]string, []string) []string
-- TYPE 145 1 ([]string, []string, bool)
-- TYPE 146 1 func(impl.Pat, impl.Pat, []string, []string) ([]string, []string, bool)
-- TYPE 147 1 impl.names
-- TYPE 148 1 func(...impl.names) impl.names
-- TYPE 149 1 func(impl.Exp, int) []string
-- TYPE 150 1 func(impl.Pat) []string
-- TYPE 151 1 func([]impl.Data, func(impl.Data) bool) int
-- TYPE 152 1 func([]string, func(string) bool) bool
-- TYPE 153 1 func(string, func(uint8) bool) bool
-- TYPE 154 1 func(uint8) bool
-- TYPE 155 1 []bool
-- TYPE 156 1 func(string, string) int
-- TYPE 157 1 func(laws.Pat, int) int
-- TYPE 158 1 func(laws.Pat) impl.Pat
-- TYPE 159 1 func([]string, string) bool
-- TYPE 160 1 func([]impl.Pat, func(impl.Pat) bool) int
-- TYPE 161 1 func([]string, int) int
-- TYPE 162 1 func([]laws.Ctor, int) int
-- TYPE 163 1 func([]string) []string
-- TYPE 164 1 func([]laws.Ctor) []impl.Ctor
-- TYPE 165 1 func([]impl.Pat, []impl.Pat, func(impl.Pat, impl.Pat) bool) bool
-- TYPE 166 1 func([]impl.Ctor, []impl.Ctor) bool
-- TYPE 167 1 func([]string, string) int
-- TYPE 168 1 []impl.names
-- TYPE 169 1 func(impl.names, int) impl.names
-- TYPE 170 1 func([]impl.TypeExp, func(impl.TypeExp) bool) bool
-- TYPE 171 1 func([]string, func(string) bool) int
-- TYPE 172 1 func(string, int, func(uint8) bool) int
-- TYPE 173 1 func([]laws.Pat, int) int
-- TYPE 174 1 func([]laws.Pat) []impl.Pat
-- TYPE 175 1 func([]impl.Pat, []impl.Pat) bool
-- TYPE 176 1 func(laws.Ctor, int) int
-- TYPE 177 1 []laws.TypeExp
-- TYPE 179 4 laws.TypeExp
-- TYPE 181 7 laws.Ctor
-- TYPE 182 1 func(laws.Ctor) impl.Ctor
-- TYPE 183 1 func([]impl.TypeExp, func(impl.TypeExp) bool) int
-- TYPE 184 1 func(string, uint8) int
-- TYPE 185 1 func(int) int
-- TYPE 186 1 uint
-- TYPE 187 1 func(laws.TypeExp, int) int
-- TYPE 188 1 func(laws.TypeExp) impl.TypeExp
-- TYPE 189 1 uint32
-- TYPE 190 1 (uint32, uint32)
-- TYPE 191 1 func(string) (uint32, uint32)
-- TYPE 192 1 func([]laws.TypeExp, int) int
-- TYPE 193 1 func([]laws.TypeExp) []impl.TypeExp
-- TYPE 194 1 func([]impl.TypeExp, []impl.TypeExp) bool
-- TYPE 195 1 func() string
-- TYPE 197 4 runtime.TypeAssertionError
-- TYPE 198 0 [0]*runtime.PanicNilError
-- TYPE 200 0 runtime.PanicNilError
-- TYPE 201 1 func() int
-- TYPE 202 1 abi.TFlag
-- TYPE 203 1 abi.Kind
-- TYPE 204 1 func(unsafe.Pointer, unsafe.Pointer) bool
-- TYPE 205 1 *uint8
-- TYPE 206 1 abi.NameOff
-- TYPE 207 1 abi.TypeOff
-- TYPE 209 11 abi.Type
-- TYPE 210 1 unsafe.Pointer
-- LAW laws_FnExactCodeOk 3 [25] [4]
-- LAW laws_FnExactExpOk 4 [37] [4]
-- LAW laws_FnExactSameProg 5 [49, 49] [4]
-- LAW laws_FnExactAlpha 6 [37, 37] [4]
-- LAW laws_FnExactProgOk 7 [49] [4]
def T.laws_FnExactCodeOk : T :=
.chk (.cells (.x 0) 2) (
.chk (.cells (.x 0) 2) (
.op (.call F.laws_szCode [(.x 0), (.c (.v (.int .i64 1048576)))] false) (
.op (.bin .lss (.x 1) (.c (.v (.int .i64 0)))) (
.ite (.x 2)
 (.ret [(.c (.v (.bool true)))])
 (.chk (.cells (.x 0) 2) (
 .op (.call F.laws_toCode [(.x 0)] false) (
 .op (.call F.spec_CodeOk [(.x 3)] false) (
 .chk (.cells (.x 0) 2) (
 .op (.call F.laws_toCode [(.x 0)] false) (
 .chk (.cells (.x 5) 2) (
 .chk (.cells (.x 5) 2) (
 .op (.call F.impl_CodeOk [(.x 5)] false) (
 .op (.beq true (.x 6) (.x 4)) (
 .ite (.x 7)
  (.ret [(.c (.v (.bool false)))])
  (.chk (.cells (.x 5) 2) (
  .chk (.cells (.x 0) 2) (
  .op (.call F.laws_toCode [(.x 0)] false) (
  .op (.call F.laws_eqCode [(.x 5), (.x 8)] false) (
  .op (.un .not (.x 9)) (
  .ite (.x 10)
   (.ret [(.c (.v (.bool false)))])
   (.ret [(.c (.v (.bool true)))])))))))))))))))))))))

theorem T.laws_FnExactCodeOk_l : leftF Try.prog [] FL Try.f3 = some (1, T.laws_FnExactCodeOk) := by kernel_rfl

theorem T.laws_FnExactCodeOk_con {args : List AV} {res : AV} (hl : args.length = 1) (hn : AV.norefs args = true) (hw : wpT Try.prog (fun _ _ _ => False) (fun a => a = res) T.laws_FnExactCodeOk args []) : PCon Try.prog F.laws_FnExactCodeOk args res :=
  con_auto Try.func3 T.laws_FnExactCodeOk_l hl hn hw

def T.laws_FnExactExpOk : T :=
.chk (.cells (.x 0) 7) (
.chk (.cells (.x 0) 7) (
.op (.call F.laws_szExp [(.x 0), (.c (.v (.int .i64 1048576)))] false) (
.op (.bin .lss (.x 1) (.c (.v (.int .i64 0)))) (
.ite (.x 2)
 (.ret [(.c (.v (.bool true)))])
 (.chk (.cells (.x 0) 7) (
 .op (.call F.laws_toExp [(.x 0)] false) (
 .op (.call F.spec_ExpOk [(.x 3)] false) (
 .chk (.cells (.x 0) 7) (
 .op (.call F.laws_toExp [(.x 0)] false) (
 .chk (.cells (.x 5) 7) (
 .chk (.cells (.x 5) 7) (
 .op (.call F.impl_ExpOk [(.x 5)] false) (
 .op (.beq true (.x 6) (.x 4)) (
 .ite (.x 7)
  (.ret [(.c (.v (.bool false)))])
  (.chk (.cells (.x 5) 7) (
  .chk (.cells (.x 0) 7) (
  .op (.call F.laws_toExp [(.x 0)] false) (
  .op (.call F.laws_eqExp [(.x 5), (.x 8)] false) (
  .op (.un .not (.x 9)) (
  .ite (.x 10)
   (.ret [(.c (.v (.bool false)))])
   (.ret [(.c (.v (.bool true)))])))))))))))))))))))))

theorem T.laws_FnExactExpOk_l : leftF Try.prog [] FL Try.f4 = some (1, T.laws_FnExactExpOk) := by kernel_rfl

theorem T.laws_FnExactExpOk_con {args : List AV} {res : AV} (hl : args.length = 1) (hn : AV.norefs args = true) (hw : wpT Try.prog (fun _ _ _ => False) (fun a => a = res) T.laws_FnExactExpOk args []) : PCon Try.prog F.laws_FnExactExpOk args res :=
  con_auto Try.func4 T.laws_FnExactExpOk_l hl hn hw

def T.laws_FnExactSameProg : T :=
.chk (.cells (.x 0) 8) (
.chk (.cells (.x 1) 8) (
.chk (.cells (.x 0) 8) (
.op (.call F.laws_szProg [(.x 0), (.c (.v (.int .i64 1048576)))] false) (
.op (.bin .lss (.x 2) (.c (.v (.int .i64 0)))) (
.ite (.x 3)
 (.ret [(.c (.v (.bool true)))])
 (.chk (.cells (.x 1) 8) (
 .op (.call F.laws_szProg [(.x 1), (.x 2)] false) (
 .op (.bin .lss (.x 4) (.c (.v (.int .i64 0)))) (
 .ite (.x 5)
  (.ret [(.c (.v (.bool true)))])
  (.chk (.cells (.x 0) 8) (
  .op (.call F.laws_toProg [(.x 0)] false) (
  .chk (.cells (.x 1) 8) (
  .op (.call F.laws_toProg [(.x 1)] false) (
  .op (.call F.spec_SameProg [(.x 6), (.x 7)] false) (
  .chk (.cells (.x 0) 8) (
  .op (.call F.laws_toProg [(.x 0)] false) (
  .chk (.cells (.x 9) 8) (
  .chk (.cells (.x 1) 8) (
  .op (.call F.laws_toProg [(.x 1)] false) (
  .chk (.cells (.x 10) 8) (
  .chk (.cells (.x 9) 8) (
  .chk (.cells (.x 10) 8) (
  .op (.call F.impl_SameProg [(.x 9), (.x 10)] false) (
  .op (.beq true (.x 11) (.x 8)) (
  .ite (.x 12)
   (.ret [(.c (.v (.bool false)))])
   (.chk (.cells (.x 9) 8) (
   .chk (.cells (.x 0) 8) (
   .op (.call F.laws_toProg [(.x 0)] false) (
   .op (.call F.laws_eqProg [(.x 9), (.x 13)] false) (
   .op (.un .not (.x 14)) (
   .ite (.x 15)
    (.ret [(.c (.v (.bool false)))])
    (.chk (.cells (.x 10) 8) (
    .chk (.cells (.x 1) 8) (
    .op (.call F.laws_toProg [(.x 1)] false) (
    .op (.call F.laws_eqProg [(.x 10), (.x 16)] false) (
    .op (.un .not (.x 17)) (
    .ite (.x 18)
     (.ret [(.c (.v (.bool false)))])
     (.ret [(.c (.v (.bool true)))]))))))))))))))))))))))))))))))))))))))

theorem T.laws_FnExactSameProg_l : leftF Try.prog [] FL Try.f5 = some (2, T.laws_FnExactSameProg) := by kernel_rfl

theorem T.laws_FnExactSameProg_con {args : List AV} {res : AV} (hl : args.length = 2) (hn : AV.norefs args = true) (hw : wpT Try.prog (fun _ _ _ => False) (fun a => a = res) T.laws_FnExactSameProg args []) : PCon Try.prog F.laws_FnExactSameProg args res :=
  con_auto Try.func5 T.laws_FnExactSameProg_l hl hn hw

def T.laws_FnExactAlpha : T :=
.chk (.cells (.x 0) 7) (
.chk (.cells (.x 1) 7) (
.chk (.cells (.x 0) 7) (
.op (.call F.laws_szExp [(.x 0), (.c (.v (.int .i64 1048576)))] false) (
.op (.bin .lss (.x 2) (.c (.v (.int .i64 0)))) (
.ite (.x 3)
 (.ret [(.c (.v (.bool true)))])
 (.chk (.cells (.x 1) 7) (
 .op (.call F.laws_szExp [(.x 1), (.x 2)] false) (
 .op (.bin .lss (.x 4) (.c (.v (.int .i64 0)))) (
 .ite (.x 5)
  (.ret [(.c (.v (.bool true)))])
  (.chk (.cells (.x 0) 7) (
  .op (.call F.laws_toExp [(.x 0)] false) (
  .chk (.cells (.x 1) 7) (
  .op (.call F.laws_toExp [(.x 1)] false) (
  .op (.call F.spec_Alpha [(.x 6), (.x 7)] false) (
  .chk (.cells (.x 0) 7) (
  .op (.call F.laws_toExp [(.x 0)] false) (
  .chk (.cells (.x 9) 7) (
  .chk (.cells (.x 1) 7) (
  .op (.call F.laws_toExp [(.x 1)] false) (
  .chk (.cells (.x 10) 7) (
  .chk (.cells (.x 9) 7) (
  .chk (.cells (.x 10) 7) (
  .op (.call F.impl_Alpha [(.x 9), (.x 10)] false) (
  .op (.beq true (.x 11) (.x 8)) (
  .ite (.x 12)
   (.ret [(.c (.v (.bool false)))])
   (.chk (.cells (.x 9) 7) (
   .chk (.cells (.x 0) 7) (
   .op (.call F.laws_toExp [(.x 0)] false) (
   .op (.call F.laws_eqExp [(.x 9), (.x 13)] false) (
   .op (.un .not (.x 14)) (
   .ite (.x 15)
    (.ret [(.c (.v (.bool false)))])
    (.chk (.cells (.x 10) 7) (
    .chk (.cells (.x 1) 7) (
    .op (.call F.laws_toExp [(.x 1)] false) (
    .op (.call F.laws_eqExp [(.x 10), (.x 16)] false) (
    .op (.un .not (.x 17)) (
    .ite (.x 18)
     (.ret [(.c (.v (.bool false)))])
     (.ret [(.c (.v (.bool true)))]))))))))))))))))))))))))))))))))))))))

theorem T.laws_FnExactAlpha_l : leftF Try.prog [] FL Try.f6 = some (2, T.laws_FnExactAlpha) := by kernel_rfl

theorem T.laws_FnExactAlpha_con {args : List AV} {res : AV} (hl : args.length = 2) (hn : AV.norefs args = true) (hw : wpT Try.prog (fun _ _ _ => False) (fun a => a = res) T.laws_FnExactAlpha args []) : PCon Try.prog F.laws_FnExactAlpha args res :=
  con_auto Try.func6 T.laws_FnExactAlpha_l hl hn hw

def T.laws_FnExactProgOk : T :=
.chk (.cells (.x 0) 8) (
.chk (.cells (.x 0) 8) (
.op (.call F.laws_szProg [(.x 0), (.c (.v (.int .i64 1048576)))] false) (
.op (.bin .lss (.x 1) (.c (.v (.int .i64 0)))) (
.ite (.x 2)
 (.ret [(.c (.v (.bool true)))])
 (.chk (.cells (.x 0) 8) (
 .op (.call F.laws_toProg [(.x 0)] false) (
 .op (.call F.spec_ProgOk [(.x 3)] false) (
 .chk (.cells (.x 0) 8) (
 .op (.call F.laws_toProg [(.x 0)] false) (
 .chk (.cells (.x 5) 8) (
 .chk (.cells (.x 5) 8) (
 .op (.call F.impl_ProgOk [(.x 5)] false) (
 .op (.beq true (.x 6) (.x 4)) (
 .ite (.x 7)
  (.ret [(.c (.v (.bool false)))])
  (.chk (.cells (.x 5) 8) (
  .chk (.cells (.x 0) 8) (
  .op (.call F.laws_toProg [(.x 0)] false) (
  .op (.call F.laws_eqProg [(.x 5), (.x 8)] false) (
  .op (.un .not (.x 9)) (
  .ite (.x 10)
   (.ret [(.c (.v (.bool false)))])
   (.ret [(.c (.v (.bool true)))])))))))))))))))))))))

theorem T.laws_FnExactProgOk_l : leftF Try.prog [] FL Try.f7 = some (1, T.laws_FnExactProgOk) := by kernel_rfl

theorem T.laws_FnExactProgOk_con {args : List AV} {res : AV} (hl : args.length = 1) (hn : AV.norefs args = true) (hw : wpT Try.prog (fun _ _ _ => False) (fun a => a = res) T.laws_FnExactProgOk args []) : PCon Try.prog F.laws_FnExactProgOk args res :=
  con_auto Try.func7 T.laws_FnExactProgOk_l hl hn hw

def T.laws_szCode : T :=
.chk (.cells (.x 0) 2) (
.op (.call F.laws_szInstrS [(.cell 0 0), (.x 1)] false) (
.op (.bin .lss (.x 2) (.c (.v (.int .i64 0)))) (
.ite (.x 3)
 (.ret [(.c (.v (.int .i64 (-1))))])
 (.op (.call F.laws_szIntS [(.cell 0 1), (.x 2)] false) (
 .op (.bin .lss (.x 4) (.c (.v (.int .i64 0)))) (
 .ite (.x 5)
  (.ret [(.c (.v (.int .i64 (-1))))])
  (.ret [(.x 4)])))))))

theorem T.laws_szCode_l : leftF Try.prog [] FL Try.f8 = some (2, T.laws_szCode) := by kernel_rfl

theorem T.laws_szCode_con {args : List AV} {res : AV} (hl : args.length = 2) (hn : AV.norefs args = true) (hw : wpT Try.prog (fun _ _ _ => False) (fun a => a = res) T.laws_szCode args []) : PCon Try.prog F.laws_szCode args res :=
  con_auto Try.func8 T.laws_szCode_l hl hn hw

def T.spec_CodeOk : T :=
.chk (.cells (.x 0) 2) (
.bind 0 (
 .bind 1 (
  .op (.lenL (.cell 0 0)) (
  .op (.call F.spec_l1In [(.x 1), (.c (.v (.int .i64 1))), (.c (.v (.int .i64 40000)))] false) (
  .op (.un .not (.x 2)) (
  .ite (.x 3)
   (.jump [(.c (.v (.bool true)))])
   (.op (.lenL (.cell 0 1)) (
   .op (.bin .gtr (.x 4) (.c (.v (.int .i64 400)))) (
   .jump [(.x 5)]))))))) (
 .ite (.x 1)
  (.esc (.ret [(.c (.v (.bool false)))]))
  (.jump []))) (
.bind 0 (
 .loop [(.c (.v (.int .i64 0)))] (
  .op (.lenL (.cell 0 0)) (
  .op (.bin .lss (.x 1) (.x 2)) (
  .ite (.x 3)
   (.op (.elem 6 (.cell 0 0) (.x 1)) (
   .chk (.cells (.x 4) 6) (
   .chk (.cells (.x 0) 2) (
   .op (.call F.spec_l14InstrOk [(.x 4), (.x 0)] false) (
   .op (.un .not (.x 5)) (
   .ite (.x 6)
    (.esc (.esc (.ret [(.c (.v (.bool false)))])))
    (.op (.bin .add (.x 1) (.c (.v (.int .i64 1)))) (
    .jump [(.x 7)]))))))))
   (.esc (.jump [])))))) (
.bind 0 (
 .loop [(.c (.v (.int .i64 0)))] (
  .op (.lenL (.cell 0 1)) (
  .op (.bin .lss (.x 1) (.x 2)) (
  .ite (.x 3)
   (.op (.elem 1 (.cell 0 1) (.x 1)) (
   .chk (.lt (.x 4) 0) (
   .op (.lenL (.cell 0 0)) (
   .op (.bin .sub (.x 5) (.c (.v (.int .i64 1)))) (
   .op (.call F.spec_l1In [(.cell 4 0), (.c (.v (.int .i64 0))), (.x 6)] false) (
   .op (.un .not (.x 7)) (
   .ite (.x 8)
    (.esc (.esc (.ret [(.c (.v (.bool false)))])))
    (.op (.bin .add (.x 1) (.c (.v (.int .i64 1)))) (
    .jump [(.x 9)])))))))))
   (.esc (.jump [])))))) (
.op (.lenL (.cell 0 0)) (
.op (.bin .sub (.x 1) (.c (.v (.int .i64 1)))) (
.op (.elem 6 (.cell 0 0) (.x 2)) (
.chk (.lt (.x 3) 0) (
.bind 1 (
 .op (.bin .eql (.cell 3 0) (.c (.v (.int .i64 12)))) (
 .ite (.x 4)
  (.jump [(.c (.v (.bool true)))])
  (.op (.bin .eql (.cell 3 0) (.c (.v (.int .i64 13)))) (
  .ite (.x 5)
   (.jump [(.c (.v (.bool true)))])
   (.op (.bin .eql (.cell 3 0) (.c (.v (.int .i64 14)))) (
   .ite (.x 6)
    (.jump [(.c (.v (.bool true)))])
    (.op (.bin .eql (.cell 3 0) (.c (.v (.int .i64 15)))) (
    .jump [(.x 7)])))))))) (
.ret [(.x 4)])))))))))

theorem T.spec_CodeOk_l : leftF Try.prog [] FL Try.f9 = some (1, T.spec_CodeOk) := by kernel_rfl

theorem T.spec_CodeOk_con {args : List AV} {res : AV} (hl : args.length = 1) (hn : AV.norefs args = true) (hw : wpT Try.prog (fun _ _ _ => False) (fun a => a = res) T.spec_CodeOk args []) : PCon Try.prog F.spec_CodeOk args res :=
  con_auto Try.func9 T.spec_CodeOk_l hl hn hw

def T.laws_toCode : T :=
.chk (.cells (.x 0) 2) (
.op (.call F.laws_toInstrS [(.cell 0 0)] false) (
.chk (.one (.x 1)) (
.op (.call F.laws_toIntS [(.cell 0 1)] false) (
.chk (.one (.x 2)) (
.chk (.cells (.agg [(.x 1), (.x 2)]) 2) (
.ret [(.agg [(.x 1), (.x 2)])]))))))

theorem T.laws_toCode_l : leftF Try.prog [] FL Try.f10 = some (1, T.laws_toCode) := by kernel_rfl

theorem T.laws_toCode_con {args : List AV} {res : AV} (hl : args.length = 1) (hn : AV.norefs args = true) (hw : wpT Try.prog (fun _ _ _ => False) (fun a => a = res) T.laws_toCode args []) : PCon Try.prog F.laws_toCode args res :=
  con_auto Try.func10 T.laws_toCode_l hl hn hw

def T.impl_CodeOk : T :=
.chk (.cells (.x 0) 2) (
.bind 0 (
 .bind 1 (
  .op (.lenL (.cell 0 0)) (
  .op (.call F.impl_within [(.x 1), (.c (.v (.int .i64 1))), (.c (.v (.int .i64 40000)))] false) (
  .op (.un .not (.x 2)) (
  .ite (.x 3)
   (.jump [(.c (.v (.bool true)))])
   (.op (.lenL (.cell 0 1)) (
   .op (.bin .gtr (.x 4) (.c (.v (.int .i64 400)))) (
   .jump [(.x 5)]))))))) (
 .ite (.x 1)
  (.esc (.ret [(.c (.v (.bool false)))]))
  (.jump []))) (
.bind 0 (
 .bind 1 (
  .op (.call F.slices_ContainsFunc__impl_Instr_impl_Instr [(.cell 0 0), (.fn F.impl_CodeOk_1 [(.ip (.agg [(.cell 0 0), (.cell 0 1)]) 0)])] false) (
  .ite (.x 1)
   (.jump [(.c (.v (.bool true)))])
   (.op (.call F.slices_ContainsFunc__int_int [(.cell 0 1), (.fn F.impl_CodeOk_2 [(.ip (.agg [(.cell 0 0), (.cell 0 1)]) 0)])] false) (
   .jump [(.x 2)])))) (
 .ite (.x 1)
  (.esc (.ret [(.c (.v (.bool false)))]))
  (.jump []))) (
.bind 0 (
 .op (.lenL (.cell 0 0)) (
 .op (.bin .sub (.x 1) (.c (.v (.int .i64 1)))) (
 .op (.elem 6 (.cell 0 0) (.x 2)) (
 .chk (.lt (.x 3) 0) (
 .bind 1 (
  .op (.bin .eql (.cell 3 0) (.c (.v (.int .i64 12)))) (
  .ite (.x 4)
   (.jump [(.x 4)])
   (.op (.bin .eql (.cell 3 0) (.c (.v (.int .i64 13)))) (
   .ite (.x 5)
    (.jump [(.x 5)])
    (.op (.bin .eql (.cell 3 0) (.c (.v (.int .i64 14)))) (
    .ite (.x 6)
     (.jump [(.x 6)])
     (.op (.bin .eql (.cell 3 0) (.c (.v (.int .i64 15)))) (
     .jump [(.x 7)])))))))) (
 .ite (.x 4)
  (.esc (.ret [(.c (.v (.bool true)))]))
  (.jump []))))))) (
.ret [(.c (.v (.bool false)))]))))

theorem T.impl_CodeOk_l : leftF Try.prog [] FL Try.f11 = some (1, T.impl_CodeOk) := by kernel_rfl

theorem T.impl_CodeOk_con {args : List AV} {res : AV} (hl : args.length = 1) (hn : AV.norefs args = true) (hw : wpT Try.prog (fun _ _ _ => False) (fun a => a = res) T.impl_CodeOk args []) : PCon Try.prog F.impl_CodeOk args res :=
  con_auto Try.func11 T.impl_CodeOk_l hl hn hw

def T.laws_eqCode : T :=
.chk (.cells (.x 0) 2) (
.chk (.cells (.x 1) 2) (
.op (.call F.laws_eqInstrS [(.cell 0 0), (.cell 1 0)] false) (
.op (.un .not (.x 2)) (
.ite (.x 3)
 (.ret [(.c (.v (.bool false)))])
 (.op (.call F.laws_eqIntS [(.cell 0 1), (.cell 1 1)] false) (
 .op (.un .not (.x 4)) (
 .ite (.x 5)
  (.ret [(.c (.v (.bool false)))])
  (.ret [(.c (.v (.bool true)))]))))))))

theorem T.laws_eqCode_l : leftF Try.prog [] FL Try.f12 = some (2, T.laws_eqCode) := by kernel_rfl

theorem T.laws_eqCode_con {args : List AV} {res : AV} (hl : args.length = 2) (hn : AV.norefs args = true) (hw : wpT Try.prog (fun _ _ _ => False) (fun a => a = res) T.laws_eqCode args []) : PCon Try.prog F.laws_eqCode args res :=
  con_auto Try.func12 T.laws_eqCode_l hl hn hw

def T.laws_szExp : T :=
.chk (.cells (.x 0) 7) (
.op (.lenS (.cell 0 1)) (
.op (.bin .sub (.x 1) (.x 2)) (
.op (.bin .lss (.x 3) (.c (.v (.int .i64 0)))) (
.ite (.x 4)
 (.ret [(.c (.v (.int .i64 (-1))))])
 (.op (.lenS (.cell 0 3)) (
 .op (.bin .sub (.x 3) (.x 5)) (
 .op (.bin .lss (.x 6) (.c (.v (.int .i64 0)))) (
 .ite (.x 7)
  (.ret [(.c (.v (.int .i64 (-1))))])
  (.op (.call F.laws_szExpS [(.cell 0 5), (.x 6)] false) (
  .op (.bin .lss (.x 8) (.c (.v (.int .i64 0)))) (
  .ite (.x 9)
   (.ret [(.c (.v (.int .i64 (-1))))])
   (.op (.call F.laws_szArmS [(.cell 0 6), (.x 8)] false) (
   .op (.bin .lss (.x 10) (.c (.v (.int .i64 0)))) (
   .ite (.x 11)
    (.ret [(.c (.v (.int .i64 (-1))))])
    (.ret [(.x 10)])))))))))))))))

theorem T.laws_szExp_l : leftF Try.prog [] FL Try.f13 = some (2, T.laws_szExp) := by kernel_rfl

theorem T.laws_szExp_con {args : List AV} {res : AV} (hl : args.length = 2) (hn : AV.norefs args = true) (hw : wpT Try.prog (fun _ _ _ => False) (fun a => a = res) T.laws_szExp args []) : PCon Try.prog F.laws_szExp args res :=
  con_auto Try.func13 T.laws_szExp_l hl hn hw

def T.spec_ExpOk : T :=
.chk (.cells (.x 0) 7) (
.chk (.cells (.x 0) 7) (
.op (.call F.spec_l2Node [(.x 0)] false) (
.op (.un .not (.x 1)) (
.ite (.x 2)
 (.ret [(.c (.v (.bool false)))])
 (.bind 0 (
  .loop [(.c (.v (.int .i64 0)))] (
   .op (.lenL (.cell 0 5)) (
   .op (.bin .lss (.x 3) (.x 4)) (
   .ite (.x 5)
    (.op (.elem 7 (.cell 0 5) (.x 3)) (
    .chk (.cells (.x 6) 7) (
    .op (.call F.spec_ExpOk [(.x 6)] false) (
    .op (.un .not (.x 7)) (
    .ite (.x 8)
     (.esc (.esc (.ret [(.c (.v (.bool false)))])))
     (.op (.bin .add (.x 3) (.c (.v (.int .i64 1)))) (
     .jump [(.x 9)])))))))
    (.esc (.jump [])))))) (
 .bind 0 (
  .loop [(.c (.v (.int .i64 0)))] (
   .op (.lenL (.cell 0 6)) (
   .op (.bin .lss (.x 3) (.x 4)) (
   .ite (.x 5)
    (.bind 0 (
     .bind 1 (
      .op (.elem 12 (.cell 0 6) (.x 3)) (
      .op (.loadc 0 5 (.x 6)) (
      .op (.call F.spec_l2PatOk [(.x 7)] false) (
      .op (.un .not (.x 8)) (
      .ite (.x 9)
       (.jump [(.c (.v (.bool true)))])
       (.op (.elem 12 (.cell 0 6) (.x 3)) (
       .op (.loadc 5 7 (.x 10)) (
       .op (.call F.spec_ExpOk [(.x 11)] false) (
       .op (.un .not (.x 12)) (
       .jump [(.x 13)])))))))))) (
     .ite (.x 6)
      (.esc (.esc (.esc (.ret [(.c (.v (.bool false)))]))))
      (.jump []))) (
    .op (.bin .add (.x 3) (.c (.v (.int .i64 1)))) (
    .jump [(.x 6)])))
    (.esc (.jump [])))))) (
 .ret [(.c (.v (.bool true)))])))))))

theorem T.spec_ExpOk_l : leftF Try.prog [] FL Try.f14 = some (1, T.spec_ExpOk) := by kernel_rfl

theorem T.spec_ExpOk_con {args : List AV} {res : AV} (hl : args.length = 1) (hn : AV.norefs args = true) (hw : wpT Try.prog (fun _ _ _ => False) (fun a => a = res) T.spec_ExpOk args []) : PCon Try.prog F.spec_ExpOk args res :=
  con_auto Try.func14 T.spec_ExpOk_l hl hn hw

def T.laws_toExp : T :=
.chk (.cells (.x 0) 7) (
.chk (.one (.cell 0 0)) (
.chk (.one (.cell 0 1)) (
.chk (.one (.cell 0 2)) (
.chk (.one (.cell 0 3)) (
.chk (.one (.cell 0 4)) (
.op (.call F.laws_toExpS [(.cell 0 5)] false) (
.chk (.one (.x 1)) (
.op (.call F.laws_toArmS [(.cell 0 6)] false) (
.chk (.one (.x 2)) (
.chk (.cells (.agg [(.cell 0 0), (.cell 0 1), (.cell 0 2), (.cell 0 3), (.cell 0 4), (.x 1), (.x 2)]) 7) (
.ret [(.agg [(.cell 0 0), (.cell 0 1), (.cell 0 2), (.cell 0 3), (.cell 0 4), (.x 1), (.x 2)])])))))))))))

theorem T.laws_toExp_l : leftF Try.prog [] FL Try.f15 = some (1, T.laws_toExp) := by kernel_rfl

theorem T.laws_toExp_con {args : List AV} {res : AV} (hl : args.length = 1) (hn : AV.norefs args = true) (hw : wpT Try.prog (fun _ _ _ => False) (fun a => a = res) T.laws_toExp args []) : PCon Try.prog F.laws_toExp args res :=
  con_auto Try.func15 T.laws_toExp_l hl hn hw

def T.impl_ExpOk : T :=
.chk (.cells (.x 0) 7) (
.chk (.cells (.x 0) 7) (
.op (.call F.impl_headOk [(.x 0)] false) (
.op (.un .not (.x 1)) (
.ite (.x 2)
 (.ret [(.c (.v (.bool false)))])
 (.bind 0 (
  .op (.lenL (.cell 0 5)) (
  .loop [(.c (.v (.int .i64 0)))] (
   .op (.bin .lss (.x 4) (.x 3)) (
   .ite (.x 5)
    (.op (.elem 7 (.cell 0 5) (.x 4)) (
    .chk (.cells (.x 6) 7) (
    .chk (.cells (.x 6) 7) (
    .chk (.cells (.x 6) 7) (
    .op (.call F.impl_ExpOk [(.x 6)] false) (
    .op (.un .not (.x 7)) (
    .ite (.x 8)
     (.esc (.esc (.ret [(.c (.v (.bool false)))])))
     (.op (.bin .add (.x 4) (.c (.v (.int .i64 1)))) (
     .jump [(.x 9)])))))))))
    (.esc (.jump [])))))) (
 .bind 0 (
  .op (.lenL (.cell 0 6)) (
  .loop [(.c (.v (.int .i64 0)))] (
   .op (.bin .lss (.x 4) (.x 3)) (
   .ite (.x 5)
    (.bind 12 (
     .op (.elem 12 (.cell 0 6) (.x 4)) (
     .chk (.cells (.x 6) 12) (
     .chk (.cells (.x 6) 12) (
     .bind 1 (
      .op (.call F.impl_patOk [(.agg [(.cell 6 0), (.cell 6 1), (.cell 6 2), (.cell 6 3), (.cell 6 4)])] false) (
      .op (.un .not (.x 7)) (
      .ite (.x 8)
       (.jump [(.c (.v (.bool true)))])
       (.op (.call F.impl_ExpOk [(.agg [(.cell 6 5), (.cell 6 6), (.cell 6 7), (.cell 6 8), (.cell 6 9), (.cell 6 10), (.cell 6 11)])] false) (
       .op (.un .not (.x 9)) (
       .jump [(.x 10)])))))) (
     .ite (.x 7)
      (.esc (.esc (.esc (.ret [(.c (.v (.bool false)))]))))
      (.jump [(.cell 6 0), (.cell 6 1), (.cell 6 2), (.cell 6 3), (.cell 6 4), (.cell 6 5), (.cell 6 6), (.cell 6 7), (.cell 6 8), (.cell 6 9), (.cell 6 10), (.cell 6 11)])))))) (
    .op (.bin .add (.x 4) (.c (.v (.int .i64 1)))) (
    .jump [(.x 18)])))
    (.esc (.jump [])))))) (
 .ret [(.c (.v (.bool true)))])))))))

theorem T.impl_ExpOk_l : leftF Try.prog [] FL Try.f16 = some (1, T.impl_ExpOk) := by kernel_rfl

theorem T.impl_ExpOk_con {args : List AV} {res : AV} (hl : args.length = 1) (hn : AV.norefs args = true) (hw : wpT Try.prog (fun _ _ _ => False) (fun a => a = res) T.impl_ExpOk args []) : PCon Try.prog F.impl_ExpOk args res :=
  con_auto Try.func16 T.impl_ExpOk_l hl hn hw

def T.laws_eqExp : T :=
.chk (.cells (.x 0) 7) (
.chk (.cells (.x 1) 7) (
.op (.bin .neq (.cell 0 0) (.cell 1 0)) (
.ite (.x 2)
 (.ret [(.c (.v (.bool false)))])
 (.op (.bin .neq (.cell 0 1) (.cell 1 1)) (
 .ite (.x 3)
  (.ret [(.c (.v (.bool false)))])
  (.op (.bin .neq (.cell 0 2) (.cell 1 2)) (
  .ite (.x 4)
   (.ret [(.c (.v (.bool false)))])
   (.op (.bin .neq (.cell 0 3) (.cell 1 3)) (
   .ite (.x 5)
    (.ret [(.c (.v (.bool false)))])
    (.op (.bin .neq (.cell 0 4) (.cell 1 4)) (
    .ite (.x 6)
     (.ret [(.c (.v (.bool false)))])
     (.op (.call F.laws_eqExpS [(.cell 0 5), (.cell 1 5)] false) (
     .op (.un .not (.x 7)) (
     .ite (.x 8)
      (.ret [(.c (.v (.bool false)))])
      (.op (.call F.laws_eqArmS [(.cell 0 6), (.cell 1 6)] false) (
      .op (.un .not (.x 9)) (
      .ite (.x 10)
       (.ret [(.c (.v (.bool false)))])
       (.ret [(.c (.v (.bool true)))]))))))))))))))))))

theorem T.laws_eqExp_l : leftF Try.prog [] FL Try.f17 = some (2, T.laws_eqExp) := by kernel_rfl

theorem T.laws_eqExp_con {args : List AV} {res : AV} (hl : args.length = 2) (hn : AV.norefs args = true) (hw : wpT Try.prog (fun _ _ _ => False) (fun a => a = res) T.laws_eqExp args []) : PCon Try.prog F.laws_eqExp args res :=
  con_auto Try.func17 T.laws_eqExp_l hl hn hw

def T.laws_szProg : T :=
.chk (.cells (.x 0) 8) (
.op (.call F.laws_szDataS [(.cell 0 0), (.x 1)] false) (
.op (.bin .lss (.x 2) (.c (.v (.int .i64 0)))) (
.ite (.x 3)
 (.ret [(.c (.v (.int .i64 (-1))))])
 (.op (.call F.laws_szExp [(.agg [(.cell 0 1), (.cell 0 2), (.cell 0 3), (.cell 0 4), (.cell 0 5), (.cell 0 6), (.cell 0 7)]), (.x 2)] false) (
 .op (.bin .lss (.x 4) (.c (.v (.int .i64 0)))) (
 .ite (.x 5)
  (.ret [(.c (.v (.int .i64 (-1))))])
  (.ret [(.x 4)])))))))

theorem T.laws_szProg_l : leftF Try.prog [] FL Try.f18 = some (2, T.laws_szProg) := by kernel_rfl

theorem T.laws_szProg_con {args : List AV} {res : AV} (hl : args.length = 2) (hn : AV.norefs args = true) (hw : wpT Try.prog (fun _ _ _ => False) (fun a => a = res) T.laws_szProg args []) : PCon Try.prog F.laws_szProg args res :=
  con_auto Try.func18 T.laws_szProg_l hl hn hw

def T.spec_SameProg : T :=
.chk (.cells (.x 0) 8) (
.chk (.cells (.x 1) 8) (
.op (.lenL (.cell 0 0)) (
.op (.lenL (.cell 1 0)) (
.op (.bin .neq (.x 2) (.x 3)) (
.ite (.x 4)
 (.ret [(.c (.v (.bool false)))])
 (.bind 0 (
  .loop [(.c (.v (.int .i64 0)))] (
   .op (.lenL (.cell 0 0)) (
   .op (.bin .lss (.x 5) (.x 6)) (
   .ite (.x 7)
    (.bind 8 (
     .op (.elem 4 (.cell 0 0) (.x 5)) (
     .chk (.cells (.x 8) 4) (
     .chk (.cells (.x 8) 4) (
     .op (.elem 4 (.cell 1 0) (.x 5)) (
     .chk (.cells (.x 9) 4) (
     .chk (.cells (.x 9) 4) (
     .bind 0 (
      .bind 1 (
       .op (.bin .neq (.cell 8 0) (.cell 9 0)) (
       .ite (.x 10)
        (.jump [(.c (.v (.bool true)))])
        (.op (.call F.spec_l2SameNames [(.cell 8 1), (.cell 9 1)] false) (
        .op (.un .not (.x 11)) (
        .ite (.x 12)
         (.jump [(.c (.v (.bool true)))])
         (.op (.lenL (.cell 8 2)) (
         .op (.lenL (.cell 9 2)) (
         .op (.bin .neq (.x 13) (.x 14)) (
         .jump [(.x 15)]))))))))) (
      .ite (.x 10)
       (.esc (.esc (.esc (.esc (.ret [(.c (.v (.bool false)))])))))
       (.jump []))) (
     .loop [(.c (.v (.int .i64 0)))] (
      .op (.lenL (.cell 8 2)) (
      .op (.bin .lss (.x 10) (.x 11)) (
      .ite (.x 12)
       (.bind 14 (
        .op (.elem 7 (.cell 8 2) (.x 10)) (
        .chk (.cells (.x 13) 7) (
        .chk (.cells (.x 13) 7) (
        .op (.elem 7 (.cell 9 2) (.x 10)) (
        .chk (.cells (.x 14) 7) (
        .chk (.cells (.x 14) 7) (
        .bind 1 (
         .op (.bin .neq (.cell 13 0) (.cell 14 0)) (
         .ite (.x 15)
          (.jump [(.c (.v (.bool true)))])
          (.op (.beq true (.cell 13 1) (.cell 14 1)) (
          .ite (.x 16)
           (.jump [(.c (.v (.bool true)))])
           (.op (.call F.spec_l2SameType [(.agg [(.cell 13 2), (.cell 13 3), (.cell 13 4), (.cell 13 5)]), (.agg [(.cell 14 2), (.cell 14 3), (.cell 14 4), (.cell 14 5)])] false) (
           .op (.un .not (.x 17)) (
           .jump [(.x 18)]))))))) (
        .ite (.x 15)
         (.esc (.esc (.esc (.esc (.esc (.ret [(.c (.v (.bool false)))]))))))
         (.jump [(.cell 13 0), (.cell 13 1), (.cell 13 2), (.cell 13 3), (.cell 13 4), (.cell 13 5), (.cell 13 6), (.cell 14 0), (.cell 14 1), (.cell 14 2), (.cell 14 3), (.cell 14 4), (.cell 14 5), (.cell 14 6)]))))))))) (
       .op (.bin .add (.x 10) (.c (.v (.int .i64 1)))) (
       .jump [(.x 27)])))
       (.esc (.jump [(.cell 8 0), (.cell 8 1), (.cell 8 2), (.cell 8 3), (.cell 9 0), (.cell 9 1), (.cell 9 2), (.cell 9 3)]))))))))))))) (
    .op (.bin .add (.x 5) (.c (.v (.int .i64 1)))) (
    .jump [(.x 16)])))
    (.esc (.jump [])))))) (
 .op (.call F.spec_l2SameExp [(.agg [(.cell 0 1), (.cell 0 2), (.cell 0 3), (.cell 0 4), (.cell 0 5), (.cell 0 6), (.cell 0 7)]), (.agg [(.cell 1 1), (.cell 1 2), (.cell 1 3), (.cell 1 4), (.cell 1 5), (.cell 1 6), (.cell 1 7)])] false) (
 .ret [(.x 5)]))))))))

theorem T.spec_SameProg_l : leftF Try.prog [] FL Try.f19 = some (2, T.spec_SameProg) := by kernel_rfl

theorem T.spec_SameProg_con {args : List AV} {res : AV} (hl : args.length = 2) (hn : AV.norefs args = true) (hw : wpT Try.prog (fun _ _ _ => False) (fun a => a = res) T.spec_SameProg args []) : PCon Try.prog F.spec_SameProg args res :=
  con_auto Try.func19 T.spec_SameProg_l hl hn hw

def T.laws_toProg : T :=
.chk (.cells (.x 0) 8) (
.op (.call F.laws_toDataS [(.cell 0 0)] false) (
.chk (.one (.x 1)) (
.op (.call F.laws_toExp [(.agg [(.cell 0 1), (.cell 0 2), (.cell 0 3), (.cell 0 4), (.cell 0 5), (.cell 0 6), (.cell 0 7)])] false) (
.chk (.cells (.x 2) 7) (
.chk (.cells (.agg [(.x 1), (.cell 2 0), (.cell 2 1), (.cell 2 2), (.cell 2 3), (.cell 2 4), (.cell 2 5), (.cell 2 6)]) 8) (
.ret [(.agg [(.x 1), (.cell 2 0), (.cell 2 1), (.cell 2 2), (.cell 2 3), (.cell 2 4), (.cell 2 5), (.cell 2 6)])]))))))

theorem T.laws_toProg_l : leftF Try.prog [] FL Try.f20 = some (1, T.laws_toProg) := by kernel_rfl

theorem T.laws_toProg_con {args : List AV} {res : AV} (hl : args.length = 1) (hn : AV.norefs args = true) (hw : wpT Try.prog (fun _ _ _ => False) (fun a => a = res) T.laws_toProg args []) : PCon Try.prog F.laws_toProg args res :=
  con_auto Try.func20 T.laws_toProg_l hl hn hw

def T.impl_SameProg : T :=
.chk (.cells (.x 0) 8) (
.chk (.cells (.x 1) 8) (
.chk (.one (.c (.v .nilFunc))) (
.chk (.one (.c (.fn F.impl_SameProg_1 []))) (
.bind 1 (
 .op (.call F.slices_EqualFunc__impl_Data__impl_Data_impl_Data_impl_Data [(.cell 0 0), (.cell 1 0), (.fn F.impl_SameProg_2 [(.ip (.c (.fn F.impl_SameProg_1 [])) 0)])] false) (
 .ite (.x 2)
  (.op (.call F.impl_sameExp [(.agg [(.cell 0 1), (.cell 0 2), (.cell 0 3), (.cell 0 4), (.cell 0 5), (.cell 0 6), (.cell 0 7)]), (.agg [(.cell 1 1), (.cell 1 2), (.cell 1 3), (.cell 1 4), (.cell 1 5), (.cell 1 6), (.cell 1 7)])] false) (
  .jump [(.x 3)]))
  (.jump [(.c (.v (.bool false)))]))) (
.ret [(.x 2)])))))

theorem T.impl_SameProg_l : leftF Try.prog [] FL Try.f21 = some (2, T.impl_SameProg) := by kernel_rfl

theorem T.impl_SameProg_con {args : List AV} {res : AV} (hl : args.length = 2) (hn : AV.norefs args = true) (hw : wpT Try.prog (fun _ _ _ => False) (fun a => a = res) T.impl_SameProg args []) : PCon Try.prog F.impl_SameProg args res :=
  con_auto Try.func21 T.impl_SameProg_l hl hn hw

def T.laws_eqProg : T :=
.chk (.cells (.x 0) 8) (
.chk (.cells (.x 1) 8) (
.op (.call F.laws_eqDataS [(.cell 0 0), (.cell 1 0)] false) (
.op (.un .not (.x 2)) (
.ite (.x 3)
 (.ret [(.c (.v (.bool false)))])
 (.op (.call F.laws_eqExp [(.agg [(.cell 0 1), (.cell 0 2), (.cell 0 3), (.cell 0 4), (.cell 0 5), (.cell 0 6), (.cell 0 7)]), (.agg [(.cell 1 1), (.cell 1 2), (.cell 1 3), (.cell 1 4), (.cell 1 5), (.cell 1 6), (.cell 1 7)])] false) (
 .op (.un .not (.x 4)) (
 .ite (.x 5)
  (.ret [(.c (.v (.bool false)))])
  (.ret [(.c (.v (.bool true)))]))))))))

theorem T.laws_eqProg_l : leftF Try.prog [] FL Try.f22 = some (2, T.laws_eqProg) := by kernel_rfl

theorem T.laws_eqProg_con {args : List AV} {res : AV} (hl : args.length = 2) (hn : AV.norefs args = true) (hw : wpT Try.prog (fun _ _ _ => False) (fun a => a = res) T.laws_eqProg args []) : PCon Try.prog F.laws_eqProg args res :=
  con_auto Try.func22 T.laws_eqProg_l hl hn hw

def T.spec_Alpha : T :=
.chk (.cells (.x 0) 7) (
.chk (.cells (.x 1) 7) (
.bind 1 (
 .chk (.cells (.x 0) 7) (
 .op (.call F.spec_ExpOk [(.x 0)] false) (
 .ite (.x 2)
  (.chk (.cells (.x 1) 7) (
  .op (.call F.spec_ExpOk [(.x 1)] false) (
  .ite (.x 3)
   (.chk (.cells (.x 0) 7) (
   .chk (.cells (.x 1) 7) (
   .op (.mkl (.v (.string ⟨#[]⟩)) 0 []) (
   .op (.mkl (.v (.string ⟨#[]⟩)) 0 []) (
   .op (.call F.spec_l19Same [(.x 0), (.x 1), (.sl (.x 4)), (.sl (.x 5))] true) (
   .jump [(.x 6)]))))))
   (.jump [(.c (.v (.bool false)))]))))
  (.jump [(.c (.v (.bool false)))])))) (
.ret [(.x 2)])))

theorem T.spec_Alpha_l : leftF Try.prog [] FL Try.f23 = some (2, T.spec_Alpha) := by kernel_rfl

theorem T.spec_Alpha_con {args : List AV} {res : AV} (hl : args.length = 2) (hn : AV.norefs args = true) (hw : wpT Try.prog (fun _ _ _ => False) (fun a => a = res) T.spec_Alpha args []) : PCon Try.prog F.spec_Alpha args res :=
  con_auto Try.func23 T.spec_Alpha_l hl hn hw

def T.impl_Alpha : T :=
.chk (.cells (.x 0) 7) (
.chk (.cells (.x 1) 7) (
.bind 1 (
 .chk (.cells (.x 0) 7) (
 .op (.call F.impl_ExpOk [(.x 0)] false) (
 .ite (.x 2)
  (.chk (.cells (.x 1) 7) (
  .op (.call F.impl_ExpOk [(.x 1)] false) (
  .ite (.x 3)
   (.chk (.cells (.x 0) 7) (
   .chk (.cells (.x 1) 7) (
   .op (.call F.impl_alpha [(.x 0), (.x 1), (.c .nils), (.c .nils)] false) (
   .jump [(.x 4)]))))
   (.jump [(.c (.v (.bool false)))]))))
  (.jump [(.c (.v (.bool false)))])))) (
.ret [(.x 2)])))

theorem T.impl_Alpha_l : leftF Try.prog [] FL Try.f24 = some (2, T.impl_Alpha) := by kernel_rfl

theorem T.impl_Alpha_con {args : List AV} {res : AV} (hl : args.length = 2) (hn : AV.norefs args = true) (hw : wpT Try.prog (fun _ _ _ => False) (fun a => a = res) T.impl_Alpha args []) : PCon Try.prog F.impl_Alpha args res :=
  con_auto Try.func24 T.impl_Alpha_l hl hn hw

def T.spec_ProgOk : T :=
.chk (.cells (.x 0) 8) (
.bind 0 (
 .loop [(.c (.v (.int .i64 0)))] (
  .op (.lenL (.cell 0 0)) (
  .op (.bin .lss (.x 1) (.x 2)) (
  .ite (.x 3)
   (.bind 4 (
    .op (.elem 4 (.cell 0 0) (.x 1)) (
    .chk (.cells (.x 4) 4) (
    .chk (.cells (.x 4) 4) (
    .bind 0 (
     .bind 1 (
      .op (.call F.spec_l1Low [(.cell 4 0)] false) (
      .op (.un .not (.x 5)) (
      .ite (.x 6)
       (.jump [(.c (.v (.bool true)))])
       (.op (.bin .lss (.cell 4 3) (.c (.v (.int .i64 0)))) (
       .ite (.x 7)
        (.jump [(.c (.v (.bool true)))])
        (.op (.lenL (.cell 4 2)) (
        .op (.bin .eql (.x 8) (.c (.v (.int .i64 0)))) (
        .jump [(.x 9)])))))))) (
     .ite (.x 5)
      (.esc (.esc (.esc (.esc (.ret [(.c (.v (.bool false)))])))))
      (.jump []))) (
    .bind 0 (
     .loop [(.c (.v (.int .i64 0)))] (
      .op (.lenL (.cell 4 1)) (
      .op (.bin .lss (.x 5) (.x 6)) (
      .ite (.x 7)
       (.op (.elem 1 (.cell 4 1) (.x 5)) (
       .chk (.lt (.x 8) 0) (
       .op (.call F.spec_l1Name [(.cell 8 0), (.c (.v (.bool false)))] false) (
       .op (.un .not (.x 9)) (
       .ite (.x 10)
        (.esc (.esc (.esc (.esc (.esc (.ret [(.c (.v (.bool false)))]))))))
        (.op (.bin .add (.x 5) (.c (.v (.int .i64 1)))) (
        .jump [(.x 11)])))))))
       (.esc (.jump [])))))) (
    .loop [(.c (.v (.int .i64 0)))] (
     .op (.lenL (.cell 4 2)) (
     .op (.bin .lss (.x 5) (.x 6)) (
     .ite (.x 7)
      (.bind 7 (
       .op (.elem 7 (.cell 4 2) (.x 5)) (
       .chk (.cells (.x 8) 7) (
       .chk (.cells (.x 8) 7) (
       .bind 1 (
        .op (.call F.spec_l1Name [(.cell 8 0), (.c (.v (.bool true)))] false) (
        .op (.un .not (.x 9)) (
        .ite (.x 10)
         (.jump [(.c (.v (.bool true)))])
         (.op (.bin .lss (.cell 8 6) (.c (.v (.int .i64 0)))) (
         .ite (.x 11)
          (.jump [(.c (.v (.bool true)))])
          (.ite (.cell 8 1)
           (.op (.call F.spec_l2TypeOk [(.agg [(.cell 8 2), (.cell 8 3), (.cell 8 4), (.cell 8 5)])] false) (
           .op (.un .not (.x 12)) (
           .ite (.x 13)
            (.jump [(.c (.v (.bool true)))])
            (.op (.un .not (.cell 8 1)) (
            .ite (.x 14)
             (.op (.call F.spec_l2NoType [(.agg [(.cell 8 2), (.cell 8 3), (.cell 8 4), (.cell 8 5)])] false) (
             .op (.un .not (.x 15)) (
             .jump [(.x 16)])))
             (.jump [(.c (.v (.bool false)))]))))))
           (.op (.un .not (.cell 8 1)) (
           .ite (.x 12)
            (.op (.call F.spec_l2NoType [(.agg [(.cell 8 2), (.cell 8 3), (.cell 8 4), (.cell 8 5)])] false) (
            .op (.un .not (.x 13)) (
            .jump [(.x 14)])))
            (.jump [(.c (.v (.bool false)))]))))))))) (
       .ite (.x 9)
        (.esc (.esc (.esc (.esc (.esc (.ret [(.c (.v (.bool false)))]))))))
        (.jump [(.cell 8 0), (.cell 8 1), (.cell 8 2), (.cell 8 3), (.cell 8 4), (.cell 8 5), (.cell 8 6)])))))) (
      .op (.bin .add (.x 5) (.c (.v (.int .i64 1)))) (
      .jump [(.x 15)])))
      (.esc (.jump [(.cell 4 0), (.cell 4 1), (.cell 4 2), (.cell 4 3)]))))))))))) (
   .op (.bin .add (.x 1) (.c (.v (.int .i64 1)))) (
   .jump [(.x 8)])))
   (.esc (.jump [])))))) (
.op (.call F.spec_ExpOk [(.agg [(.cell 0 1), (.cell 0 2), (.cell 0 3), (.cell 0 4), (.cell 0 5), (.cell 0 6), (.cell 0 7)])] false) (
.ret [(.x 1)])))

theorem T.spec_ProgOk_l : leftF Try.prog [] FL Try.f25 = some (1, T.spec_ProgOk) := by kernel_rfl

theorem T.spec_ProgOk_con {args : List AV} {res : AV} (hl : args.length = 1) (hn : AV.norefs args = true) (hw : wpT Try.prog (fun _ _ _ => False) (fun a => a = res) T.spec_ProgOk args []) : PCon Try.prog F.spec_ProgOk args res :=
  con_auto Try.func25 T.spec_ProgOk_l hl hn hw

def T.impl_ProgOk : T :=
.chk (.cells (.x 0) 8) (
.bind 1 (
 .op (.call F.impl_ExpOk [(.agg [(.cell 0 1), (.cell 0 2), (.cell 0 3), (.cell 0 4), (.cell 0 5), (.cell 0 6), (.cell 0 7)])] false) (
 .ite (.x 1)
  (.op (.call F.slices_ContainsFunc__impl_Data_impl_Data [(.cell 0 0), (.c (.fn F.impl_ProgOk_1 []))] false) (
  .op (.un .not (.x 2)) (
  .jump [(.x 3)])))
  (.jump [(.c (.v (.bool false)))]))) (
.ret [(.x 1)]))

theorem T.impl_ProgOk_l : leftF Try.prog [] FL Try.f26 = some (1, T.impl_ProgOk) := by kernel_rfl

theorem T.impl_ProgOk_con {args : List AV} {res : AV} (hl : args.length = 1) (hn : AV.norefs args = true) (hw : wpT Try.prog (fun _ _ _ => False) (fun a => a = res) T.impl_ProgOk args []) : PCon Try.prog F.impl_ProgOk args res :=
  con_auto Try.func26 T.impl_ProgOk_l hl hn hw

def T.laws_szInstrS : T :=
.op (.lenL (.x 0)) (
.op (.bin .sub (.x 1) (.x 2)) (
.op (.bin .lss (.x 3) (.c (.v (.int .i64 0)))) (
.ite (.x 4)
 (.ret [(.c (.v (.int .i64 (-1))))])
 (.bind 1 (
  .loop [(.x 3), (.c (.v (.int .i64 0)))] (
   .op (.lenL (.x 0)) (
   .op (.bin .lss (.x 6) (.x 7)) (
   .ite (.x 8)
    (.op (.elem 6 (.x 0) (.x 6)) (
    .chk (.cells (.x 9) 6) (
    .op (.call F.laws_szInstr [(.x 9), (.x 5)] false) (
    .op (.bin .lss (.x 10) (.c (.v (.int .i64 0)))) (
    .ite (.x 11)
     (.esc (.esc (.ret [(.c (.v (.int .i64 (-1))))])))
     (.op (.bin .add (.x 6) (.c (.v (.int .i64 1)))) (
     .jump [(.x 10), (.x 12)])))))))
    (.esc (.jump [(.x 5)])))))) (
 .ret [(.x 5)])))))

theorem T.laws_szInstrS_l : leftF Try.prog [] FL Try.f27 = some (2, T.laws_szInstrS) := by kernel_rfl

theorem T.laws_szInstrS_con {args : List AV} {res : AV} (hl : args.length = 2) (hn : AV.norefs args = true) (hw : wpT Try.prog (fun _ _ _ => False) (fun a => a = res) T.laws_szInstrS args []) : PCon Try.prog F.laws_szInstrS args res :=
  con_auto Try.func27 T.laws_szInstrS_l hl hn hw

def T.laws_szIntS : T :=
.op (.lenL (.x 0)) (
.op (.bin .sub (.x 1) (.x 2)) (
.op (.bin .lss (.x 3) (.c (.v (.int .i64 0)))) (
.ite (.x 4)
 (.ret [(.c (.v (.int .i64 (-1))))])
 (.ret [(.x 3)]))))

theorem T.laws_szIntS_l : leftF Try.prog [] FL Try.f28 = some (2, T.laws_szIntS) := by kernel_rfl

theorem T.laws_szIntS_con {args : List AV} {res : AV} (hl : args.length = 2) (hn : AV.norefs args = true) (hw : wpT Try.prog (fun _ _ _ => False) (fun a => a = res) T.laws_szIntS args []) : PCon Try.prog F.laws_szIntS args res :=
  con_auto Try.func28 T.laws_szIntS_l hl hn hw

def T.spec_l1In : T :=
.bind 1 (
 .op (.bin .geq (.x 0) (.x 1)) (
 .ite (.x 3)
  (.op (.bin .leq (.x 0) (.x 2)) (
  .jump [(.x 4)]))
  (.jump [(.c (.v (.bool false)))]))) (
.ret [(.x 3)])

theorem T.spec_l1In_l : leftF Try.prog [] FL Try.f29 = some (3, T.spec_l1In) := by kernel_rfl

theorem T.spec_l1In_con {args : List AV} {res : AV} (hl : args.length = 3) (hn : AV.norefs args = true) (hw : wpT Try.prog (fun _ _ _ => False) (fun a => a = res) T.spec_l1In args []) : PCon Try.prog F.spec_l1In args res :=
  con_auto Try.func29 T.spec_l1In_l hl hn hw

def T.spec_l14InstrOk : T :=
.chk (.cells (.x 0) 6) (
.chk (.cells (.x 1) 2) (
.bind 0 (
 .bind 1 (
  .op (.call F.spec_l14Reg [(.cell 0 1)] false) (
  .op (.un .not (.x 2)) (
  .ite (.x 3)
   (.jump [(.c (.v (.bool true)))])
   (.op (.call F.spec_l14Reg [(.cell 0 2)] false) (
   .op (.un .not (.x 4)) (
   .ite (.x 5)
    (.jump [(.c (.v (.bool true)))])
    (.op (.call F.spec_l14Reg [(.cell 0 3)] false) (
    .op (.un .not (.x 6)) (
    .jump [(.x 7)]))))))))) (
 .ite (.x 2)
  (.esc (.ret [(.c (.v (.bool false)))]))
  (.jump []))) (
.op (.lenL (.cell 1 0)) (
.op (.bin .sub (.x 2) (.c (.v (.int .i64 1)))) (
.op (.call F.spec_l1In [(.cell 0 4), (.c (.v (.int .i64 0))), (.x 3)] false) (
.bind 0 (
 .op (.bin .eql (.cell 0 0) (.c (.v (.int .i64 1)))) (
 .ite (.x 5)
  (.chk (.cells (.x 0) 6) (
  .op (.call F.spec_l14Zero [(.x 0), (.c (.v (.string ⟨#[97, 110]⟩)))] false) (
  .esc (.ret [(.x 6)]))))
  (.op (.bin .eql (.cell 0 0) (.c (.v (.int .i64 2)))) (
  .ite (.x 6)
   (.bind 1 (
    .chk (.cells (.x 0) 6) (
    .op (.call F.spec_l14Zero [(.x 0), (.c (.v (.string ⟨#[97, 116]⟩)))] false) (
    .ite (.x 7)
     (.op (.call F.spec_l1Chars [(.cell 0 5)] false) (
     .ite (.x 8)
      (.op (.lenS (.cell 0 5)) (
      .op (.bin .leq (.x 9) (.c (.v (.int .i64 4000)))) (
      .jump [(.x 10)])))
      (.jump [(.c (.v (.bool false)))])))
     (.jump [(.c (.v (.bool false)))])))) (
   .esc (.ret [(.x 7)])))
   (.op (.bin .eql (.cell 0 0) (.c (.v (.int .i64 3)))) (
   .ite (.x 7)
    (.bind 1 (
     .chk (.cells (.x 0) 6) (
     .op (.call F.spec_l14Zero [(.x 0), (.c (.v (.string ⟨#[97, 110]⟩)))] false) (
     .ite (.x 8)
      (.op (.lenL (.cell 1 1)) (
      .op (.bin .sub (.x 9) (.c (.v (.int .i64 1)))) (
      .op (.call F.spec_l1In [(.cell 0 4), (.c (.v (.int .i64 0))), (.x 10)] false) (
      .jump [(.x 11)]))))
      (.jump [(.c (.v (.bool false)))])))) (
    .esc (.ret [(.x 8)])))
    (.op (.bin .eql (.cell 0 0) (.c (.v (.int .i64 4)))) (
    .ite (.x 8)
     (.chk (.cells (.x 0) 6) (
     .op (.call F.spec_l14Zero [(.x 0), (.c (.v (.string ⟨#[97, 98]⟩)))] false) (
     .esc (.ret [(.x 9)]))))
     (.bind 1 (
      .op (.bin .eql (.cell 0 0) (.c (.v (.int .i64 5)))) (
      .ite (.x 9)
       (.jump [(.x 9)])
       (.op (.bin .eql (.cell 0 0) (.c (.v (.int .i64 6)))) (
       .jump [(.x 10)])))) (
     .ite (.x 9)
      (.bind 1 (
       .chk (.cells (.x 0) 6) (
       .op (.call F.spec_l14Zero [(.x 0), (.c (.v (.string ⟨#[97, 110]⟩)))] false) (
       .ite (.x 10)
        (.op (.call F.spec_l1In [(.cell 0 4), (.c (.v (.int .i64 0))), (.c (.v (.int .i64 63)))] false) (
        .jump [(.x 11)]))
        (.jump [(.c (.v (.bool false)))])))) (
      .esc (.ret [(.x 10)])))
      (.op (.bin .eql (.cell 0 0) (.c (.v (.int .i64 7)))) (
      .ite (.x 10)
       (.chk (.cells (.x 0) 6) (
       .op (.call F.spec_l14Op [(.x 0)] false) (
       .esc (.ret [(.x 11)]))))
       (.op (.bin .eql (.cell 0 0) (.c (.v (.int .i64 8)))) (
       .ite (.x 11)
        (.bind 1 (
         .chk (.cells (.x 0) 6) (
         .op (.call F.spec_l14Zero [(.x 0), (.c (.v (.string ⟨#[97, 110]⟩)))] false) (
         .ite (.x 12)
          (.op (.call F.spec_l1In [(.cell 0 4), (.c (.v (.int .i64 1))), (.c (.v (.int .i64 4000)))] false) (
          .jump [(.x 13)]))
          (.jump [(.c (.v (.bool false)))])))) (
        .esc (.ret [(.x 12)])))
        (.bind 1 (
         .op (.bin .eql (.cell 0 0) (.c (.v (.int .i64 9)))) (
         .ite (.x 12)
          (.jump [(.x 12)])
          (.op (.bin .eql (.cell 0 0) (.c (.v (.int .i64 10)))) (
          .jump [(.x 13)])))) (
        .ite (.x 12)
         (.bind 1 (
          .chk (.cells (.x 0) 6) (
          .op (.call F.spec_l14Zero [(.x 0), (.c (.v (.string ⟨#[97, 98, 110]⟩)))] false) (
          .ite (.x 13)
           (.op (.bin .geq (.cell 0 4) (.c (.v (.int .i64 0)))) (
           .jump [(.x 14)]))
           (.jump [(.c (.v (.bool false)))])))) (
         .esc (.ret [(.x 13)])))
         (.op (.bin .eql (.cell 0 0) (.c (.v (.int .i64 11)))) (
         .ite (.x 13)
          (.bind 1 (
           .chk (.cells (.x 0) 6) (
           .op (.call F.spec_l14Zero [(.x 0), (.c (.v (.string ⟨#[97, 110]⟩)))] false) (
           .ite (.x 14)
            (.jump [(.x 4)])
            (.jump [(.c (.v (.bool false)))])))) (
          .esc (.ret [(.x 14)])))
          (.op (.bin .eql (.cell 0 0) (.c (.v (.int .i64 12)))) (
          .ite (.x 14)
           (.bind 1 (
            .chk (.cells (.x 0) 6) (
            .op (.call F.spec_l14Zero [(.x 0), (.c (.v (.string ⟨#[110]⟩)))] false) (
            .ite (.x 15)
             (.jump [(.x 4)])
             (.jump [(.c (.v (.bool false)))])))) (
           .esc (.ret [(.x 15)])))
           (.bind 1 (
            .op (.bin .eql (.cell 0 0) (.c (.v (.int .i64 13)))) (
            .ite (.x 15)
             (.jump [(.x 15)])
             (.op (.bin .eql (.cell 0 0) (.c (.v (.int .i64 14)))) (
             .jump [(.x 16)])))) (
           .ite (.x 15)
            (.chk (.cells (.x 0) 6) (
            .op (.call F.spec_l14Zero [(.x 0), (.c (.v (.string ⟨#[97]⟩)))] false) (
            .esc (.ret [(.x 16)]))))
            (.op (.bin .eql (.cell 0 0) (.c (.v (.int .i64 15)))) (
            .ite (.x 16)
             (.bind 1 (
              .chk (.cells (.x 0) 6) (
              .op (.call F.spec_l14Zero [(.x 0), (.c (.v (.string ⟨#[110]⟩)))] false) (
              .ite (.x 17)
               (.op (.call F.spec_l1In [(.cell 0 4), (.c (.v (.int .i64 1))), (.c (.v (.int .i64 2)))] false) (
               .jump [(.x 18)]))
               (.jump [(.c (.v (.bool false)))])))) (
             .esc (.ret [(.x 17)])))
             (.jump []))))))))))))))))))))))))) (
.ret [(.c (.v (.bool false)))])))))))

theorem T.spec_l14InstrOk_l : leftF Try.prog [] FL Try.f30 = some (2, T.spec_l14InstrOk) := by kernel_rfl

theorem T.spec_l14InstrOk_con {args : List AV} {res : AV} (hl : args.length = 2) (hn : AV.norefs args = true) (hw : wpT Try.prog (fun _ _ _ => False) (fun a => a = res) T.spec_l14InstrOk args []) : PCon Try.prog F.spec_l14InstrOk args res :=
  con_auto Try.func30 T.spec_l14InstrOk_l hl hn hw

def T.laws_toInstrS : T :=
.op (.lenL (.x 0)) (
.op (.rep 56 (.agg [(.v (.int .i64 0)), (.v (.int .i64 0)), (.v (.int .i64 0)), (.v (.int .i64 0)), (.v (.int .i64 0)), (.v (.string ⟨#[]⟩))]) (.x 1) (.x 1)) (
.bind 1 (
 .loop [(.x 2), (.c (.v (.int .i64 0)))] (
  .op (.lenL (.x 0)) (
  .op (.bin .lss (.x 4) (.x 5)) (
  .ite (.x 6)
   (.op (.elem 6 (.x 0) (.x 4)) (
   .chk (.cells (.x 7) 6) (
   .op (.call F.laws_toInstr [(.x 7)] false) (
   .chk (.idx (.x 3) (.x 4)) (
   .chk (.cells (.x 8) 6) (
   .op (.set (.x 3) (.x 4) 0 6 (.x 8)) (
   .op (.bin .add (.x 4) (.c (.v (.int .i64 1)))) (
   .jump [(.x 9), (.x 10)]))))))))
   (.esc (.jump [(.x 3)])))))) (
.ret [(.sl (.x 3))])))

theorem T.laws_toInstrS_l : leftF Try.prog [] FL Try.f31 = some (1, T.laws_toInstrS) := by kernel_rfl

theorem T.laws_toInstrS_con {args : List AV} {res : AV} (hl : args.length = 1) (hn : AV.norefs args = true) (hw : wpT Try.prog (fun _ _ _ => False) (fun a => a = res) T.laws_toInstrS args []) : PCon Try.prog F.laws_toInstrS args res :=
  con_auto Try.func31 T.laws_toInstrS_l hl hn hw

def T.laws_toIntS : T :=
.op (.lenL (.x 0)) (
.op (.rep 8 (.v (.int .i64 0)) (.x 1) (.x 1)) (
.bind 1 (
 .loop [(.x 2), (.c (.v (.int .i64 0)))] (
  .op (.lenL (.x 0)) (
  .op (.bin .lss (.x 4) (.x 5)) (
  .ite (.x 6)
   (.op (.elem 1 (.x 0) (.x 4)) (
   .chk (.lt (.x 7) 0) (
   .chk (.idx (.x 3) (.x 4)) (
   .chk (.one (.cell 7 0)) (
   .op (.set (.x 3) (.x 4) 0 1 (.cell 7 0)) (
   .op (.bin .add (.x 4) (.c (.v (.int .i64 1)))) (
   .jump [(.x 8), (.x 9)])))))))
   (.esc (.jump [(.x 3)])))))) (
.ret [(.sl (.x 3))])))

theorem T.laws_toIntS_l : leftF Try.prog [] FL Try.f32 = some (1, T.laws_toIntS) := by kernel_rfl

theorem T.laws_toIntS_con {args : List AV} {res : AV} (hl : args.length = 1) (hn : AV.norefs args = true) (hw : wpT Try.prog (fun _ _ _ => False) (fun a => a = res) T.laws_toIntS args []) : PCon Try.prog F.laws_toIntS args res :=
  con_auto Try.func32 T.laws_toIntS_l hl hn hw

def T.impl_within : T :=
.bind 1 (
 .op (.bin .geq (.x 0) (.x 1)) (
 .ite (.x 3)
  (.op (.bin .leq (.x 0) (.x 2)) (
  .jump [(.x 4)]))
  (.jump [(.c (.v (.bool false)))]))) (
.ret [(.x 3)])

theorem T.impl_within_l : leftF Try.prog [] FL Try.f33 = some (3, T.impl_within) := by kernel_rfl

theorem T.impl_within_con {args : List AV} {res : AV} (hl : args.length = 3) (hn : AV.norefs args = true) (hw : wpT Try.prog (fun _ _ _ => False) (fun a => a = res) T.impl_within args []) : PCon Try.prog F.impl_within args res :=
  con_auto Try.func33 T.impl_within_l hl hn hw

def T.slices_ContainsFunc__impl_Instr_impl_Instr : T :=
.op (.call F.slices_IndexFunc__impl_Instr_impl_Instr [(.x 0), (.x 1)] false) (
.op (.bin .geq (.x 2) (.c (.v (.int .i64 0)))) (
.ret [(.x 3)]))

theorem T.slices_ContainsFunc__impl_Instr_impl_Instr_l : leftF Try.prog [] FL Try.f34 = some (2, T.slices_ContainsFunc__impl_Instr_impl_Instr) := by kernel_rfl

theorem T.slices_ContainsFunc__impl_Instr_impl_Instr_con {args : List AV} {res : AV} (hl : args.length = 2) (hn : AV.norefs args = true) (hw : wpT Try.prog (fun _ _ _ => False) (fun a => a = res) T.slices_ContainsFunc__impl_Instr_impl_Instr args []) : PCon Try.prog F.slices_ContainsFunc__impl_Instr_impl_Instr args res :=
  con_auto Try.func34 T.slices_ContainsFunc__impl_Instr_impl_Instr_l hl hn hw

def T.impl_CodeOk_1 : T :=
.chk (.cells (.x 0) 6) (
.op (.ldp (some 2) (.x 1)) (
.chk (.cells (.x 0) 6) (
.op (.call F.impl_instrOk [(.x 2), (.x 0)] false) (
.op (.un .not (.x 3)) (
.ret [(.x 4)])))))

theorem T.impl_CodeOk_1_l : leftF Try.prog [] FL Try.f35 = some (2, T.impl_CodeOk_1) := by kernel_rfl

theorem T.impl_CodeOk_1_con {args : List AV} {res : AV} (hl : args.length = 2) (hn : AV.norefs args = true) (hw : wpT Try.prog (fun _ _ _ => False) (fun a => a = res) T.impl_CodeOk_1 args []) : PCon Try.prog F.impl_CodeOk_1 args res :=
  con_auto Try.func35 T.impl_CodeOk_1_l hl hn hw

def T.impl_instrOk : T :=
.chk (.cells (.x 0) 2) (
.chk (.cells (.x 1) 6) (
.chk (.cells (.x 1) 6) (
.op (.call F.impl_wants [(.x 1)] false) (
.chk (.tup (.x 2) 0) (
.chk (.tup (.x 2) 1) (
.chk (.one (.c (.v (.string ⟨#[]⟩)))) (
.chk (.one (.ext 2 0)) (
.chk (.one (.c (.v .nilFunc))) (
.chk (.one (.fn F.impl_instrOk_1 [(.ip (.ext 2 0) 0)])) (
.bind 0 (
 .bind 1 (
  .op (.un .not (.ext 2 1)) (
  .ite (.x 3)
   (.jump [(.c (.v (.bool true)))])
   (.op (.call F.impl_instrOk_2 [(.c (.v (.string ⟨#[97]⟩))), (.cell 1 1), (.ip (.fn F.impl_instrOk_1 [(.ip (.ext 2 0) 0)]) 0)] false) (
   .op (.un .not (.x 4)) (
   .ite (.x 5)
    (.jump [(.c (.v (.bool true)))])
    (.op (.call F.impl_instrOk_2 [(.c (.v (.string ⟨#[98]⟩))), (.cell 1 2), (.ip (.fn F.impl_instrOk_1 [(.ip (.ext 2 0) 0)]) 0)] false) (
    .op (.un .not (.x 6)) (
    .ite (.x 7)
     (.jump [(.c (.v (.bool true)))])
     (.op (.call F.impl_instrOk_2 [(.c (.v (.string ⟨#[99]⟩))), (.cell 1 3), (.ip (.fn F.impl_instrOk_1 [(.ip (.ext 2 0) 0)]) 0)] false) (
     .op (.un .not (.x 8)) (
     .ite (.x 9)
      (.jump [(.c (.v (.bool true)))])
      (.op (.val (.fn F.impl_instrOk_1 [(.ip (.ext 2 0) 0)])) (
      .chk (.lt (.x 10) 0) (
      .op (.callv (.cell 10 0) [(.c (.v (.string ⟨#[110]⟩)))] false) (
      .op (.un .not (.x 11)) (
      .ite (.x 12)
       (.op (.bin .neq (.cell 1 4) (.c (.v (.int .i64 0)))) (
       .ite (.x 13)
        (.jump [(.c (.v (.bool true)))])
        (.op (.val (.fn F.impl_instrOk_1 [(.ip (.ext 2 0) 0)])) (
        .chk (.lt (.x 14) 0) (
        .op (.callv (.cell 14 0) [(.c (.v (.string ⟨#[116]⟩)))] false) (
        .op (.un .not (.x 15)) (
        .ite (.x 16)
         (.op (.bin .neq (.cell 1 5) (.c (.v (.string ⟨#[]⟩)))) (
         .jump [(.x 17)]))
         (.jump [(.c (.v (.bool false)))]))))))))
       (.op (.val (.fn F.impl_instrOk_1 [(.ip (.ext 2 0) 0)])) (
       .chk (.lt (.x 13) 0) (
       .op (.callv (.cell 13 0) [(.c (.v (.string ⟨#[116]⟩)))] false) (
       .op (.un .not (.x 14)) (
       .ite (.x 15)
        (.op (.bin .neq (.cell 1 5) (.c (.v (.string ⟨#[]⟩)))) (
        .jump [(.x 16)]))
        (.jump [(.c (.v (.bool false)))])))))))))))))))))))))) (
 .ite (.x 3)
  (.esc (.ret [(.c (.v (.bool false)))]))
  (.jump []))) (
.bind 0 (
 .op (.bin .eql (.cell 1 0) (.c (.v (.int .i64 2)))) (
 .ite (.x 3)
  (.bind 1 (
   .op (.lenS (.cell 1 5)) (
   .op (.bin .leq (.x 4) (.c (.v (.int .i64 4000)))) (
   .ite (.x 5)
    (.op (.call F.impl_plain [(.cell 1 5)] false) (
    .jump [(.x 6)]))
    (.jump [(.c (.v (.bool false)))])))) (
  .esc (.ret [(.x 4)])))
  (.op (.bin .eql (.cell 1 0) (.c (.v (.int .i64 3)))) (
  .ite (.x 4)
   (.op (.lenL (.cell 0 1)) (
   .op (.bin .sub (.x 5) (.c (.v (.int .i64 1)))) (
   .op (.call F.impl_within [(.cell 1 4), (.c (.v (.int .i64 0))), (.x 6)] false) (
   .esc (.ret [(.x 7)])))))
   (.bind 1 (
    .op (.bin .eql (.cell 1 0) (.c (.v (.int .i64 5)))) (
    .ite (.x 5)
     (.jump [(.x 5)])
     (.op (.bin .eql (.cell 1 0) (.c (.v (.int .i64 6)))) (
     .jump [(.x 6)])))) (
   .ite (.x 5)
    (.op (.call F.impl_within [(.cell 1 4), (.c (.v (.int .i64 0))), (.c (.v (.int .i64 63)))] false) (
    .esc (.ret [(.x 6)])))
    (.op (.bin .eql (.cell 1 0) (.c (.v (.int .i64 8)))) (
    .ite (.x 6)
     (.op (.call F.impl_within [(.cell 1 4), (.c (.v (.int .i64 1))), (.c (.v (.int .i64 4000)))] false) (
     .esc (.ret [(.x 7)])))
     (.bind 1 (
      .op (.bin .eql (.cell 1 0) (.c (.v (.int .i64 9)))) (
      .ite (.x 7)
       (.jump [(.x 7)])
       (.op (.bin .eql (.cell 1 0) (.c (.v (.int .i64 10)))) (
       .jump [(.x 8)])))) (
     .ite (.x 7)
      (.op (.bin .geq (.cell 1 4) (.c (.v (.int .i64 0)))) (
      .esc (.ret [(.x 8)])))
      (.bind 1 (
       .op (.bin .eql (.cell 1 0) (.c (.v (.int .i64 11)))) (
       .ite (.x 8)
        (.jump [(.x 8)])
        (.op (.bin .eql (.cell 1 0) (.c (.v (.int .i64 12)))) (
        .jump [(.x 9)])))) (
      .ite (.x 8)
       (.op (.lenL (.cell 0 0)) (
       .op (.bin .sub (.x 9) (.c (.v (.int .i64 1)))) (
       .op (.call F.impl_within [(.cell 1 4), (.c (.v (.int .i64 0))), (.x 10)] false) (
       .esc (.ret [(.x 11)])))))
       (.op (.bin .eql (.cell 1 0) (.c (.v (.int .i64 15)))) (
       .ite (.x 9)
        (.op (.call F.impl_within [(.cell 1 4), (.c (.v (.int .i64 1))), (.c (.v (.int .i64 2)))] false) (
        .esc (.ret [(.x 10)])))
        (.jump []))))))))))))))) (
.ret [(.c (.v (.bool true)))]))))))))))))

theorem T.impl_instrOk_l : leftF Try.prog [] FL Try.f36 = some (2, T.impl_instrOk) := by kernel_rfl

theorem T.impl_instrOk_con {args : List AV} {res : AV} (hl : args.length = 2) (hn : AV.norefs args = true) (hw : wpT Try.prog (fun _ _ _ => False) (fun a => a = res) T.impl_instrOk args []) : PCon Try.prog F.impl_instrOk args res :=
  con_auto Try.func36 T.impl_instrOk_l hl hn hw

def T.slices_ContainsFunc__int_int : T :=
.op (.call F.slices_IndexFunc__int_int [(.x 0), (.x 1)] false) (
.op (.bin .geq (.x 2) (.c (.v (.int .i64 0)))) (
.ret [(.x 3)]))

theorem T.slices_ContainsFunc__int_int_l : leftF Try.prog [] FL Try.f37 = some (2, T.slices_ContainsFunc__int_int) := by kernel_rfl

theorem T.slices_ContainsFunc__int_int_con {args : List AV} {res : AV} (hl : args.length = 2) (hn : AV.norefs args = true) (hw : wpT Try.prog (fun _ _ _ => False) (fun a => a = res) T.slices_ContainsFunc__int_int args []) : PCon Try.prog F.slices_ContainsFunc__int_int args res :=
  con_auto Try.func37 T.slices_ContainsFunc__int_int_l hl hn hw

def T.impl_CodeOk_2 : T :=
.op (.fap 0 (.x 1)) (
.op (.ldp none (.x 2)) (
.op (.lenL (.x 3)) (
.op (.bin .sub (.x 4) (.c (.v (.int .i64 1)))) (
.op (.call F.impl_within [(.x 0), (.c (.v (.int .i64 0))), (.x 5)] false) (
.op (.un .not (.x 6)) (
.ret [(.x 7)]))))))

theorem T.impl_CodeOk_2_l : leftF Try.prog [] FL Try.f38 = some (2, T.impl_CodeOk_2) := by kernel_rfl

theorem T.impl_CodeOk_2_con {args : List AV} {res : AV} (hl : args.length = 2) (hn : AV.norefs args = true) (hw : wpT Try.prog (fun _ _ _ => False) (fun a => a = res) T.impl_CodeOk_2 args []) : PCon Try.prog F.impl_CodeOk_2 args res :=
  con_auto Try.func38 T.impl_CodeOk_2_l hl hn hw

def T.laws_eqInstrS : T :=
.op (.lenL (.x 0)) (
.op (.lenL (.x 1)) (
.op (.bin .neq (.x 2) (.x 3)) (
.ite (.x 4)
 (.ret [(.c (.v (.bool false)))])
 (.bind 0 (
  .loop [(.c (.v (.int .i64 0)))] (
   .op (.lenL (.x 0)) (
   .op (.bin .lss (.x 5) (.x 6)) (
   .ite (.x 7)
    (.op (.elem 6 (.x 0) (.x 5)) (
    .chk (.cells (.x 8) 6) (
    .op (.elem 6 (.x 1) (.x 5)) (
    .chk (.cells (.x 9) 6) (
    .op (.call F.laws_eqInstr [(.x 8), (.x 9)] false) (
    .op (.un .not (.x 10)) (
    .ite (.x 11)
     (.esc (.esc (.ret [(.c (.v (.bool false)))])))
     (.op (.bin .add (.x 5) (.c (.v (.int .i64 1)))) (
     .jump [(.x 12)])))))))))
    (.esc (.jump [])))))) (
 .ret [(.c (.v (.bool true)))])))))

theorem T.laws_eqInstrS_l : leftF Try.prog [] FL Try.f39 = some (2, T.laws_eqInstrS) := by kernel_rfl

theorem T.laws_eqInstrS_con {args : List AV} {res : AV} (hl : args.length = 2) (hn : AV.norefs args = true) (hw : wpT Try.prog (fun _ _ _ => False) (fun a => a = res) T.laws_eqInstrS args []) : PCon Try.prog F.laws_eqInstrS args res :=
  con_auto Try.func39 T.laws_eqInstrS_l hl hn hw

def T.laws_eqIntS : T :=
.op (.lenL (.x 0)) (
.op (.lenL (.x 1)) (
.op (.bin .neq (.x 2) (.x 3)) (
.ite (.x 4)
 (.ret [(.c (.v (.bool false)))])
 (.bind 0 (
  .loop [(.c (.v (.int .i64 0)))] (
   .op (.lenL (.x 0)) (
   .op (.bin .lss (.x 5) (.x 6)) (
   .ite (.x 7)
    (.op (.elem 1 (.x 0) (.x 5)) (
    .chk (.lt (.x 8) 0) (
    .op (.elem 1 (.x 1) (.x 5)) (
    .chk (.lt (.x 9) 0) (
    .op (.bin .neq (.cell 8 0) (.cell 9 0)) (
    .ite (.x 10)
     (.esc (.esc (.ret [(.c (.v (.bool false)))])))
     (.op (.bin .add (.x 5) (.c (.v (.int .i64 1)))) (
     .jump [(.x 11)]))))))))
    (.esc (.jump [])))))) (
 .ret [(.c (.v (.bool true)))])))))

theorem T.laws_eqIntS_l : leftF Try.prog [] FL Try.f40 = some (2, T.laws_eqIntS) := by kernel_rfl

theorem T.laws_eqIntS_con {args : List AV} {res : AV} (hl : args.length = 2) (hn : AV.norefs args = true) (hw : wpT Try.prog (fun _ _ _ => False) (fun a => a = res) T.laws_eqIntS args []) : PCon Try.prog F.laws_eqIntS args res :=
  con_auto Try.func40 T.laws_eqIntS_l hl hn hw

def T.laws_szExpS : T :=
.op (.lenL (.x 0)) (
.op (.bin .sub (.x 1) (.x 2)) (
.op (.bin .lss (.x 3) (.c (.v (.int .i64 0)))) (
.ite (.x 4)
 (.ret [(.c (.v (.int .i64 (-1))))])
 (.bind 1 (
  .loop [(.x 3), (.c (.v (.int .i64 0)))] (
   .op (.lenL (.x 0)) (
   .op (.bin .lss (.x 6) (.x 7)) (
   .ite (.x 8)
    (.op (.elem 7 (.x 0) (.x 6)) (
    .chk (.cells (.x 9) 7) (
    .op (.call F.laws_szExp [(.x 9), (.x 5)] false) (
    .op (.bin .lss (.x 10) (.c (.v (.int .i64 0)))) (
    .ite (.x 11)
     (.esc (.esc (.ret [(.c (.v (.int .i64 (-1))))])))
     (.op (.bin .add (.x 6) (.c (.v (.int .i64 1)))) (
     .jump [(.x 10), (.x 12)])))))))
    (.esc (.jump [(.x 5)])))))) (
 .ret [(.x 5)])))))

theorem T.laws_szExpS_l : leftF Try.prog [] FL Try.f41 = some (2, T.laws_szExpS) := by kernel_rfl

theorem T.laws_szExpS_con {args : List AV} {res : AV} (hl : args.length = 2) (hn : AV.norefs args = true) (hw : wpT Try.prog (fun _ _ _ => False) (fun a => a = res) T.laws_szExpS args []) : PCon Try.prog F.laws_szExpS args res :=
  con_auto Try.func41 T.laws_szExpS_l hl hn hw

def T.laws_szArmS : T :=
.op (.lenL (.x 0)) (
.op (.bin .sub (.x 1) (.x 2)) (
.op (.bin .lss (.x 3) (.c (.v (.int .i64 0)))) (
.ite (.x 4)
 (.ret [(.c (.v (.int .i64 (-1))))])
 (.bind 1 (
  .loop [(.x 3), (.c (.v (.int .i64 0)))] (
   .op (.lenL (.x 0)) (
   .op (.bin .lss (.x 6) (.x 7)) (
   .ite (.x 8)
    (.op (.elem 12 (.x 0) (.x 6)) (
    .chk (.cells (.x 9) 12) (
    .op (.call F.laws_szArm [(.x 9), (.x 5)] false) (
    .op (.bin .lss (.x 10) (.c (.v (.int .i64 0)))) (
    .ite (.x 11)
     (.esc (.esc (.ret [(.c (.v (.int .i64 (-1))))])))
     (.op (.bin .add (.x 6) (.c (.v (.int .i64 1)))) (
     .jump [(.x 10), (.x 12)])))))))
    (.esc (.jump [(.x 5)])))))) (
 .ret [(.x 5)])))))

theorem T.laws_szArmS_l : leftF Try.prog [] FL Try.f42 = some (2, T.laws_szArmS) := by kernel_rfl

theorem T.laws_szArmS_con {args : List AV} {res : AV} (hl : args.length = 2) (hn : AV.norefs args = true) (hw : wpT Try.prog (fun _ _ _ => False) (fun a => a = res) T.laws_szArmS args []) : PCon Try.prog F.laws_szArmS args res :=
  con_auto Try.func42 T.laws_szArmS_l hl hn hw

def T.spec_l2Node : T :=
.chk (.cells (.x 0) 7) (
.op (.lenL (.cell 0 5)) (
.bind 0 (
 .op (.bin .eql (.cell 0 0) (.c (.v (.int .i64 1)))) (
 .ite (.x 2)
  (.bind 1 (
   .chk (.cells (.x 0) 7) (
   .op (.call F.spec_l2Plain [(.x 0), (.c (.v (.string ⟨#[117]⟩)))] false) (
   .ite (.x 3)
    (.op (.bin .geq (.cell 0 2) (.c (.v (.int .i64 0)))) (
    .ite (.x 4)
     (.op (.bin .eql (.x 1) (.c (.v (.int .i64 0)))) (
     .jump [(.x 5)]))
     (.jump [(.c (.v (.bool false)))])))
    (.jump [(.c (.v (.bool false)))])))) (
  .esc (.ret [(.x 3)])))
  (.op (.bin .eql (.cell 0 0) (.c (.v (.int .i64 2)))) (
  .ite (.x 3)
   (.bind 1 (
    .chk (.cells (.x 0) 7) (
    .op (.call F.spec_l2Plain [(.x 0), (.c (.v (.string ⟨#[116]⟩)))] false) (
    .ite (.x 4)
     (.op (.call F.spec_l1Chars [(.cell 0 3)] false) (
     .ite (.x 5)
      (.op (.bin .eql (.x 1) (.c (.v (.int .i64 0)))) (
      .jump [(.x 6)]))
      (.jump [(.c (.v (.bool false)))])))
     (.jump [(.c (.v (.bool false)))])))) (
   .esc (.ret [(.x 4)])))
   (.op (.bin .eql (.cell 0 0) (.c (.v (.int .i64 3)))) (
   .ite (.x 4)
    (.bind 1 (
     .chk (.cells (.x 0) 7) (
     .op (.call F.spec_l2Plain [(.x 0), (.c (.v (.string ⟨#[117]⟩)))] false) (
     .ite (.x 5)
      (.op (.call F.spec_l1In [(.cell 0 2), (.c (.v (.int .i64 0))), (.c (.v (.int .i64 1)))] false) (
      .ite (.x 6)
       (.op (.bin .eql (.x 1) (.c (.v (.int .i64 0)))) (
       .jump [(.x 7)]))
       (.jump [(.c (.v (.bool false)))])))
      (.jump [(.c (.v (.bool false)))])))) (
    .esc (.ret [(.x 5)])))
    (.op (.bin .eql (.cell 0 0) (.c (.v (.int .i64 4)))) (
    .ite (.x 5)
     (.bind 1 (
      .chk (.cells (.x 0) 7) (
      .op (.call F.spec_l2Plain [(.x 0), (.c (.v (.string ⟨#[]⟩)))] false) (
      .ite (.x 6)
       (.op (.bin .eql (.x 1) (.c (.v (.int .i64 0)))) (
       .jump [(.x 7)]))
       (.jump [(.c (.v (.bool false)))])))) (
     .esc (.ret [(.x 6)])))
     (.op (.bin .eql (.cell 0 0) (.c (.v (.int .i64 5)))) (
     .ite (.x 6)
      (.bind 1 (
       .chk (.cells (.x 0) 7) (
       .op (.call F.spec_l2Plain [(.x 0), (.c (.v (.string ⟨#[110]⟩)))] false) (
       .ite (.x 7)
        (.op (.call F.spec_l1Low [(.cell 0 1)] false) (
        .ite (.x 8)
         (.op (.bin .eql (.x 1) (.c (.v (.int .i64 0)))) (
         .jump [(.x 9)]))
         (.jump [(.c (.v (.bool false)))])))
        (.jump [(.c (.v (.bool false)))])))) (
      .esc (.ret [(.x 7)])))
      (.op (.bin .eql (.cell 0 0) (.c (.v (.int .i64 6)))) (
      .ite (.x 7)
       (.bind 1 (
        .chk (.cells (.x 0) 7) (
        .op (.call F.spec_l2Plain [(.x 0), (.c (.v (.string ⟨#[110]⟩)))] false) (
        .ite (.x 8)
         (.op (.call F.spec_l1Name [(.cell 0 1), (.c (.v (.bool true)))] false) (
         .ite (.x 9)
          (.op (.bin .leq (.x 1) (.c (.v (.int .i64 1)))) (
          .jump [(.x 10)]))
          (.jump [(.c (.v (.bool false)))])))
         (.jump [(.c (.v (.bool false)))])))) (
       .esc (.ret [(.x 8)])))
       (.op (.bin .eql (.cell 0 0) (.c (.v (.int .i64 7)))) (
       .ite (.x 8)
        (.bind 1 (
         .chk (.cells (.x 0) 7) (
         .op (.call F.spec_l2Plain [(.x 0), (.c (.v (.string ⟨#[]⟩)))] false) (
         .ite (.x 9)
          (.op (.bin .geq (.x 1) (.c (.v (.int .i64 2)))) (
          .jump [(.x 10)]))
          (.jump [(.c (.v (.bool false)))])))) (
        .esc (.ret [(.x 9)])))
        (.op (.bin .eql (.cell 0 0) (.c (.v (.int .i64 8)))) (
        .ite (.x 9)
         (.bind 1 (
          .chk (.cells (.x 0) 7) (
          .op (.call F.spec_l2Plain [(.x 0), (.c (.v (.string ⟨#[110]⟩)))] false) (
          .ite (.x 10)
           (.op (.call F.spec_l1Low [(.cell 0 1)] false) (
           .ite (.x 11)
            (.op (.bin .eql (.x 1) (.c (.v (.int .i64 1)))) (
            .jump [(.x 12)]))
            (.jump [(.c (.v (.bool false)))])))
           (.jump [(.c (.v (.bool false)))])))) (
         .esc (.ret [(.x 10)])))
         (.op (.bin .eql (.cell 0 0) (.c (.v (.int .i64 9)))) (
         .ite (.x 10)
          (.bind 1 (
           .chk (.cells (.x 0) 7) (
           .op (.call F.spec_l2Plain [(.x 0), (.c (.v (.string ⟨#[]⟩)))] false) (
           .ite (.x 11)
            (.op (.bin .eql (.x 1) (.c (.v (.int .i64 2)))) (
            .jump [(.x 12)]))
            (.jump [(.c (.v (.bool false)))])))) (
          .esc (.ret [(.x 11)])))
          (.op (.bin .eql (.cell 0 0) (.c (.v (.int .i64 10)))) (
          .ite (.x 11)
           (.bind 1 (
            .chk (.cells (.x 0) 7) (
            .op (.call F.spec_l2Plain [(.x 0), (.c (.v (.string ⟨#[110]⟩)))] false) (
            .ite (.x 12)
             (.op (.call F.spec_l1Low [(.cell 0 1)] false) (
             .ite (.x 13)
              (.op (.bin .eql (.x 1) (.c (.v (.int .i64 2)))) (
              .jump [(.x 14)]))
              (.jump [(.c (.v (.bool false)))])))
             (.jump [(.c (.v (.bool false)))])))) (
           .esc (.ret [(.x 12)])))
           (.op (.bin .eql (.cell 0 0) (.c (.v (.int .i64 11)))) (
           .ite (.x 12)
            (.bind 1 (
             .chk (.cells (.x 0) 7) (
             .op (.call F.spec_l2Plain [(.x 0), (.c (.v (.string ⟨#[110, 116]⟩)))] false) (
             .ite (.x 13)
              (.op (.call F.spec_l1Low [(.cell 0 1)] false) (
              .ite (.x 14)
               (.op (.call F.spec_l1Low [(.cell 0 3)] false) (
               .ite (.x 15)
                (.op (.bin .eql (.x 1) (.c (.v (.int .i64 2)))) (
                .jump [(.x 16)]))
                (.jump [(.c (.v (.bool false)))])))
               (.jump [(.c (.v (.bool false)))])))
              (.jump [(.c (.v (.bool false)))])))) (
            .esc (.ret [(.x 13)])))
            (.op (.bin .eql (.cell 0 0) (.c (.v (.int .i64 12)))) (
            .ite (.x 13)
             (.bind 1 (
              .chk (.cells (.x 0) 7) (
              .op (.call F.spec_l2Plain [(.x 0), (.c (.v (.string ⟨#[]⟩)))] false) (
              .ite (.x 14)
               (.op (.bin .eql (.x 1) (.c (.v (.int .i64 3)))) (
               .jump [(.x 15)]))
               (.jump [(.c (.v (.bool false)))])))) (
             .esc (.ret [(.x 14)])))
             (.op (.bin .eql (.cell 0 0) (.c (.v (.int .i64 13)))) (
             .ite (.x 14)
              (.bind 1 (
               .chk (.cells (.x 0) 7) (
               .op (.call F.spec_l2Plain [(.x 0), (.c (.v (.string ⟨#[]⟩)))] false) (
               .ite (.x 15)
                (.op (.bin .eql (.x 1) (.c (.v (.int .i64 1)))) (
                .ite (.x 16)
                 (.op (.lenL (.cell 0 6)) (
                 .op (.bin .gtr (.x 17) (.c (.v (.int .i64 0)))) (
                 .jump [(.x 18)])))
                 (.jump [(.c (.v (.bool false)))])))
                (.jump [(.c (.v (.bool false)))])))) (
              .esc (.ret [(.x 15)])))
              (.op (.bin .eql (.cell 0 0) (.c (.v (.int .i64 14)))) (
              .ite (.x 15)
               (.bind 1 (
                .chk (.cells (.x 0) 7) (
                .op (.call F.spec_l2Plain [(.x 0), (.c (.v (.string ⟨#[110]⟩)))] false) (
                .ite (.x 16)
                 (.op (.call F.spec_l2Op [(.cell 0 1)] false) (
                 .ite (.x 17)
                  (.op (.bin .eql (.x 1) (.c (.v (.int .i64 2)))) (
                  .jump [(.x 18)]))
                  (.jump [(.c (.v (.bool false)))])))
                 (.jump [(.c (.v (.bool false)))])))) (
               .esc (.ret [(.x 16)])))
               (.op (.bin .eql (.cell 0 0) (.c (.v (.int .i64 15)))) (
               .ite (.x 16)
                (.bind 1 (
                 .chk (.cells (.x 0) 7) (
                 .op (.call F.spec_l2Plain [(.x 0), (.c (.v (.string ⟨#[110]⟩)))] false) (
                 .ite (.x 17)
                  (.op (.bin .eql (.cell 0 1) (.c (.v (.string ⟨#[114, 101, 97, 100]⟩)))) (
                  .ite (.x 18)
                   (.op (.bin .eql (.x 1) (.c (.v (.int .i64 0)))) (
                   .ite (.x 19)
                    (.jump [(.c (.v (.bool true)))])
                    (.op (.call F.spec_l2Prim [(.cell 0 1)] false) (
                    .ite (.x 20)
                     (.op (.bin .eql (.x 1) (.c (.v (.int .i64 1)))) (
                     .jump [(.x 21)]))
                     (.jump [(.c (.v (.bool false)))])))))
                   (.op (.call F.spec_l2Prim [(.cell 0 1)] false) (
                   .ite (.x 19)
                    (.op (.bin .eql (.x 1) (.c (.v (.int .i64 1)))) (
                    .jump [(.x 20)]))
                    (.jump [(.c (.v (.bool false)))])))))
                  (.jump [(.c (.v (.bool false)))])))) (
                .esc (.ret [(.x 17)])))
                (.jump []))))))))))))))))))))))))))))))) (
.ret [(.c (.v (.bool false)))])))

theorem T.spec_l2Node_l : leftF Try.prog [] FL Try.f43 = some (1, T.spec_l2Node) := by kernel_rfl

theorem T.spec_l2Node_con {args : List AV} {res : AV} (hl : args.length = 1) (hn : AV.norefs args = true) (hw : wpT Try.prog (fun _ _ _ => False) (fun a => a = res) T.spec_l2Node args []) : PCon Try.prog F.spec_l2Node args res :=
  con_auto Try.func43 T.spec_l2Node_l hl hn hw

def T.spec_l2PatOk : T :=
.chk (.cells (.x 0) 5) (
.op (.lenL (.cell 0 4)) (
.op (.bin .geq (.cell 0 3) (.c (.v (.int .i64 0)))) (
.op (.bin .eql (.cell 0 1) (.c (.v (.string ⟨#[]⟩)))) (
.op (.bin .eql (.cell 0 2) (.c (.v (.int .i64 0)))) (
.bind 1 (
 .bind 1 (
  .op (.bin .eql (.cell 0 0) (.c (.v (.int .i64 1)))) (
  .ite (.x 5)
   (.jump [(.x 5)])
   (.op (.bin .eql (.cell 0 0) (.c (.v (.int .i64 5)))) (
   .jump [(.x 6)])))) (
 .ite (.x 5)
  (.ite (.x 2)
   (.ite (.x 3)
    (.ite (.x 4)
     (.op (.bin .eql (.x 1) (.c (.v (.int .i64 0)))) (
     .jump [(.x 6)]))
     (.jump [(.c (.v (.bool false)))]))
    (.jump [(.c (.v (.bool false)))]))
   (.jump [(.c (.v (.bool false)))]))
  (.op (.bin .eql (.cell 0 0) (.c (.v (.int .i64 2)))) (
  .ite (.x 6)
   (.ite (.x 2)
    (.op (.call F.spec_l1Low [(.cell 0 1)] false) (
    .ite (.x 7)
     (.ite (.x 4)
      (.op (.bin .eql (.x 1) (.c (.v (.int .i64 0)))) (
      .jump [(.x 8)]))
      (.jump [(.c (.v (.bool false)))]))
     (.jump [(.c (.v (.bool false)))])))
    (.jump [(.c (.v (.bool false)))]))
   (.op (.bin .eql (.cell 0 0) (.c (.v (.int .i64 3)))) (
   .ite (.x 7)
    (.ite (.x 2)
     (.ite (.x 3)
      (.op (.bin .geq (.cell 0 2) (.c (.v (.int .i64 0)))) (
      .ite (.x 8)
       (.op (.bin .eql (.x 1) (.c (.v (.int .i64 0)))) (
       .jump [(.x 9)]))
       (.jump [(.c (.v (.bool false)))])))
      (.jump [(.c (.v (.bool false)))]))
     (.jump [(.c (.v (.bool false)))]))
    (.op (.bin .eql (.cell 0 0) (.c (.v (.int .i64 4)))) (
    .ite (.x 8)
     (.ite (.x 2)
      (.ite (.x 3)
       (.op (.call F.spec_l1In [(.cell 0 2), (.c (.v (.int .i64 0))), (.c (.v (.int .i64 1)))] false) (
       .ite (.x 9)
        (.op (.bin .eql (.x 1) (.c (.v (.int .i64 0)))) (
        .jump [(.x 10)]))
        (.jump [(.c (.v (.bool false)))])))
       (.jump [(.c (.v (.bool false)))]))
      (.jump [(.c (.v (.bool false)))]))
     (.op (.bin .eql (.cell 0 0) (.c (.v (.int .i64 6)))) (
     .ite (.x 9)
      (.ite (.x 2)
       (.ite (.x 3)
        (.ite (.x 4)
         (.op (.bin .geq (.x 1) (.c (.v (.int .i64 2)))) (
         .jump [(.x 10)]))
         (.jump [(.c (.v (.bool false)))]))
        (.jump [(.c (.v (.bool false)))]))
       (.jump [(.c (.v (.bool false)))]))
      (.op (.bin .eql (.cell 0 0) (.c (.v (.int .i64 7)))) (
      .ite (.x 10)
       (.ite (.x 2)
        (.op (.call F.spec_l1Name [(.cell 0 1), (.c (.v (.bool true)))] false) (
        .ite (.x 11)
         (.ite (.x 4)
          (.op (.bin .leq (.x 1) (.c (.v (.int .i64 1)))) (
          .jump [(.x 12)]))
          (.jump [(.c (.v (.bool false)))]))
         (.jump [(.c (.v (.bool false)))])))
        (.jump [(.c (.v (.bool false)))]))
       (.esc (.ret [(.c (.v (.bool false)))])))))))))))))) (
.bind 1 (
 .loop [(.x 5), (.c (.v (.int .i64 0)))] (
  .bind 0 (
   .bind 1 (
    .op (.bin .lss (.x 7) (.x 1)) (
    .ite (.x 8)
     (.jump [(.x 6)])
     (.jump [(.c (.v (.bool false)))]))) (
   .ite (.x 8)
    (.jump [])
    (.esc (.esc (.jump [(.x 6)]))))) (
  .op (.elem 5 (.cell 0 4) (.x 7)) (
  .chk (.cells (.x 8) 5) (
  .op (.call F.spec_l2PatOk [(.x 8)] false) (
  .op (.bin .add (.x 7) (.c (.v (.int .i64 1)))) (
  .jump [(.x 9), (.x 10)]))))))) (
.ret [(.x 6)])))))))

theorem T.spec_l2PatOk_l : leftF Try.prog [] FL Try.f44 = some (1, T.spec_l2PatOk) := by kernel_rfl

theorem T.spec_l2PatOk_con {args : List AV} {res : AV} (hl : args.length = 1) (hn : AV.norefs args = true) (hw : wpT Try.prog (fun _ _ _ => False) (fun a => a = res) T.spec_l2PatOk args []) : PCon Try.prog F.spec_l2PatOk args res :=
  con_auto Try.func44 T.spec_l2PatOk_l hl hn hw

def T.laws_toExpS : T :=
.op (.lenL (.x 0)) (
.op (.rep 104 (.agg [(.v (.int .i64 0)), (.v (.string ⟨#[]⟩)), (.v (.int .i64 0)), (.v (.string ⟨#[]⟩)), (.v (.int .i64 0)), .nils, .nils]) (.x 1) (.x 1)) (
.bind 1 (
 .loop [(.x 2), (.c (.v (.int .i64 0)))] (
  .op (.lenL (.x 0)) (
  .op (.bin .lss (.x 4) (.x 5)) (
  .ite (.x 6)
   (.op (.elem 7 (.x 0) (.x 4)) (
   .chk (.cells (.x 7) 7) (
   .op (.call F.laws_toExp [(.x 7)] false) (
   .chk (.idx (.x 3) (.x 4)) (
   .chk (.cells (.x 8) 7) (
   .op (.set (.x 3) (.x 4) 0 7 (.x 8)) (
   .op (.bin .add (.x 4) (.c (.v (.int .i64 1)))) (
   .jump [(.x 9), (.x 10)]))))))))
   (.esc (.jump [(.x 3)])))))) (
.ret [(.sl (.x 3))])))

theorem T.laws_toExpS_l : leftF Try.prog [] FL Try.f45 = some (1, T.laws_toExpS) := by kernel_rfl

theorem T.laws_toExpS_con {args : List AV} {res : AV} (hl : args.length = 1) (hn : AV.norefs args = true) (hw : wpT Try.prog (fun _ _ _ => False) (fun a => a = res) T.laws_toExpS args []) : PCon Try.prog F.laws_toExpS args res :=
  con_auto Try.func45 T.laws_toExpS_l hl hn hw

def T.laws_toArmS : T :=
.op (.lenL (.x 0)) (
.op (.rep 168 (.agg [(.v (.int .i64 0)), (.v (.string ⟨#[]⟩)), (.v (.int .i64 0)), (.v (.int .i64 0)), .nils, (.v (.int .i64 0)), (.v (.string ⟨#[]⟩)), (.v (.int .i64 0)), (.v (.string ⟨#[]⟩)), (.v (.int .i64 0)), .nils, .nils]) (.x 1) (.x 1)) (
.bind 1 (
 .loop [(.x 2), (.c (.v (.int .i64 0)))] (
  .op (.lenL (.x 0)) (
  .op (.bin .lss (.x 4) (.x 5)) (
  .ite (.x 6)
   (.op (.elem 12 (.x 0) (.x 4)) (
   .chk (.cells (.x 7) 12) (
   .op (.call F.laws_toArm [(.x 7)] false) (
   .chk (.idx (.x 3) (.x 4)) (
   .chk (.cells (.x 8) 12) (
   .op (.set (.x 3) (.x 4) 0 12 (.x 8)) (
   .op (.bin .add (.x 4) (.c (.v (.int .i64 1)))) (
   .jump [(.x 9), (.x 10)]))))))))
   (.esc (.jump [(.x 3)])))))) (
.ret [(.sl (.x 3))])))

theorem T.laws_toArmS_l : leftF Try.prog [] FL Try.f46 = some (1, T.laws_toArmS) := by kernel_rfl

theorem T.laws_toArmS_con {args : List AV} {res : AV} (hl : args.length = 1) (hn : AV.norefs args = true) (hw : wpT Try.prog (fun _ _ _ => False) (fun a => a = res) T.laws_toArmS args []) : PCon Try.prog F.laws_toArmS args res :=
  con_auto Try.func46 T.laws_toArmS_l hl hn hw

def T.impl_headOk : T :=
.chk (.cells (.x 0) 7) (
.op (.lenL (.cell 0 5)) (
.op (.bin .eql (.x 1) (.c (.v (.int .i64 0)))) (
.op (.bin .eql (.cell 0 1) (.c (.v (.string ⟨#[]⟩)))) (
.op (.bin .eql (.cell 0 2) (.c (.v (.int .i64 0)))) (
.op (.bin .eql (.cell 0 3) (.c (.v (.string ⟨#[]⟩)))) (
.bind 4 (
 .op (.bin .eql (.cell 0 0) (.c (.v (.int .i64 1)))) (
 .ite (.x 6)
  (.op (.bin .geq (.cell 0 2) (.c (.v (.int .i64 0)))) (
  .jump [(.x 2), (.x 3), (.x 7), (.x 5)]))
  (.op (.bin .eql (.cell 0 0) (.c (.v (.int .i64 2)))) (
  .ite (.x 7)
   (.op (.call F.impl_plain [(.cell 0 3)] false) (
   .jump [(.x 2), (.x 3), (.x 4), (.x 8)]))
   (.op (.bin .eql (.cell 0 0) (.c (.v (.int .i64 3)))) (
   .ite (.x 8)
    (.op (.call F.impl_within [(.cell 0 2), (.c (.v (.int .i64 0))), (.c (.v (.int .i64 1)))] false) (
    .jump [(.x 2), (.x 3), (.x 9), (.x 5)]))
    (.op (.bin .eql (.cell 0 0) (.c (.v (.int .i64 4)))) (
    .ite (.x 9)
     (.jump [(.x 2), (.x 3), (.x 4), (.x 5)])
     (.op (.bin .eql (.cell 0 0) (.c (.v (.int .i64 5)))) (
     .ite (.x 10)
      (.op (.call F.impl_lowOk [(.cell 0 1)] false) (
      .jump [(.x 2), (.x 11), (.x 4), (.x 5)]))
      (.op (.bin .eql (.cell 0 0) (.c (.v (.int .i64 6)))) (
      .ite (.x 11)
       (.op (.lenL (.cell 0 5)) (
       .op (.bin .leq (.x 12) (.c (.v (.int .i64 1)))) (
       .op (.call F.impl_upOk [(.cell 0 1)] false) (
       .jump [(.x 13), (.x 14), (.x 4), (.x 5)]))))
       (.op (.bin .eql (.cell 0 0) (.c (.v (.int .i64 7)))) (
       .ite (.x 12)
        (.op (.lenL (.cell 0 5)) (
        .op (.bin .geq (.x 13) (.c (.v (.int .i64 2)))) (
        .jump [(.x 14), (.x 3), (.x 4), (.x 5)])))
        (.op (.bin .eql (.cell 0 0) (.c (.v (.int .i64 8)))) (
        .ite (.x 13)
         (.op (.lenL (.cell 0 5)) (
         .op (.bin .eql (.x 14) (.c (.v (.int .i64 1)))) (
         .op (.call F.impl_lowOk [(.cell 0 1)] false) (
         .jump [(.x 15), (.x 16), (.x 4), (.x 5)]))))
         (.op (.bin .eql (.cell 0 0) (.c (.v (.int .i64 9)))) (
         .ite (.x 14)
          (.op (.lenL (.cell 0 5)) (
          .op (.bin .eql (.x 15) (.c (.v (.int .i64 2)))) (
          .jump [(.x 16), (.x 3), (.x 4), (.x 5)])))
          (.op (.bin .eql (.cell 0 0) (.c (.v (.int .i64 10)))) (
          .ite (.x 15)
           (.op (.lenL (.cell 0 5)) (
           .op (.bin .eql (.x 16) (.c (.v (.int .i64 2)))) (
           .op (.call F.impl_lowOk [(.cell 0 1)] false) (
           .jump [(.x 17), (.x 18), (.x 4), (.x 5)]))))
           (.op (.bin .eql (.cell 0 0) (.c (.v (.int .i64 11)))) (
           .ite (.x 16)
            (.op (.lenL (.cell 0 5)) (
            .op (.bin .eql (.x 17) (.c (.v (.int .i64 2)))) (
            .op (.call F.impl_lowOk [(.cell 0 1)] false) (
            .op (.call F.impl_lowOk [(.cell 0 3)] false) (
            .jump [(.x 18), (.x 19), (.x 4), (.x 20)])))))
            (.op (.bin .eql (.cell 0 0) (.c (.v (.int .i64 12)))) (
            .ite (.x 17)
             (.op (.lenL (.cell 0 5)) (
             .op (.bin .eql (.x 18) (.c (.v (.int .i64 3)))) (
             .jump [(.x 19), (.x 3), (.x 4), (.x 5)])))
             (.op (.bin .eql (.cell 0 0) (.c (.v (.int .i64 13)))) (
             .ite (.x 18)
              (.op (.lenL (.cell 0 5)) (
              .op (.bin .eql (.x 19) (.c (.v (.int .i64 1)))) (
              .jump [(.x 20), (.x 3), (.x 4), (.x 5)])))
              (.op (.bin .eql (.cell 0 0) (.c (.v (.int .i64 14)))) (
              .ite (.x 19)
               (.op (.lenL (.cell 0 5)) (
               .op (.bin .eql (.x 20) (.c (.v (.int .i64 2)))) (
               .op (.call F.impl_binarySign [(.cell 0 1)] false) (
               .jump [(.x 21), (.x 22), (.x 4), (.x 5)]))))
               (.op (.bin .eql (.cell 0 0) (.c (.v (.int .i64 15)))) (
               .ite (.x 20)
                (.op (.lenL (.cell 0 5)) (
                .op (.call F.impl_primArity [(.cell 0 1)] false) (
                .op (.bin .eql (.x 21) (.x 22)) (
                .jump [(.x 23), (.c (.v (.bool true))), (.x 4), (.x 5)]))))
                (.esc (.ret [(.c (.v (.bool false)))])))))))))))))))))))))))))))))))) (
.bind 1 (
 .ite (.x 6)
  (.ite (.x 7)
   (.ite (.x 8)
    (.ite (.x 9)
     (.op (.bin .geq (.cell 0 4) (.c (.v (.int .i64 0)))) (
     .ite (.x 10)
      (.op (.bin .eql (.cell 0 0) (.c (.v (.int .i64 13)))) (
      .op (.lenL (.cell 0 6)) (
      .op (.bin .gtr (.x 12) (.c (.v (.int .i64 0)))) (
      .op (.beq false (.x 11) (.x 13)) (
      .jump [(.x 14)])))))
      (.jump [(.c (.v (.bool false)))])))
     (.jump [(.c (.v (.bool false)))]))
    (.jump [(.c (.v (.bool false)))]))
   (.jump [(.c (.v (.bool false)))]))
  (.jump [(.c (.v (.bool false)))])) (
.ret [(.x 10)]))))))))

theorem T.impl_headOk_l : leftF Try.prog [] FL Try.f47 = some (1, T.impl_headOk) := by kernel_rfl

theorem T.impl_headOk_con {args : List AV} {res : AV} (hl : args.length = 1) (hn : AV.norefs args = true) (hw : wpT Try.prog (fun _ _ _ => False) (fun a => a = res) T.impl_headOk args []) : PCon Try.prog F.impl_headOk args res :=
  con_auto Try.func47 T.impl_headOk_l hl hn hw

def T.impl_patOk : T :=
.chk (.cells (.x 0) 5) (
.op (.lenL (.cell 0 4)) (
.op (.bin .eql (.x 1) (.c (.v (.int .i64 0)))) (
.op (.bin .eql (.cell 0 1) (.c (.v (.string ⟨#[]⟩)))) (
.op (.bin .eql (.cell 0 2) (.c (.v (.int .i64 0)))) (
.bind 3 (
 .bind 1 (
  .op (.bin .eql (.cell 0 0) (.c (.v (.int .i64 1)))) (
  .ite (.x 5)
   (.jump [(.x 5)])
   (.op (.bin .eql (.cell 0 0) (.c (.v (.int .i64 5)))) (
   .jump [(.x 6)])))) (
 .ite (.x 5)
  (.jump [(.x 2), (.x 3), (.x 4)])
  (.op (.bin .eql (.cell 0 0) (.c (.v (.int .i64 2)))) (
  .ite (.x 6)
   (.op (.call F.impl_lowOk [(.cell 0 1)] false) (
   .jump [(.x 2), (.x 7), (.x 4)]))
   (.op (.bin .eql (.cell 0 0) (.c (.v (.int .i64 3)))) (
   .ite (.x 7)
    (.op (.bin .geq (.cell 0 2) (.c (.v (.int .i64 0)))) (
    .jump [(.x 2), (.x 3), (.x 8)]))
    (.op (.bin .eql (.cell 0 0) (.c (.v (.int .i64 4)))) (
    .ite (.x 8)
     (.op (.call F.impl_within [(.cell 0 2), (.c (.v (.int .i64 0))), (.c (.v (.int .i64 1)))] false) (
     .jump [(.x 2), (.x 3), (.x 9)]))
     (.op (.bin .eql (.cell 0 0) (.c (.v (.int .i64 6)))) (
     .ite (.x 9)
      (.op (.lenL (.cell 0 4)) (
      .op (.bin .geq (.x 10) (.c (.v (.int .i64 2)))) (
      .jump [(.x 11), (.x 3), (.x 4)])))
      (.op (.bin .eql (.cell 0 0) (.c (.v (.int .i64 7)))) (
      .ite (.x 10)
       (.op (.lenL (.cell 0 4)) (
       .op (.bin .leq (.x 11) (.c (.v (.int .i64 1)))) (
       .op (.call F.impl_upOk [(.cell 0 1)] false) (
       .jump [(.x 12), (.x 13), (.x 4)]))))
       (.esc (.ret [(.c (.v (.bool false)))])))))))))))))) (
.bind 1 (
 .ite (.x 5)
  (.ite (.x 6)
   (.ite (.x 7)
    (.op (.bin .geq (.cell 0 3) (.c (.v (.int .i64 0)))) (
    .ite (.x 8)
     (.op (.call F.slices_ContainsFunc__impl_Pat_impl_Pat [(.cell 0 4), (.c (.fn F.impl_patOk_1 []))] false) (
     .op (.un .not (.x 9)) (
     .jump [(.x 10)])))
     (.jump [(.c (.v (.bool false)))])))
    (.jump [(.c (.v (.bool false)))]))
   (.jump [(.c (.v (.bool false)))]))
  (.jump [(.c (.v (.bool false)))])) (
.ret [(.x 8)])))))))

theorem T.impl_patOk_l : leftF Try.prog [] FL Try.f48 = some (1, T.impl_patOk) := by kernel_rfl

theorem T.impl_patOk_con {args : List AV} {res : AV} (hl : args.length = 1) (hn : AV.norefs args = true) (hw : wpT Try.prog (fun _ _ _ => False) (fun a => a = res) T.impl_patOk args []) : PCon Try.prog F.impl_patOk args res :=
  con_auto Try.func48 T.impl_patOk_l hl hn hw

def T.laws_eqExpS : T :=
.op (.lenL (.x 0)) (
.op (.lenL (.x 1)) (
.op (.bin .neq (.x 2) (.x 3)) (
.ite (.x 4)
 (.ret [(.c (.v (.bool false)))])
 (.bind 0 (
  .loop [(.c (.v (.int .i64 0)))] (
   .op (.lenL (.x 0)) (
   .op (.bin .lss (.x 5) (.x 6)) (
   .ite (.x 7)
    (.op (.elem 7 (.x 0) (.x 5)) (
    .chk (.cells (.x 8) 7) (
    .op (.elem 7 (.x 1) (.x 5)) (
    .chk (.cells (.x 9) 7) (
    .op (.call F.laws_eqExp [(.x 8), (.x 9)] false) (
    .op (.un .not (.x 10)) (
    .ite (.x 11)
     (.esc (.esc (.ret [(.c (.v (.bool false)))])))
     (.op (.bin .add (.x 5) (.c (.v (.int .i64 1)))) (
     .jump [(.x 12)])))))))))
    (.esc (.jump [])))))) (
 .ret [(.c (.v (.bool true)))])))))

theorem T.laws_eqExpS_l : leftF Try.prog [] FL Try.f49 = some (2, T.laws_eqExpS) := by kernel_rfl

theorem T.laws_eqExpS_con {args : List AV} {res : AV} (hl : args.length = 2) (hn : AV.norefs args = true) (hw : wpT Try.prog (fun _ _ _ => False) (fun a => a = res) T.laws_eqExpS args []) : PCon Try.prog F.laws_eqExpS args res :=
  con_auto Try.func49 T.laws_eqExpS_l hl hn hw

def T.laws_eqArmS : T :=
.op (.lenL (.x 0)) (
.op (.lenL (.x 1)) (
.op (.bin .neq (.x 2) (.x 3)) (
.ite (.x 4)
 (.ret [(.c (.v (.bool false)))])
 (.bind 0 (
  .loop [(.c (.v (.int .i64 0)))] (
   .op (.lenL (.x 0)) (
   .op (.bin .lss (.x 5) (.x 6)) (
   .ite (.x 7)
    (.op (.elem 12 (.x 0) (.x 5)) (
    .chk (.cells (.x 8) 12) (
    .op (.elem 12 (.x 1) (.x 5)) (
    .chk (.cells (.x 9) 12) (
    .op (.call F.laws_eqArm [(.x 8), (.x 9)] false) (
    .op (.un .not (.x 10)) (
    .ite (.x 11)
     (.esc (.esc (.ret [(.c (.v (.bool false)))])))
     (.op (.bin .add (.x 5) (.c (.v (.int .i64 1)))) (
     .jump [(.x 12)])))))))))
    (.esc (.jump [])))))) (
 .ret [(.c (.v (.bool true)))])))))

theorem T.laws_eqArmS_l : leftF Try.prog [] FL Try.f50 = some (2, T.laws_eqArmS) := by kernel_rfl

theorem T.laws_eqArmS_con {args : List AV} {res : AV} (hl : args.length = 2) (hn : AV.norefs args = true) (hw : wpT Try.prog (fun _ _ _ => False) (fun a => a = res) T.laws_eqArmS args []) : PCon Try.prog F.laws_eqArmS args res :=
  con_auto Try.func50 T.laws_eqArmS_l hl hn hw

def T.laws_szDataS : T :=
.op (.lenL (.x 0)) (
.op (.bin .sub (.x 1) (.x 2)) (
.op (.bin .lss (.x 3) (.c (.v (.int .i64 0)))) (
.ite (.x 4)
 (.ret [(.c (.v (.int .i64 (-1))))])
 (.bind 1 (
  .loop [(.x 3), (.c (.v (.int .i64 0)))] (
   .op (.lenL (.x 0)) (
   .op (.bin .lss (.x 6) (.x 7)) (
   .ite (.x 8)
    (.op (.elem 4 (.x 0) (.x 6)) (
    .chk (.cells (.x 9) 4) (
    .op (.call F.laws_szData [(.x 9), (.x 5)] false) (
    .op (.bin .lss (.x 10) (.c (.v (.int .i64 0)))) (
    .ite (.x 11)
     (.esc (.esc (.ret [(.c (.v (.int .i64 (-1))))])))
     (.op (.bin .add (.x 6) (.c (.v (.int .i64 1)))) (
     .jump [(.x 10), (.x 12)])))))))
    (.esc (.jump [(.x 5)])))))) (
 .ret [(.x 5)])))))

theorem T.laws_szDataS_l : leftF Try.prog [] FL Try.f51 = some (2, T.laws_szDataS) := by kernel_rfl

theorem T.laws_szDataS_con {args : List AV} {res : AV} (hl : args.length = 2) (hn : AV.norefs args = true) (hw : wpT Try.prog (fun _ _ _ => False) (fun a => a = res) T.laws_szDataS args []) : PCon Try.prog F.laws_szDataS args res :=
  con_auto Try.func51 T.laws_szDataS_l hl hn hw

def T.spec_l2SameNames : T :=
.op (.lenL (.x 0)) (
.op (.lenL (.x 1)) (
.op (.bin .neq (.x 2) (.x 3)) (
.ite (.x 4)
 (.ret [(.c (.v (.bool false)))])
 (.bind 0 (
  .loop [(.c (.v (.int .i64 0)))] (
   .op (.lenL (.x 0)) (
   .op (.bin .lss (.x 5) (.x 6)) (
   .ite (.x 7)
    (.op (.elem 1 (.x 0) (.x 5)) (
    .chk (.lt (.x 8) 0) (
    .op (.elem 1 (.x 1) (.x 5)) (
    .chk (.lt (.x 9) 0) (
    .op (.bin .neq (.cell 8 0) (.cell 9 0)) (
    .ite (.x 10)
     (.esc (.esc (.ret [(.c (.v (.bool false)))])))
     (.op (.bin .add (.x 5) (.c (.v (.int .i64 1)))) (
     .jump [(.x 11)]))))))))
    (.esc (.jump [])))))) (
 .ret [(.c (.v (.bool true)))])))))

theorem T.spec_l2SameNames_l : leftF Try.prog [] FL Try.f52 = some (2, T.spec_l2SameNames) := by kernel_rfl

theorem T.spec_l2SameNames_con {args : List AV} {res : AV} (hl : args.length = 2) (hn : AV.norefs args = true) (hw : wpT Try.prog (fun _ _ _ => False) (fun a => a = res) T.spec_l2SameNames args []) : PCon Try.prog F.spec_l2SameNames args res :=
  con_auto Try.func52 T.spec_l2SameNames_l hl hn hw

def T.spec_l2SameType : T :=
.chk (.cells (.x 0) 4) (
.chk (.cells (.x 1) 4) (
.bind 0 (
 .bind 1 (
  .op (.bin .neq (.cell 0 0) (.cell 1 0)) (
  .ite (.x 2)
   (.jump [(.c (.v (.bool true)))])
   (.op (.bin .neq (.cell 0 1) (.cell 1 1)) (
   .ite (.x 3)
    (.jump [(.c (.v (.bool true)))])
    (.op (.lenL (.cell 0 3)) (
    .op (.lenL (.cell 1 3)) (
    .op (.bin .neq (.x 4) (.x 5)) (
    .jump [(.x 6)])))))))) (
 .ite (.x 2)
  (.esc (.ret [(.c (.v (.bool false)))]))
  (.jump []))) (
.bind 0 (
 .loop [(.c (.v (.int .i64 0)))] (
  .op (.lenL (.cell 0 3)) (
  .op (.bin .lss (.x 2) (.x 3)) (
  .ite (.x 4)
   (.op (.elem 4 (.cell 0 3) (.x 2)) (
   .chk (.cells (.x 5) 4) (
   .op (.elem 4 (.cell 1 3) (.x 2)) (
   .chk (.cells (.x 6) 4) (
   .op (.call F.spec_l2SameType [(.x 5), (.x 6)] false) (
   .op (.un .not (.x 7)) (
   .ite (.x 8)
    (.esc (.esc (.ret [(.c (.v (.bool false)))])))
    (.op (.bin .add (.x 2) (.c (.v (.int .i64 1)))) (
    .jump [(.x 9)])))))))))
   (.esc (.jump [])))))) (
.ret [(.c (.v (.bool true)))]))))

theorem T.spec_l2SameType_l : leftF Try.prog [] FL Try.f53 = some (2, T.spec_l2SameType) := by kernel_rfl

theorem T.spec_l2SameType_con {args : List AV} {res : AV} (hl : args.length = 2) (hn : AV.norefs args = true) (hw : wpT Try.prog (fun _ _ _ => False) (fun a => a = res) T.spec_l2SameType args []) : PCon Try.prog F.spec_l2SameType args res :=
  con_auto Try.func53 T.spec_l2SameType_l hl hn hw

def T.spec_l2SameExp : T :=
.chk (.cells (.x 0) 7) (
.chk (.cells (.x 1) 7) (
.bind 0 (
 .bind 1 (
  .op (.bin .neq (.cell 0 0) (.cell 1 0)) (
  .ite (.x 2)
   (.jump [(.c (.v (.bool true)))])
   (.op (.bin .neq (.cell 0 1) (.cell 1 1)) (
   .ite (.x 3)
    (.jump [(.c (.v (.bool true)))])
    (.op (.bin .neq (.cell 0 2) (.cell 1 2)) (
    .ite (.x 4)
     (.jump [(.c (.v (.bool true)))])
     (.op (.bin .neq (.cell 0 3) (.cell 1 3)) (
     .ite (.x 5)
      (.jump [(.c (.v (.bool true)))])
      (.op (.lenL (.cell 0 5)) (
      .op (.lenL (.cell 1 5)) (
      .op (.bin .neq (.x 6) (.x 7)) (
      .ite (.x 8)
       (.jump [(.c (.v (.bool true)))])
       (.op (.lenL (.cell 0 6)) (
       .op (.lenL (.cell 1 6)) (
       .op (.bin .neq (.x 9) (.x 10)) (
       .jump [(.x 11)])))))))))))))))) (
 .ite (.x 2)
  (.esc (.ret [(.c (.v (.bool false)))]))
  (.jump []))) (
.bind 0 (
 .loop [(.c (.v (.int .i64 0)))] (
  .op (.lenL (.cell 0 5)) (
  .op (.bin .lss (.x 2) (.x 3)) (
  .ite (.x 4)
   (.op (.elem 7 (.cell 0 5) (.x 2)) (
   .chk (.cells (.x 5) 7) (
   .op (.elem 7 (.cell 1 5) (.x 2)) (
   .chk (.cells (.x 6) 7) (
   .op (.call F.spec_l2SameExp [(.x 5), (.x 6)] false) (
   .op (.un .not (.x 7)) (
   .ite (.x 8)
    (.esc (.esc (.ret [(.c (.v (.bool false)))])))
    (.op (.bin .add (.x 2) (.c (.v (.int .i64 1)))) (
    .jump [(.x 9)])))))))))
   (.esc (.jump [])))))) (
.bind 0 (
 .loop [(.c (.v (.int .i64 0)))] (
  .op (.lenL (.cell 0 6)) (
  .op (.bin .lss (.x 2) (.x 3)) (
  .ite (.x 4)
   (.bind 0 (
    .bind 1 (
     .op (.elem 12 (.cell 0 6) (.x 2)) (
     .op (.loadc 0 5 (.x 5)) (
     .op (.elem 12 (.cell 1 6) (.x 2)) (
     .op (.loadc 0 5 (.x 7)) (
     .op (.call F.spec_l2SamePat [(.x 6), (.x 8)] false) (
     .op (.un .not (.x 9)) (
     .ite (.x 10)
      (.jump [(.c (.v (.bool true)))])
      (.op (.elem 12 (.cell 0 6) (.x 2)) (
      .op (.loadc 5 7 (.x 11)) (
      .op (.elem 12 (.cell 1 6) (.x 2)) (
      .op (.loadc 5 7 (.x 13)) (
      .op (.call F.spec_l2SameExp [(.x 12), (.x 14)] false) (
      .op (.un .not (.x 15)) (
      .jump [(.x 16)])))))))))))))) (
    .ite (.x 5)
     (.esc (.esc (.esc (.ret [(.c (.v (.bool false)))]))))
     (.jump []))) (
   .op (.bin .add (.x 2) (.c (.v (.int .i64 1)))) (
   .jump [(.x 5)])))
   (.esc (.jump [])))))) (
.ret [(.c (.v (.bool true)))])))))

theorem T.spec_l2SameExp_l : leftF Try.prog [] FL Try.f54 = some (2, T.spec_l2SameExp) := by kernel_rfl

theorem T.spec_l2SameExp_con {args : List AV} {res : AV} (hl : args.length = 2) (hn : AV.norefs args = true) (hw : wpT Try.prog (fun _ _ _ => False) (fun a => a = res) T.spec_l2SameExp args []) : PCon Try.prog F.spec_l2SameExp args res :=
  con_auto Try.func54 T.spec_l2SameExp_l hl hn hw

def T.laws_toDataS : T :=
.op (.lenL (.x 0)) (
.op (.rep 72 (.agg [(.v (.string ⟨#[]⟩)), .nils, .nils, (.v (.int .i64 0))]) (.x 1) (.x 1)) (
.bind 1 (
 .loop [(.x 2), (.c (.v (.int .i64 0)))] (
  .op (.lenL (.x 0)) (
  .op (.bin .lss (.x 4) (.x 5)) (
  .ite (.x 6)
   (.op (.elem 4 (.x 0) (.x 4)) (
   .chk (.cells (.x 7) 4) (
   .op (.call F.laws_toData [(.x 7)] false) (
   .chk (.idx (.x 3) (.x 4)) (
   .chk (.cells (.x 8) 4) (
   .op (.set (.x 3) (.x 4) 0 4 (.x 8)) (
   .op (.bin .add (.x 4) (.c (.v (.int .i64 1)))) (
   .jump [(.x 9), (.x 10)]))))))))
   (.esc (.jump [(.x 3)])))))) (
.ret [(.sl (.x 3))])))

theorem T.laws_toDataS_l : leftF Try.prog [] FL Try.f55 = some (1, T.laws_toDataS) := by kernel_rfl

theorem T.laws_toDataS_con {args : List AV} {res : AV} (hl : args.length = 1) (hn : AV.norefs args = true) (hw : wpT Try.prog (fun _ _ _ => False) (fun a => a = res) T.laws_toDataS args []) : PCon Try.prog F.laws_toDataS args res :=
  con_auto Try.func55 T.laws_toDataS_l hl hn hw

def T.impl_SameProg_1 : T :=
.chk (.cells (.x 0) 7) (
.chk (.cells (.x 1) 7) (
.bind 1 (
 .op (.bin .eql (.cell 0 0) (.cell 1 0)) (
 .ite (.x 2)
  (.op (.beq false (.cell 0 1) (.cell 1 1)) (
  .ite (.x 3)
   (.op (.call F.impl_sameType [(.agg [(.cell 0 2), (.cell 0 3), (.cell 0 4), (.cell 0 5)]), (.agg [(.cell 1 2), (.cell 1 3), (.cell 1 4), (.cell 1 5)])] false) (
   .jump [(.x 4)]))
   (.jump [(.c (.v (.bool false)))])))
  (.jump [(.c (.v (.bool false)))]))) (
.ret [(.x 2)])))

theorem T.impl_SameProg_1_l : leftF Try.prog [] FL Try.f56 = some (2, T.impl_SameProg_1) := by kernel_rfl

theorem T.impl_SameProg_1_con {args : List AV} {res : AV} (hl : args.length = 2) (hn : AV.norefs args = true) (hw : wpT Try.prog (fun _ _ _ => False) (fun a => a = res) T.impl_SameProg_1 args []) : PCon Try.prog F.impl_SameProg_1 args res :=
  con_auto Try.func56 T.impl_SameProg_1_l hl hn hw

def T.impl_sameType : T :=
.chk (.cells (.x 0) 4) (
.chk (.cells (.x 1) 4) (
.bind 1 (
 .op (.bin .eql (.cell 0 0) (.cell 1 0)) (
 .ite (.x 2)
  (.op (.bin .eql (.cell 0 1) (.cell 1 1)) (
  .ite (.x 3)
   (.op (.call F.slices_EqualFunc__impl_TypeExp__impl_TypeExp_impl_TypeExp_impl_TypeExp [(.cell 0 3), (.cell 1 3), (.c (.fn F.impl_sameType []))] false) (
   .jump [(.x 4)]))
   (.jump [(.c (.v (.bool false)))])))
  (.jump [(.c (.v (.bool false)))]))) (
.ret [(.x 2)])))

theorem T.impl_sameType_l : leftF Try.prog [] FL Try.f57 = some (2, T.impl_sameType) := by kernel_rfl

theorem T.impl_sameType_con {args : List AV} {res : AV} (hl : args.length = 2) (hn : AV.norefs args = true) (hw : wpT Try.prog (fun _ _ _ => False) (fun a => a = res) T.impl_sameType args []) : PCon Try.prog F.impl_sameType args res :=
  con_auto Try.func57 T.impl_sameType_l hl hn hw

def T.impl_SameProg_2 : T :=
.chk (.cells (.x 0) 4) (
.chk (.cells (.x 1) 4) (
.bind 1 (
 .op (.bin .eql (.cell 0 0) (.cell 1 0)) (
 .ite (.x 3)
  (.op (.call F.slices_Equal__string_string [(.cell 0 1), (.cell 1 1)] false) (
  .ite (.x 4)
   (.op (.ldp none (.x 2)) (
   .op (.call F.slices_EqualFunc__impl_Ctor__impl_Ctor_impl_Ctor_impl_Ctor [(.cell 0 2), (.cell 1 2), (.x 5)] false) (
   .jump [(.x 6)])))
   (.jump [(.c (.v (.bool false)))])))
  (.jump [(.c (.v (.bool false)))]))) (
.ret [(.x 3)])))

theorem T.impl_SameProg_2_l : leftF Try.prog [] FL Try.f58 = some (3, T.impl_SameProg_2) := by kernel_rfl

theorem T.impl_SameProg_2_con {args : List AV} {res : AV} (hl : args.length = 3) (hn : AV.norefs args = true) (hw : wpT Try.prog (fun _ _ _ => False) (fun a => a = res) T.impl_SameProg_2 args []) : PCon Try.prog F.impl_SameProg_2 args res :=
  con_auto Try.func58 T.impl_SameProg_2_l hl hn hw

def T.slices_Equal__string_string : T :=
.op (.lenL (.x 0)) (
.op (.lenL (.x 1)) (
.op (.bin .neq (.x 2) (.x 3)) (
.ite (.x 4)
 (.ret [(.c (.v (.bool false)))])
 (.bind 0 (
  .op (.lenL (.x 0)) (
  .loop [(.c (.v (.int .i64 0)))] (
   .op (.bin .lss (.x 6) (.x 5)) (
   .ite (.x 7)
    (.op (.elem 1 (.x 0) (.x 6)) (
    .chk (.lt (.x 8) 0) (
    .op (.elem 1 (.x 1) (.x 6)) (
    .chk (.lt (.x 9) 0) (
    .op (.bin .neq (.cell 8 0) (.cell 9 0)) (
    .ite (.x 10)
     (.esc (.esc (.ret [(.c (.v (.bool false)))])))
     (.op (.bin .add (.x 6) (.c (.v (.int .i64 1)))) (
     .jump [(.x 11)]))))))))
    (.esc (.jump [])))))) (
 .ret [(.c (.v (.bool true)))])))))

theorem T.slices_Equal__string_string_l : leftF Try.prog [] FL Try.f59 = some (2, T.slices_Equal__string_string) := by kernel_rfl

theorem T.slices_Equal__string_string_con {args : List AV} {res : AV} (hl : args.length = 2) (hn : AV.norefs args = true) (hw : wpT Try.prog (fun _ _ _ => False) (fun a => a = res) T.slices_Equal__string_string args []) : PCon Try.prog F.slices_Equal__string_string args res :=
  con_auto Try.func59 T.slices_Equal__string_string_l hl hn hw

def T.slices_EqualFunc__impl_Ctor__impl_Ctor_impl_Ctor_impl_Ctor : T :=
.op (.lenL (.x 0)) (
.op (.lenL (.x 1)) (
.op (.bin .neq (.x 3) (.x 4)) (
.ite (.x 5)
 (.ret [(.c (.v (.bool false)))])
 (.bind 0 (
  .op (.lenL (.x 0)) (
  .loop [(.c (.v (.int .i64 0)))] (
   .op (.bin .lss (.x 7) (.x 6)) (
   .ite (.x 8)
    (.op (.elem 7 (.x 0) (.x 7)) (
    .chk (.cells (.x 9) 7) (
    .chk (.cells (.x 9) 7) (
    .op (.elem 7 (.x 1) (.x 7)) (
    .chk (.cells (.x 10) 7) (
    .chk (.cells (.x 10) 7) (
    .chk (.cells (.x 9) 7) (
    .chk (.cells (.x 10) 7) (
    .op (.callv (.x 2) [(.x 9), (.x 10)] false) (
    .op (.un .not (.x 11)) (
    .ite (.x 12)
     (.esc (.esc (.ret [(.c (.v (.bool false)))])))
     (.op (.bin .add (.x 7) (.c (.v (.int .i64 1)))) (
     .jump [(.x 13)])))))))))))))
    (.esc (.jump [])))))) (
 .ret [(.c (.v (.bool true)))])))))

theorem T.slices_EqualFunc__impl_Ctor__impl_Ctor_impl_Ctor_impl_Ctor_l : leftF Try.prog [] FL Try.f60 = some (3, T.slices_EqualFunc__impl_Ctor__impl_Ctor_impl_Ctor_impl_Ctor) := by kernel_rfl

theorem T.slices_EqualFunc__impl_Ctor__impl_Ctor_impl_Ctor_impl_Ctor_con {args : List AV} {res : AV} (hl : args.length = 3) (hn : AV.norefs args = true) (hw : wpT Try.prog (fun _ _ _ => False) (fun a => a = res) T.slices_EqualFunc__impl_Ctor__impl_Ctor_impl_Ctor_impl_Ctor args []) : PCon Try.prog F.slices_EqualFunc__impl_Ctor__impl_Ctor_impl_Ctor_impl_Ctor args res :=
  con_auto Try.func60 T.slices_EqualFunc__impl_Ctor__impl_Ctor_impl_Ctor_impl_Ctor_l hl hn hw

def T.slices_EqualFunc__impl_Data__impl_Data_impl_Data_impl_Data : T :=
.op (.lenL (.x 0)) (
.op (.lenL (.x 1)) (
.op (.bin .neq (.x 3) (.x 4)) (
.ite (.x 5)
 (.ret [(.c (.v (.bool false)))])
 (.bind 0 (
  .op (.lenL (.x 0)) (
  .loop [(.c (.v (.int .i64 0)))] (
   .op (.bin .lss (.x 7) (.x 6)) (
   .ite (.x 8)
    (.op (.elem 4 (.x 0) (.x 7)) (
    .chk (.cells (.x 9) 4) (
    .chk (.cells (.x 9) 4) (
    .op (.elem 4 (.x 1) (.x 7)) (
    .chk (.cells (.x 10) 4) (
    .chk (.cells (.x 10) 4) (
    .chk (.cells (.x 9) 4) (
    .chk (.cells (.x 10) 4) (
    .op (.callv (.x 2) [(.x 9), (.x 10)] false) (
    .op (.un .not (.x 11)) (
    .ite (.x 12)
     (.esc (.esc (.ret [(.c (.v (.bool false)))])))
     (.op (.bin .add (.x 7) (.c (.v (.int .i64 1)))) (
     .jump [(.x 13)])))))))))))))
    (.esc (.jump [])))))) (
 .ret [(.c (.v (.bool true)))])))))

theorem T.slices_EqualFunc__impl_Data__impl_Data_impl_Data_impl_Data_l : leftF Try.prog [] FL Try.f61 = some (3, T.slices_EqualFunc__impl_Data__impl_Data_impl_Data_impl_Data) := by kernel_rfl

theorem T.slices_EqualFunc__impl_Data__impl_Data_impl_Data_impl_Data_con {args : List AV} {res : AV} (hl : args.length = 3) (hn : AV.norefs args = true) (hw : wpT Try.prog (fun _ _ _ => False) (fun a => a = res) T.slices_EqualFunc__impl_Data__impl_Data_impl_Data_impl_Data args []) : PCon Try.prog F.slices_EqualFunc__impl_Data__impl_Data_impl_Data_impl_Data args res :=
  con_auto Try.func61 T.slices_EqualFunc__impl_Data__impl_Data_impl_Data_impl_Data_l hl hn hw

def T.impl_sameExp : T :=
.chk (.cells (.x 0) 7) (
.chk (.cells (.x 1) 7) (
.bind 1 (
 .op (.bin .eql (.cell 0 0) (.cell 1 0)) (
 .ite (.x 2)
  (.op (.bin .eql (.cell 0 1) (.cell 1 1)) (
  .ite (.x 3)
   (.op (.bin .eql (.cell 0 2) (.cell 1 2)) (
   .ite (.x 4)
    (.op (.bin .eql (.cell 0 3) (.cell 1 3)) (
    .ite (.x 5)
     (.op (.call F.slices_EqualFunc__impl_Exp__impl_Exp_impl_Exp_impl_Exp [(.cell 0 5), (.cell 1 5), (.c (.fn F.impl_sameExp []))] false) (
     .ite (.x 6)
      (.op (.call F.slices_EqualFunc__impl_Arm__impl_Arm_impl_Arm_impl_Arm [(.cell 0 6), (.cell 1 6), (.c (.fn F.impl_sameExp_1 []))] false) (
      .jump [(.x 7)]))
      (.jump [(.c (.v (.bool false)))])))
     (.jump [(.c (.v (.bool false)))])))
    (.jump [(.c (.v (.bool false)))])))
   (.jump [(.c (.v (.bool false)))])))
  (.jump [(.c (.v (.bool false)))]))) (
.ret [(.x 2)])))

theorem T.impl_sameExp_l : leftF Try.prog [] FL Try.f62 = some (2, T.impl_sameExp) := by kernel_rfl

theorem T.impl_sameExp_con {args : List AV} {res : AV} (hl : args.length = 2) (hn : AV.norefs args = true) (hw : wpT Try.prog (fun _ _ _ => False) (fun a => a = res) T.impl_sameExp args []) : PCon Try.prog F.impl_sameExp args res :=
  con_auto Try.func62 T.impl_sameExp_l hl hn hw

def T.laws_eqDataS : T :=
.op (.lenL (.x 0)) (
.op (.lenL (.x 1)) (
.op (.bin .neq (.x 2) (.x 3)) (
.ite (.x 4)
 (.ret [(.c (.v (.bool false)))])
 (.bind 0 (
  .loop [(.c (.v (.int .i64 0)))] (
   .op (.lenL (.x 0)) (
   .op (.bin .lss (.x 5) (.x 6)) (
   .ite (.x 7)
    (.op (.elem 4 (.x 0) (.x 5)) (
    .chk (.cells (.x 8) 4) (
    .op (.elem 4 (.x 1) (.x 5)) (
    .chk (.cells (.x 9) 4) (
    .op (.call F.laws_eqData [(.x 8), (.x 9)] false) (
    .op (.un .not (.x 10)) (
    .ite (.x 11)
     (.esc (.esc (.ret [(.c (.v (.bool false)))])))
     (.op (.bin .add (.x 5) (.c (.v (.int .i64 1)))) (
     .jump [(.x 12)])))))))))
    (.esc (.jump [])))))) (
 .ret [(.c (.v (.bool true)))])))))

theorem T.laws_eqDataS_l : leftF Try.prog [] FL Try.f63 = some (2, T.laws_eqDataS) := by kernel_rfl

theorem T.laws_eqDataS_con {args : List AV} {res : AV} (hl : args.length = 2) (hn : AV.norefs args = true) (hw : wpT Try.prog (fun _ _ _ => False) (fun a => a = res) T.laws_eqDataS args []) : PCon Try.prog F.laws_eqDataS args res :=
  con_auto Try.func63 T.laws_eqDataS_l hl hn hw

-- spec_l19Same: no walk
-- impl_alpha: no walk
def T.spec_l1Low : T :=
.bind 1 (
 .op (.call F.spec_l1Name [(.x 0), (.c (.v (.bool false)))] false) (
 .ite (.x 1)
  (.op (.call F.spec_l1Key [(.x 0)] false) (
  .op (.un .not (.x 2)) (
  .jump [(.x 3)])))
  (.jump [(.c (.v (.bool false)))]))) (
.ret [(.x 1)])

theorem T.spec_l1Low_l : leftF Try.prog [] FL Try.f66 = some (1, T.spec_l1Low) := by kernel_rfl

theorem T.spec_l1Low_con {args : List AV} {res : AV} (hl : args.length = 1) (hn : AV.norefs args = true) (hw : wpT Try.prog (fun _ _ _ => False) (fun a => a = res) T.spec_l1Low args []) : PCon Try.prog F.spec_l1Low args res :=
  con_auto Try.func66 T.spec_l1Low_l hl hn hw

def T.spec_l1Name : T :=
.bind 0 (
 .bind 1 (
  .op (.lenS (.x 0)) (
  .op (.call F.spec_l1In [(.x 2), (.c (.v (.int .i64 1))), (.c (.v (.int .i64 12)))] false) (
  .op (.un .not (.x 3)) (
  .ite (.x 4)
   (.jump [(.c (.v (.bool true)))])
   (.op (.idxS (.x 0) (.c (.v (.int .i64 0)))) (
   .op (.conv .i64 (.x 5)) (
   .op (.call F.spec_l1Upper [(.x 6)] false) (
   .op (.beq true (.x 1) (.x 7)) (
   .ite (.x 8)
    (.jump [(.c (.v (.bool true)))])
    (.op (.un .not (.x 1)) (
    .ite (.x 9)
     (.op (.idxS (.x 0) (.c (.v (.int .i64 0)))) (
     .op (.conv .i64 (.x 10)) (
     .op (.call F.spec_l1Lower [(.x 11)] false) (
     .op (.un .not (.x 12)) (
     .jump [(.x 13)])))))
     (.jump [(.c (.v (.bool false)))])))))))))))) (
 .ite (.x 2)
  (.esc (.ret [(.c (.v (.bool false)))]))
  (.jump []))) (
.bind 0 (
 .loop [(.c (.v (.int .i64 0)))] (
  .op (.lenS (.x 0)) (
  .op (.bin .lss (.x 2) (.x 3)) (
  .ite (.x 4)
   (.op (.idxS (.x 0) (.x 2)) (
   .op (.conv .i64 (.x 5)) (
   .op (.call F.spec_l1NameByte [(.x 6)] false) (
   .op (.un .not (.x 7)) (
   .ite (.x 8)
    (.esc (.esc (.ret [(.c (.v (.bool false)))])))
    (.op (.bin .add (.x 2) (.c (.v (.int .i64 1)))) (
    .jump [(.x 9)])))))))
   (.esc (.jump [])))))) (
.ret [(.c (.v (.bool true)))]))

theorem T.spec_l1Name_l : leftF Try.prog [] FL Try.f67 = some (2, T.spec_l1Name) := by kernel_rfl

theorem T.spec_l1Name_con {args : List AV} {res : AV} (hl : args.length = 2) (hn : AV.norefs args = true) (hw : wpT Try.prog (fun _ _ _ => False) (fun a => a = res) T.spec_l1Name args []) : PCon Try.prog F.spec_l1Name args res :=
  con_auto Try.func67 T.spec_l1Name_l hl hn hw

def T.spec_l2TypeOk : T :=
.chk (.cells (.x 0) 4) (
.op (.lenL (.cell 0 3)) (
.op (.bin .geq (.cell 0 2) (.c (.v (.int .i64 0)))) (
.bind 1 (
 .op (.bin .eql (.cell 0 0) (.c (.v (.int .i64 1)))) (
 .ite (.x 3)
  (.ite (.x 2)
   (.op (.call F.spec_l1Low [(.cell 0 1)] false) (
   .jump [(.x 4)]))
   (.jump [(.c (.v (.bool false)))]))
  (.op (.bin .eql (.cell 0 0) (.c (.v (.int .i64 2)))) (
  .ite (.x 4)
   (.ite (.x 2)
    (.op (.call F.spec_l1Name [(.cell 0 1), (.c (.v (.bool false)))] false) (
    .ite (.x 5)
     (.op (.bin .eql (.x 1) (.c (.v (.int .i64 0)))) (
     .jump [(.x 6)]))
     (.jump [(.c (.v (.bool false)))])))
    (.jump [(.c (.v (.bool false)))]))
   (.op (.bin .eql (.cell 0 0) (.c (.v (.int .i64 3)))) (
   .ite (.x 5)
    (.ite (.x 2)
     (.op (.bin .eql (.cell 0 1) (.c (.v (.string ⟨#[]⟩)))) (
     .ite (.x 6)
      (.op (.bin .eql (.x 1) (.c (.v (.int .i64 2)))) (
      .jump [(.x 7)]))
      (.jump [(.c (.v (.bool false)))])))
     (.jump [(.c (.v (.bool false)))]))
    (.op (.bin .eql (.cell 0 0) (.c (.v (.int .i64 4)))) (
    .ite (.x 6)
     (.ite (.x 2)
      (.op (.bin .eql (.cell 0 1) (.c (.v (.string ⟨#[]⟩)))) (
      .ite (.x 7)
       (.op (.bin .geq (.x 1) (.c (.v (.int .i64 2)))) (
       .jump [(.x 8)]))
       (.jump [(.c (.v (.bool false)))])))
      (.jump [(.c (.v (.bool false)))]))
     (.op (.bin .eql (.cell 0 0) (.c (.v (.int .i64 5)))) (
     .ite (.x 7)
      (.ite (.x 2)
       (.op (.bin .eql (.cell 0 1) (.c (.v (.string ⟨#[]⟩)))) (
       .ite (.x 8)
        (.op (.bin .eql (.x 1) (.c (.v (.int .i64 1)))) (
        .jump [(.x 9)]))
        (.jump [(.c (.v (.bool false)))])))
       (.jump [(.c (.v (.bool false)))]))
      (.esc (.ret [(.c (.v (.bool false)))])))))))))))) (
.bind 1 (
 .loop [(.x 3), (.c (.v (.int .i64 0)))] (
  .bind 0 (
   .bind 1 (
    .op (.bin .lss (.x 5) (.x 1)) (
    .ite (.x 6)
     (.jump [(.x 4)])
     (.jump [(.c (.v (.bool false)))]))) (
   .ite (.x 6)
    (.jump [])
    (.esc (.esc (.jump [(.x 4)]))))) (
  .op (.elem 4 (.cell 0 3) (.x 5)) (
  .chk (.cells (.x 6) 4) (
  .op (.call F.spec_l2TypeOk [(.x 6)] false) (
  .op (.bin .add (.x 5) (.c (.v (.int .i64 1)))) (
  .jump [(.x 7), (.x 8)]))))))) (
.ret [(.x 4)])))))

theorem T.spec_l2TypeOk_l : leftF Try.prog [] FL Try.f68 = some (1, T.spec_l2TypeOk) := by kernel_rfl

theorem T.spec_l2TypeOk_con {args : List AV} {res : AV} (hl : args.length = 1) (hn : AV.norefs args = true) (hw : wpT Try.prog (fun _ _ _ => False) (fun a => a = res) T.spec_l2TypeOk args []) : PCon Try.prog F.spec_l2TypeOk args res :=
  con_auto Try.func68 T.spec_l2TypeOk_l hl hn hw

def T.spec_l2NoType : T :=
.chk (.cells (.x 0) 4) (
.bind 1 (
 .op (.bin .eql (.cell 0 0) (.c (.v (.int .i64 0)))) (
 .ite (.x 1)
  (.op (.bin .eql (.cell 0 1) (.c (.v (.string ⟨#[]⟩)))) (
  .ite (.x 2)
   (.op (.bin .eql (.cell 0 2) (.c (.v (.int .i64 0)))) (
   .ite (.x 3)
    (.op (.lenL (.cell 0 3)) (
    .op (.bin .eql (.x 4) (.c (.v (.int .i64 0)))) (
    .jump [(.x 5)])))
    (.jump [(.c (.v (.bool false)))])))
   (.jump [(.c (.v (.bool false)))])))
  (.jump [(.c (.v (.bool false)))]))) (
.ret [(.x 1)]))

theorem T.spec_l2NoType_l : leftF Try.prog [] FL Try.f69 = some (1, T.spec_l2NoType) := by kernel_rfl

theorem T.spec_l2NoType_con {args : List AV} {res : AV} (hl : args.length = 1) (hn : AV.norefs args = true) (hw : wpT Try.prog (fun _ _ _ => False) (fun a => a = res) T.spec_l2NoType args []) : PCon Try.prog F.spec_l2NoType args res :=
  con_auto Try.func69 T.spec_l2NoType_l hl hn hw

def T.slices_ContainsFunc__impl_Data_impl_Data : T :=
.op (.call F.slices_IndexFunc__impl_Data_impl_Data [(.x 0), (.x 1)] false) (
.op (.bin .geq (.x 2) (.c (.v (.int .i64 0)))) (
.ret [(.x 3)]))

theorem T.slices_ContainsFunc__impl_Data_impl_Data_l : leftF Try.prog [] FL Try.f70 = some (2, T.slices_ContainsFunc__impl_Data_impl_Data) := by kernel_rfl

theorem T.slices_ContainsFunc__impl_Data_impl_Data_con {args : List AV} {res : AV} (hl : args.length = 2) (hn : AV.norefs args = true) (hw : wpT Try.prog (fun _ _ _ => False) (fun a => a = res) T.slices_ContainsFunc__impl_Data_impl_Data args []) : PCon Try.prog F.slices_ContainsFunc__impl_Data_impl_Data args res :=
  con_auto Try.func70 T.slices_ContainsFunc__impl_Data_impl_Data_l hl hn hw

def T.impl_ProgOk_1 : T :=
.chk (.cells (.x 0) 4) (
.chk (.cells (.x 0) 4) (
.op (.call F.impl_dataOk [(.x 0)] false) (
.op (.un .not (.x 1)) (
.ret [(.x 2)]))))

theorem T.impl_ProgOk_1_l : leftF Try.prog [] FL Try.f71 = some (1, T.impl_ProgOk_1) := by kernel_rfl

theorem T.impl_ProgOk_1_con {args : List AV} {res : AV} (hl : args.length = 1) (hn : AV.norefs args = true) (hw : wpT Try.prog (fun _ _ _ => False) (fun a => a = res) T.impl_ProgOk_1 args []) : PCon Try.prog F.impl_ProgOk_1 args res :=
  con_auto Try.func71 T.impl_ProgOk_1_l hl hn hw

def T.impl_dataOk : T :=
.chk (.cells (.x 0) 4) (
.bind 0 (
 .op (.lenL (.cell 0 2)) (
 .loop [(.c (.v (.int .i64 0)))] (
  .op (.bin .lss (.x 2) (.x 1)) (
  .ite (.x 3)
   (.bind 7 (
    .op (.elem 7 (.cell 0 2) (.x 2)) (
    .chk (.cells (.x 4) 7) (
    .chk (.cells (.x 4) 7) (
    .bind 1 (
     .op (.call F.impl_upOk [(.cell 4 0)] false) (
     .op (.un .not (.x 5)) (
     .ite (.x 6)
      (.jump [(.c (.v (.bool true)))])
      (.op (.bin .lss (.cell 4 6) (.c (.v (.int .i64 0)))) (
      .ite (.x 7)
       (.jump [(.c (.v (.bool true)))])
       (.ite (.cell 4 1)
        (.op (.call F.impl_typeOk [(.agg [(.cell 4 2), (.cell 4 3), (.cell 4 4), (.cell 4 5)])] false) (
        .op (.un .not (.x 8)) (
        .ite (.x 9)
         (.jump [(.c (.v (.bool true)))])
         (.op (.un .not (.cell 4 1)) (
         .ite (.x 10)
          (.op (.call F.impl_emptyType [(.agg [(.cell 4 2), (.cell 4 3), (.cell 4 4), (.cell 4 5)])] false) (
          .op (.un .not (.x 11)) (
          .jump [(.x 12)])))
          (.jump [(.c (.v (.bool false)))]))))))
        (.op (.un .not (.cell 4 1)) (
        .ite (.x 8)
         (.op (.call F.impl_emptyType [(.agg [(.cell 4 2), (.cell 4 3), (.cell 4 4), (.cell 4 5)])] false) (
         .op (.un .not (.x 9)) (
         .jump [(.x 10)])))
         (.jump [(.c (.v (.bool false)))]))))))))) (
    .ite (.x 5)
     (.esc (.esc (.esc (.ret [(.c (.v (.bool false)))]))))
     (.jump [(.cell 4 0), (.cell 4 1), (.cell 4 2), (.cell 4 3), (.cell 4 4), (.cell 4 5), (.cell 4 6)])))))) (
   .op (.bin .add (.x 2) (.c (.v (.int .i64 1)))) (
   .jump [(.x 11)])))
   (.esc (.jump [])))))) (
.bind 1 (
 .op (.call F.impl_lowOk [(.cell 0 0)] false) (
 .ite (.x 1)
  (.op (.bin .geq (.cell 0 3) (.c (.v (.int .i64 0)))) (
  .ite (.x 2)
   (.op (.lenL (.cell 0 2)) (
   .op (.bin .gtr (.x 3) (.c (.v (.int .i64 0)))) (
   .ite (.x 4)
    (.op (.call F.slices_ContainsFunc__string_string [(.cell 0 1), (.c (.fn F.impl_dataOk_1 []))] false) (
    .op (.un .not (.x 5)) (
    .jump [(.x 6)])))
    (.jump [(.c (.v (.bool false)))]))))
   (.jump [(.c (.v (.bool false)))])))
  (.jump [(.c (.v (.bool false)))]))) (
.ret [(.x 1)])))

theorem T.impl_dataOk_l : leftF Try.prog [] FL Try.f72 = some (1, T.impl_dataOk) := by kernel_rfl

theorem T.impl_dataOk_con {args : List AV} {res : AV} (hl : args.length = 1) (hn : AV.norefs args = true) (hw : wpT Try.prog (fun _ _ _ => False) (fun a => a = res) T.impl_dataOk args []) : PCon Try.prog F.impl_dataOk args res :=
  con_auto Try.func72 T.impl_dataOk_l hl hn hw

def T.laws_szInstr : T :=
.chk (.cells (.x 0) 6) (
.op (.lenS (.cell 0 5)) (
.op (.bin .sub (.x 1) (.x 2)) (
.op (.bin .lss (.x 3) (.c (.v (.int .i64 0)))) (
.ite (.x 4)
 (.ret [(.c (.v (.int .i64 (-1))))])
 (.ret [(.x 3)])))))

theorem T.laws_szInstr_l : leftF Try.prog [] FL Try.f73 = some (2, T.laws_szInstr) := by kernel_rfl

theorem T.laws_szInstr_con {args : List AV} {res : AV} (hl : args.length = 2) (hn : AV.norefs args = true) (hw : wpT Try.prog (fun _ _ _ => False) (fun a => a = res) T.laws_szInstr args []) : PCon Try.prog F.laws_szInstr args res :=
  con_auto Try.func73 T.laws_szInstr_l hl hn hw

def T.spec_l14Reg : T :=
.op (.call F.spec_l1In [(.x 0), (.c (.v (.int .i64 0))), (.c (.v (.int .i64 15)))] false) (
.ret [(.x 1)])

theorem T.spec_l14Reg_l : leftF Try.prog [] FL Try.f74 = some (1, T.spec_l14Reg) := by kernel_rfl

theorem T.spec_l14Reg_con {args : List AV} {res : AV} (hl : args.length = 1) (hn : AV.norefs args = true) (hw : wpT Try.prog (fun _ _ _ => False) (fun a => a = res) T.spec_l14Reg args []) : PCon Try.prog F.spec_l14Reg args res :=
  con_auto Try.func74 T.spec_l14Reg_l hl hn hw

def T.spec_l14Zero : T :=
.chk (.cells (.x 0) 6) (
.chk (.one (.c (.v (.bool false)))) (
.chk (.one (.c (.v (.bool false)))) (
.chk (.one (.c (.v (.bool false)))) (
.chk (.one (.c (.v (.bool false)))) (
.chk (.one (.c (.v (.bool false)))) (
.op (.mkl (.v (.bool false)) 5 [(0, (.c (.v (.bool false)))), (1, (.c (.v (.bool false)))), (2, (.c (.v (.bool false)))), (3, (.c (.v (.bool false)))), (4, (.c (.v (.bool false))))]) (
.bind 1 (
 .loop [(.x 2), (.c (.v (.int .i64 0)))] (
  .op (.lenS (.x 1)) (
  .op (.bin .lss (.x 4) (.x 5)) (
  .ite (.x 6)
   (.bind 1 (
    .loop [(.x 3), (.c (.v (.int .i64 0)))] (
     .op (.bin .lss (.x 8) (.c (.v (.int .i64 5)))) (
     .ite (.x 9)
      (.bind 1 (
       .op (.idxS (.x 1) (.x 4)) (
       .op (.idxS (.c (.v (.string ⟨#[97, 98, 99, 110, 116]⟩))) (.x 8)) (
       .op (.bin .eql (.x 10) (.x 11)) (
       .ite (.x 12)
        (.chk (.idx (.x 7) (.x 8)) (
        .chk (.one (.c (.v (.bool true)))) (
        .op (.set (.x 7) (.x 8) 0 1 (.c (.v (.bool true)))) (
        .jump [(.x 13)]))))
        (.jump [(.x 7)]))))) (
      .op (.bin .add (.x 8) (.c (.v (.int .i64 1)))) (
      .jump [(.x 10), (.x 11)])))
      (.esc (.jump [(.x 7)]))))) (
   .op (.bin .add (.x 4) (.c (.v (.int .i64 1)))) (
   .jump [(.x 7), (.x 8)])))
   (.esc (.jump [(.x 3)])))))) (
.bind 1 (
 .chk (.idx (.x 3) (.c (.v (.int .i64 0)))) (
 .op (.get (.x 3) (.c (.v (.int .i64 0))) 0 none) (
 .ite (.x 4)
  (.chk (.idx (.x 3) (.c (.v (.int .i64 1)))) (
  .op (.get (.x 3) (.c (.v (.int .i64 1))) 0 none) (
  .ite (.x 5)
   (.chk (.idx (.x 3) (.c (.v (.int .i64 2)))) (
   .op (.get (.x 3) (.c (.v (.int .i64 2))) 0 none) (
   .ite (.x 6)
    (.chk (.idx (.x 3) (.c (.v (.int .i64 3)))) (
    .op (.get (.x 3) (.c (.v (.int .i64 3))) 0 none) (
    .ite (.x 7)
     (.chk (.idx (.x 3) (.c (.v (.int .i64 4)))) (
     .op (.get (.x 3) (.c (.v (.int .i64 4))) 0 none) (
     .ite (.x 8)
      (.jump [(.c (.v (.bool true)))])
      (.op (.bin .eql (.cell 0 5) (.c (.v (.string ⟨#[]⟩)))) (
      .jump [(.x 9)])))))
     (.op (.bin .eql (.cell 0 4) (.c (.v (.int .i64 0)))) (
     .ite (.x 8)
      (.chk (.idx (.x 3) (.c (.v (.int .i64 4)))) (
      .op (.get (.x 3) (.c (.v (.int .i64 4))) 0 none) (
      .ite (.x 9)
       (.jump [(.c (.v (.bool true)))])
       (.op (.bin .eql (.cell 0 5) (.c (.v (.string ⟨#[]⟩)))) (
       .jump [(.x 10)])))))
      (.jump [(.c (.v (.bool false)))]))))))
    (.op (.bin .eql (.cell 0 3) (.c (.v (.int .i64 0)))) (
    .ite (.x 7)
     (.chk (.idx (.x 3) (.c (.v (.int .i64 3)))) (
     .op (.get (.x 3) (.c (.v (.int .i64 3))) 0 none) (
     .ite (.x 8)
      (.chk (.idx (.x 3) (.c (.v (.int .i64 4)))) (
      .op (.get (.x 3) (.c (.v (.int .i64 4))) 0 none) (
      .ite (.x 9)
       (.jump [(.c (.v (.bool true)))])
       (.op (.bin .eql (.cell 0 5) (.c (.v (.string ⟨#[]⟩)))) (
       .jump [(.x 10)])))))
      (.op (.bin .eql (.cell 0 4) (.c (.v (.int .i64 0)))) (
      .ite (.x 9)
       (.chk (.idx (.x 3) (.c (.v (.int .i64 4)))) (
       .op (.get (.x 3) (.c (.v (.int .i64 4))) 0 none) (
       .ite (.x 10)
        (.jump [(.c (.v (.bool true)))])
        (.op (.bin .eql (.cell 0 5) (.c (.v (.string ⟨#[]⟩)))) (
        .jump [(.x 11)])))))
       (.jump [(.c (.v (.bool false)))]))))))
     (.jump [(.c (.v (.bool false)))]))))))
   (.op (.bin .eql (.cell 0 2) (.c (.v (.int .i64 0)))) (
   .ite (.x 6)
    (.chk (.idx (.x 3) (.c (.v (.int .i64 2)))) (
    .op (.get (.x 3) (.c (.v (.int .i64 2))) 0 none) (
    .ite (.x 7)
     (.chk (.idx (.x 3) (.c (.v (.int .i64 3)))) (
     .op (.get (.x 3) (.c (.v (.int .i64 3))) 0 none) (
     .ite (.x 8)
      (.chk (.idx (.x 3) (.c (.v (.int .i64 4)))) (
      .op (.get (.x 3) (.c (.v (.int .i64 4))) 0 none) (
      .ite (.x 9)
       (.jump [(.c (.v (.bool true)))])
       (.op (.bin .eql (.cell 0 5) (.c (.v (.string ⟨#[]⟩)))) (
       .jump [(.x 10)])))))
      (.op (.bin .eql (.cell 0 4) (.c (.v (.int .i64 0)))) (
      .ite (.x 9)
       (.chk (.idx (.x 3) (.c (.v (.int .i64 4)))) (
       .op (.get (.x 3) (.c (.v (.int .i64 4))) 0 none) (
       .ite (.x 10)
        (.jump [(.c (.v (.bool true)))])
        (.op (.bin .eql (.cell 0 5) (.c (.v (.string ⟨#[]⟩)))) (
        .jump [(.x 11)])))))
       (.jump [(.c (.v (.bool false)))]))))))
     (.op (.bin .eql (.cell 0 3) (.c (.v (.int .i64 0)))) (
     .ite (.x 8)
      (.chk (.idx (.x 3) (.c (.v (.int .i64 3)))) (
      .op (.get (.x 3) (.c (.v (.int .i64 3))) 0 none) (
      .ite (.x 9)
       (.chk (.idx (.x 3) (.c (.v (.int .i64 4)))) (
       .op (.get (.x 3) (.c (.v (.int .i64 4))) 0 none) (
       .ite (.x 10)
        (.jump [(.c (.v (.bool true)))])
        (.op (.bin .eql (.cell 0 5) (.c (.v (.string ⟨#[]⟩)))) (
        .jump [(.x 11)])))))
       (.op (.bin .eql (.cell 0 4) (.c (.v (.int .i64 0)))) (
       .ite (.x 10)
        (.chk (.idx (.x 3) (.c (.v (.int .i64 4)))) (
        .op (.get (.x 3) (.c (.v (.int .i64 4))) 0 none) (
        .ite (.x 11)
         (.jump [(.c (.v (.bool true)))])
         (.op (.bin .eql (.cell 0 5) (.c (.v (.string ⟨#[]⟩)))) (
         .jump [(.x 12)])))))
        (.jump [(.c (.v (.bool false)))]))))))
      (.jump [(.c (.v (.bool false)))]))))))
    (.jump [(.c (.v (.bool false)))]))))))
  (.op (.bin .eql (.cell 0 1) (.c (.v (.int .i64 0)))) (
  .ite (.x 5)
   (.chk (.idx (.x 3) (.c (.v (.int .i64 1)))) (
   .op (.get (.x 3) (.c (.v (.int .i64 1))) 0 none) (
   .ite (.x 6)
    (.chk (.idx (.x 3) (.c (.v (.int .i64 2)))) (
    .op (.get (.x 3) (.c (.v (.int .i64 2))) 0 none) (
    .ite (.x 7)
     (.chk (.idx (.x 3) (.c (.v (.int .i64 3)))) (
     .op (.get (.x 3) (.c (.v (.int .i64 3))) 0 none) (
     .ite (.x 8)
      (.chk (.idx (.x 3) (.c (.v (.int .i64 4)))) (
      .op (.get (.x 3) (.c (.v (.int .i64 4))) 0 none) (
      .ite (.x 9)
       (.jump [(.c (.v (.bool true)))])
       (.op (.bin .eql (.cell 0 5) (.c (.v (.string ⟨#[]⟩)))) (
       .jump [(.x 10)])))))
      (.op (.bin .eql (.cell 0 4) (.c (.v (.int .i64 0)))) (
      .ite (.x 9)
       (.chk (.idx (.x 3) (.c (.v (.int .i64 4)))) (
       .op (.get (.x 3) (.c (.v (.int .i64 4))) 0 none) (
       .ite (.x 10)
        (.jump [(.c (.v (.bool true)))])
        (.op (.bin .eql (.cell 0 5) (.c (.v (.string ⟨#[]⟩)))) (
        .jump [(.x 11)])))))
       (.jump [(.c (.v (.bool false)))]))))))
     (.op (.bin .eql (.cell 0 3) (.c (.v (.int .i64 0)))) (
     .ite (.x 8)
      (.chk (.idx (.x 3) (.c (.v (.int .i64 3)))) (
      .op (.get (.x 3) (.c (.v (.int .i64 3))) 0 none) (
      .ite (.x 9)
       (.chk (.idx (.x 3) (.c (.v (.int .i64 4)))) (
       .op (.get (.x 3) (.c (.v (.int .i64 4))) 0 none) (
       .ite (.x 10)
        (.jump [(.c (.v (.bool true)))])
        (.op (.bin .eql (.cell 0 5) (.c (.v (.string ⟨#[]⟩)))) (
        .jump [(.x 11)])))))
       (.op (.bin .eql (.cell 0 4) (.c (.v (.int .i64 0)))) (
       .ite (.x 10)
        (.chk (.idx (.x 3) (.c (.v (.int .i64 4)))) (
        .op (.get (.x 3) (.c (.v (.int .i64 4))) 0 none) (
        .ite (.x 11)
         (.jump [(.c (.v (.bool true)))])
         (.op (.bin .eql (.cell 0 5) (.c (.v (.string ⟨#[]⟩)))) (
         .jump [(.x 12)])))))
        (.jump [(.c (.v (.bool false)))]))))))
      (.jump [(.c (.v (.bool false)))]))))))
    (.op (.bin .eql (.cell 0 2) (.c (.v (.int .i64 0)))) (
    .ite (.x 7)
     (.chk (.idx (.x 3) (.c (.v (.int .i64 2)))) (
     .op (.get (.x 3) (.c (.v (.int .i64 2))) 0 none) (
     .ite (.x 8)
      (.chk (.idx (.x 3) (.c (.v (.int .i64 3)))) (
      .op (.get (.x 3) (.c (.v (.int .i64 3))) 0 none) (
      .ite (.x 9)
       (.chk (.idx (.x 3) (.c (.v (.int .i64 4)))) (
       .op (.get (.x 3) (.c (.v (.int .i64 4))) 0 none) (
       .ite (.x 10)
        (.jump [(.c (.v (.bool true)))])
        (.op (.bin .eql (.cell 0 5) (.c (.v (.string ⟨#[]⟩)))) (
        .jump [(.x 11)])))))
       (.op (.bin .eql (.cell 0 4) (.c (.v (.int .i64 0)))) (
       .ite (.x 10)
        (.chk (.idx (.x 3) (.c (.v (.int .i64 4)))) (
        .op (.get (.x 3) (.c (.v (.int .i64 4))) 0 none) (
        .ite (.x 11)
         (.jump [(.c (.v (.bool true)))])
         (.op (.bin .eql (.cell 0 5) (.c (.v (.string ⟨#[]⟩)))) (
         .jump [(.x 12)])))))
        (.jump [(.c (.v (.bool false)))]))))))
      (.op (.bin .eql (.cell 0 3) (.c (.v (.int .i64 0)))) (
      .ite (.x 9)
       (.chk (.idx (.x 3) (.c (.v (.int .i64 3)))) (
       .op (.get (.x 3) (.c (.v (.int .i64 3))) 0 none) (
       .ite (.x 10)
        (.chk (.idx (.x 3) (.c (.v (.int .i64 4)))) (
        .op (.get (.x 3) (.c (.v (.int .i64 4))) 0 none) (
        .ite (.x 11)
         (.jump [(.c (.v (.bool true)))])
         (.op (.bin .eql (.cell 0 5) (.c (.v (.string ⟨#[]⟩)))) (
         .jump [(.x 12)])))))
        (.op (.bin .eql (.cell 0 4) (.c (.v (.int .i64 0)))) (
        .ite (.x 11)
         (.chk (.idx (.x 3) (.c (.v (.int .i64 4)))) (
         .op (.get (.x 3) (.c (.v (.int .i64 4))) 0 none) (
         .ite (.x 12)
          (.jump [(.c (.v (.bool true)))])
          (.op (.bin .eql (.cell 0 5) (.c (.v (.string ⟨#[]⟩)))) (
          .jump [(.x 13)])))))
         (.jump [(.c (.v (.bool false)))]))))))
       (.jump [(.c (.v (.bool false)))]))))))
     (.jump [(.c (.v (.bool false)))]))))))
   (.jump [(.c (.v (.bool false)))])))))) (
.ret [(.x 4)])))))))))

theorem T.spec_l14Zero_l : leftF Try.prog [] FL Try.f75 = some (2, T.spec_l14Zero) := by kernel_rfl

theorem T.spec_l14Zero_con {args : List AV} {res : AV} (hl : args.length = 2) (hn : AV.norefs args = true) (hw : wpT Try.prog (fun _ _ _ => False) (fun a => a = res) T.spec_l14Zero args []) : PCon Try.prog F.spec_l14Zero args res :=
  con_auto Try.func75 T.spec_l14Zero_l hl hn hw

def T.spec_l1Chars : T :=
.bind 0 (
 .loop [(.c (.v (.int .i64 0)))] (
  .op (.lenS (.x 0)) (
  .op (.bin .lss (.x 1) (.x 2)) (
  .ite (.x 3)
   (.bind 0 (
    .bind 1 (
     .op (.idxS (.x 0) (.x 1)) (
     .op (.bin .neq (.x 4) (.c (.v (.int .u8 10)))) (
     .ite (.x 5)
      (.op (.idxS (.x 0) (.x 1)) (
      .op (.conv .i64 (.x 6)) (
      .op (.call F.spec_l1In [(.x 7), (.c (.v (.int .i64 32))), (.c (.v (.int .i64 126)))] false) (
      .op (.un .not (.x 8)) (
      .jump [(.x 9)])))))
      (.jump [(.c (.v (.bool false)))])))) (
    .ite (.x 4)
     (.esc (.esc (.esc (.ret [(.c (.v (.bool false)))]))))
     (.jump []))) (
   .op (.bin .add (.x 1) (.c (.v (.int .i64 1)))) (
   .jump [(.x 4)])))
   (.esc (.jump [])))))) (
.ret [(.c (.v (.bool true)))])

theorem T.spec_l1Chars_l : leftF Try.prog [] FL Try.f76 = some (1, T.spec_l1Chars) := by kernel_rfl

theorem T.spec_l1Chars_con {args : List AV} {res : AV} (hl : args.length = 1) (hn : AV.norefs args = true) (hw : wpT Try.prog (fun _ _ _ => False) (fun a => a = res) T.spec_l1Chars args []) : PCon Try.prog F.spec_l1Chars args res :=
  con_auto Try.func76 T.spec_l1Chars_l hl hn hw

def T.spec_l14Op : T :=
.chk (.cells (.x 0) 6) (
.bind 0 (
 .bind 1 (
  .op (.bin .eql (.cell 0 5) (.c (.v (.string ⟨#[43]⟩)))) (
  .ite (.x 1)
   (.jump [(.x 1)])
   (.op (.bin .eql (.cell 0 5) (.c (.v (.string ⟨#[45]⟩)))) (
   .ite (.x 2)
    (.jump [(.x 2)])
    (.op (.bin .eql (.cell 0 5) (.c (.v (.string ⟨#[42]⟩)))) (
    .ite (.x 3)
     (.jump [(.x 3)])
     (.op (.bin .eql (.cell 0 5) (.c (.v (.string ⟨#[61]⟩)))) (
     .ite (.x 4)
      (.jump [(.x 4)])
      (.op (.bin .eql (.cell 0 5) (.c (.v (.string ⟨#[60]⟩)))) (
      .ite (.x 5)
       (.jump [(.x 5)])
       (.op (.bin .eql (.cell 0 5) (.c (.v (.string ⟨#[94]⟩)))) (
       .jump [(.x 6)])))))))))))) (
 .ite (.x 1)
  (.chk (.cells (.x 0) 6) (
  .op (.call F.spec_l14Zero [(.x 0), (.c (.v (.string ⟨#[97, 98, 99, 116]⟩)))] false) (
  .esc (.ret [(.x 2)]))))
  (.op (.bin .eql (.cell 0 5) (.c (.v (.string ⟨#[115, 105, 122, 101]⟩)))) (
  .ite (.x 2)
   (.chk (.cells (.x 0) 6) (
   .op (.call F.spec_l14Zero [(.x 0), (.c (.v (.string ⟨#[97, 98, 116]⟩)))] false) (
   .esc (.ret [(.x 3)]))))
   (.op (.bin .eql (.cell 0 5) (.c (.v (.string ⟨#[114, 101, 97, 100]⟩)))) (
   .ite (.x 3)
    (.chk (.cells (.x 0) 6) (
    .op (.call F.spec_l14Zero [(.x 0), (.c (.v (.string ⟨#[97, 116]⟩)))] false) (
    .esc (.ret [(.x 4)]))))
    (.op (.bin .eql (.cell 0 5) (.c (.v (.string ⟨#[112, 114, 105, 110, 116]⟩)))) (
    .ite (.x 4)
     (.chk (.cells (.x 0) 6) (
     .op (.call F.spec_l14Zero [(.x 0), (.c (.v (.string ⟨#[98, 116]⟩)))] false) (
     .esc (.ret [(.x 5)]))))
     (.jump []))))))))) (
.ret [(.c (.v (.bool false)))]))

theorem T.spec_l14Op_l : leftF Try.prog [] FL Try.f77 = some (1, T.spec_l14Op) := by kernel_rfl

theorem T.spec_l14Op_con {args : List AV} {res : AV} (hl : args.length = 1) (hn : AV.norefs args = true) (hw : wpT Try.prog (fun _ _ _ => False) (fun a => a = res) T.spec_l14Op args []) : PCon Try.prog F.spec_l14Op args res :=
  con_auto Try.func77 T.spec_l14Op_l hl hn hw

def T.laws_toInstr : T :=
.chk (.cells (.x 0) 6) (
.chk (.one (.cell 0 0)) (
.chk (.one (.cell 0 1)) (
.chk (.one (.cell 0 2)) (
.chk (.one (.cell 0 3)) (
.chk (.one (.cell 0 4)) (
.chk (.one (.cell 0 5)) (
.chk (.cells (.x 0) 6) (
.chk (.cells (.x 0) 6) (
.ret [(.agg [(.cell 0 0), (.cell 0 1), (.cell 0 2), (.cell 0 3), (.cell 0 4), (.cell 0 5)])])))))))))

theorem T.laws_toInstr_l : leftF Try.prog [] FL Try.f78 = some (1, T.laws_toInstr) := by kernel_rfl

theorem T.laws_toInstr_con {args : List AV} {res : AV} (hl : args.length = 1) (hn : AV.norefs args = true) (hw : wpT Try.prog (fun _ _ _ => False) (fun a => a = res) T.laws_toInstr args []) : PCon Try.prog F.laws_toInstr args res :=
  con_auto Try.func78 T.laws_toInstr_l hl hn hw

def T.slices_IndexFunc__impl_Instr_impl_Instr : T :=
.bind 0 (
 .op (.lenL (.x 0)) (
 .loop [(.c (.v (.int .i64 0)))] (
  .op (.bin .lss (.x 3) (.x 2)) (
  .ite (.x 4)
   (.op (.elem 6 (.x 0) (.x 3)) (
   .chk (.cells (.x 5) 6) (
   .op (.callv (.x 1) [(.x 5)] false) (
   .ite (.x 6)
    (.esc (.esc (.ret [(.x 3)])))
    (.op (.bin .add (.x 3) (.c (.v (.int .i64 1)))) (
    .jump [(.x 7)]))))))
   (.esc (.jump [])))))) (
.ret [(.c (.v (.int .i64 (-1))))])

theorem T.slices_IndexFunc__impl_Instr_impl_Instr_l : leftF Try.prog [] FL Try.f79 = some (2, T.slices_IndexFunc__impl_Instr_impl_Instr) := by kernel_rfl

theorem T.slices_IndexFunc__impl_Instr_impl_Instr_con {args : List AV} {res : AV} (hl : args.length = 2) (hn : AV.norefs args = true) (hw : wpT Try.prog (fun _ _ _ => False) (fun a => a = res) T.slices_IndexFunc__impl_Instr_impl_Instr args []) : PCon Try.prog F.slices_IndexFunc__impl_Instr_impl_Instr args res :=
  con_auto Try.func79 T.slices_IndexFunc__impl_Instr_impl_Instr_l hl hn hw

def T.impl_wants : T :=
.chk (.cells (.x 0) 6) (
.bind 0 (
 .bind 1 (
  .op (.bin .eql (.cell 0 0) (.c (.v (.int .i64 1)))) (
  .ite (.x 1)
   (.jump [(.x 1)])
   (.op (.bin .eql (.cell 0 0) (.c (.v (.int .i64 3)))) (
   .ite (.x 2)
    (.jump [(.x 2)])
    (.op (.bin .eql (.cell 0 0) (.c (.v (.int .i64 5)))) (
    .ite (.x 3)
     (.jump [(.x 3)])
     (.op (.bin .eql (.cell 0 0) (.c (.v (.int .i64 6)))) (
     .ite (.x 4)
      (.jump [(.x 4)])
      (.op (.bin .eql (.cell 0 0) (.c (.v (.int .i64 8)))) (
      .ite (.x 5)
       (.jump [(.x 5)])
       (.op (.bin .eql (.cell 0 0) (.c (.v (.int .i64 11)))) (
       .jump [(.x 6)])))))))))))) (
 .ite (.x 1)
  (.esc (.ret [(.c (.v (.string ⟨#[97, 110]⟩))), (.c (.v (.bool true)))]))
  (.op (.bin .eql (.cell 0 0) (.c (.v (.int .i64 2)))) (
  .ite (.x 2)
   (.esc (.ret [(.c (.v (.string ⟨#[97, 116]⟩))), (.c (.v (.bool true)))]))
   (.op (.bin .eql (.cell 0 0) (.c (.v (.int .i64 4)))) (
   .ite (.x 3)
    (.esc (.ret [(.c (.v (.string ⟨#[97, 98]⟩))), (.c (.v (.bool true)))]))
    (.op (.bin .eql (.cell 0 0) (.c (.v (.int .i64 7)))) (
    .ite (.x 4)
     (.bind 1 (
      .op (.bin .eql (.cell 0 5) (.c (.v (.string ⟨#[43]⟩)))) (
      .ite (.x 5)
       (.jump [(.x 5)])
       (.op (.bin .eql (.cell 0 5) (.c (.v (.string ⟨#[45]⟩)))) (
       .ite (.x 6)
        (.jump [(.x 6)])
        (.op (.bin .eql (.cell 0 5) (.c (.v (.string ⟨#[42]⟩)))) (
        .ite (.x 7)
         (.jump [(.x 7)])
         (.op (.bin .eql (.cell 0 5) (.c (.v (.string ⟨#[61]⟩)))) (
         .ite (.x 8)
          (.jump [(.x 8)])
          (.op (.bin .eql (.cell 0 5) (.c (.v (.string ⟨#[60]⟩)))) (
          .ite (.x 9)
           (.jump [(.x 9)])
           (.op (.bin .eql (.cell 0 5) (.c (.v (.string ⟨#[94]⟩)))) (
           .jump [(.x 10)])))))))))))) (
     .ite (.x 5)
      (.esc (.ret [(.c (.v (.string ⟨#[97, 98, 99, 116]⟩))), (.c (.v (.bool true)))]))
      (.op (.bin .eql (.cell 0 5) (.c (.v (.string ⟨#[115, 105, 122, 101]⟩)))) (
      .ite (.x 6)
       (.esc (.ret [(.c (.v (.string ⟨#[97, 98, 116]⟩))), (.c (.v (.bool true)))]))
       (.op (.bin .eql (.cell 0 5) (.c (.v (.string ⟨#[114, 101, 97, 100]⟩)))) (
       .ite (.x 7)
        (.esc (.ret [(.c (.v (.string ⟨#[97, 116]⟩))), (.c (.v (.bool true)))]))
        (.op (.bin .eql (.cell 0 5) (.c (.v (.string ⟨#[112, 114, 105, 110, 116]⟩)))) (
        .ite (.x 8)
         (.esc (.ret [(.c (.v (.string ⟨#[98, 116]⟩))), (.c (.v (.bool true)))]))
         (.jump [])))))))))
     (.bind 1 (
      .op (.bin .eql (.cell 0 0) (.c (.v (.int .i64 9)))) (
      .ite (.x 5)
       (.jump [(.x 5)])
       (.op (.bin .eql (.cell 0 0) (.c (.v (.int .i64 10)))) (
       .jump [(.x 6)])))) (
     .ite (.x 5)
      (.esc (.ret [(.c (.v (.string ⟨#[97, 98, 110]⟩))), (.c (.v (.bool true)))]))
      (.bind 1 (
       .op (.bin .eql (.cell 0 0) (.c (.v (.int .i64 12)))) (
       .ite (.x 6)
        (.jump [(.x 6)])
        (.op (.bin .eql (.cell 0 0) (.c (.v (.int .i64 15)))) (
        .jump [(.x 7)])))) (
      .ite (.x 6)
       (.esc (.ret [(.c (.v (.string ⟨#[110]⟩))), (.c (.v (.bool true)))]))
       (.bind 1 (
        .op (.bin .eql (.cell 0 0) (.c (.v (.int .i64 13)))) (
        .ite (.x 7)
         (.jump [(.x 7)])
         (.op (.bin .eql (.cell 0 0) (.c (.v (.int .i64 14)))) (
         .jump [(.x 8)])))) (
       .ite (.x 7)
        (.esc (.ret [(.c (.v (.string ⟨#[97]⟩))), (.c (.v (.bool true)))]))
        (.jump []))))))))))))))) (
.ret [(.c (.v (.string ⟨#[]⟩))), (.c (.v (.bool false)))]))

theorem T.impl_wants_l : leftF Try.prog [] FL Try.f80 = some (1, T.impl_wants) := by kernel_rfl

theorem T.impl_wants_con {args : List AV} {res : AV} (hl : args.length = 1) (hn : AV.norefs args = true) (hw : wpT Try.prog (fun _ _ _ => False) (fun a => a = res) T.impl_wants args []) : PCon Try.prog F.impl_wants args res :=
  con_auto Try.func80 T.impl_wants_l hl hn hw

def T.impl_instrOk_1 : T :=
.op (.ldp none (.x 1)) (
.op (.call F.strings_Contains [(.x 2), (.x 0)] false) (
.ret [(.x 3)]))

theorem T.impl_instrOk_1_l : leftF Try.prog [] FL Try.f81 = some (2, T.impl_instrOk_1) := by kernel_rfl

theorem T.impl_instrOk_1_con {args : List AV} {res : AV} (hl : args.length = 2) (hn : AV.norefs args = true) (hw : wpT Try.prog (fun _ _ _ => False) (fun a => a = res) T.impl_instrOk_1 args []) : PCon Try.prog F.impl_instrOk_1 args res :=
  con_auto Try.func81 T.impl_instrOk_1_l hl hn hw

def T.strings_Contains : T :=
.op (.call F.strings_Index [(.x 0), (.x 1)] false) (
.op (.bin .geq (.x 2) (.c (.v (.int .i64 0)))) (
.ret [(.x 3)]))

theorem T.strings_Contains_l : leftF Try.prog [] FL Try.f82 = some (2, T.strings_Contains) := by kernel_rfl

theorem T.strings_Contains_con {args : List AV} {res : AV} (hl : args.length = 2) (hn : AV.norefs args = true) (hw : wpT Try.prog (fun _ _ _ => False) (fun a => a = res) T.strings_Contains args []) : PCon Try.prog F.strings_Contains args res :=
  con_auto Try.func82 T.strings_Contains_l hl hn hw

def T.impl_instrOk_2 : T :=
.bind 1 (
 .op (.ldp none (.x 2)) (
 .op (.callv (.x 3) [(.x 0)] false) (
 .ite (.x 4)
  (.op (.call F.impl_within [(.x 1), (.c (.v (.int .i64 0))), (.c (.v (.int .i64 15)))] false) (
  .ite (.x 5)
   (.jump [(.c (.v (.bool true)))])
   (.op (.bin .eql (.x 1) (.c (.v (.int .i64 0)))) (
   .jump [(.x 6)]))))
  (.op (.bin .eql (.x 1) (.c (.v (.int .i64 0)))) (
  .jump [(.x 5)]))))) (
.ret [(.x 3)])

theorem T.impl_instrOk_2_l : leftF Try.prog [] FL Try.f83 = some (3, T.impl_instrOk_2) := by kernel_rfl

theorem T.impl_instrOk_2_con {args : List AV} {res : AV} (hl : args.length = 3) (hn : AV.norefs args = true) (hw : wpT Try.prog (fun _ _ _ => False) (fun a => a = res) T.impl_instrOk_2 args []) : PCon Try.prog F.impl_instrOk_2 args res :=
  con_auto Try.func83 T.impl_instrOk_2_l hl hn hw

def T.impl_plain : T :=
.bind 0 (
 .loop [(.c (.v (.int .i64 0)))] (
  .op (.lenS (.x 0)) (
  .op (.bin .lss (.x 1) (.x 2)) (
  .ite (.x 3)
   (.bind 0 (
    .bind 1 (
     .op (.idxS (.x 0) (.x 1)) (
     .op (.conv .i64 (.x 4)) (
     .op (.call F.impl_within [(.x 5), (.c (.v (.int .i64 32))), (.c (.v (.int .i64 126)))] false) (
     .op (.un .not (.x 6)) (
     .ite (.x 7)
      (.op (.idxS (.x 0) (.x 1)) (
      .op (.bin .neq (.x 8) (.c (.v (.int .u8 10)))) (
      .jump [(.x 9)])))
      (.jump [(.c (.v (.bool false)))])))))) (
    .ite (.x 4)
     (.esc (.esc (.esc (.ret [(.c (.v (.bool false)))]))))
     (.jump []))) (
   .op (.bin .add (.x 1) (.c (.v (.int .i64 1)))) (
   .jump [(.x 4)])))
   (.esc (.jump [])))))) (
.ret [(.c (.v (.bool true)))])

theorem T.impl_plain_l : leftF Try.prog [] FL Try.f84 = some (1, T.impl_plain) := by kernel_rfl

theorem T.impl_plain_con {args : List AV} {res : AV} (hl : args.length = 1) (hn : AV.norefs args = true) (hw : wpT Try.prog (fun _ _ _ => False) (fun a => a = res) T.impl_plain args []) : PCon Try.prog F.impl_plain args res :=
  con_auto Try.func84 T.impl_plain_l hl hn hw

def T.slices_IndexFunc__int_int : T :=
.bind 0 (
 .op (.lenL (.x 0)) (
 .loop [(.c (.v (.int .i64 0)))] (
  .op (.bin .lss (.x 3) (.x 2)) (
  .ite (.x 4)
   (.op (.elem 1 (.x 0) (.x 3)) (
   .chk (.lt (.x 5) 0) (
   .op (.callv (.x 1) [(.cell 5 0)] false) (
   .ite (.x 6)
    (.esc (.esc (.ret [(.x 3)])))
    (.op (.bin .add (.x 3) (.c (.v (.int .i64 1)))) (
    .jump [(.x 7)]))))))
   (.esc (.jump [])))))) (
.ret [(.c (.v (.int .i64 (-1))))])

theorem T.slices_IndexFunc__int_int_l : leftF Try.prog [] FL Try.f85 = some (2, T.slices_IndexFunc__int_int) := by kernel_rfl

theorem T.slices_IndexFunc__int_int_con {args : List AV} {res : AV} (hl : args.length = 2) (hn : AV.norefs args = true) (hw : wpT Try.prog (fun _ _ _ => False) (fun a => a = res) T.slices_IndexFunc__int_int args []) : PCon Try.prog F.slices_IndexFunc__int_int args res :=
  con_auto Try.func85 T.slices_IndexFunc__int_int_l hl hn hw

def T.laws_eqInstr : T :=
.chk (.cells (.x 0) 6) (
.chk (.cells (.x 1) 6) (
.op (.bin .neq (.cell 0 0) (.cell 1 0)) (
.ite (.x 2)
 (.ret [(.c (.v (.bool false)))])
 (.op (.bin .neq (.cell 0 1) (.cell 1 1)) (
 .ite (.x 3)
  (.ret [(.c (.v (.bool false)))])
  (.op (.bin .neq (.cell 0 2) (.cell 1 2)) (
  .ite (.x 4)
   (.ret [(.c (.v (.bool false)))])
   (.op (.bin .neq (.cell 0 3) (.cell 1 3)) (
   .ite (.x 5)
    (.ret [(.c (.v (.bool false)))])
    (.op (.bin .neq (.cell 0 4) (.cell 1 4)) (
    .ite (.x 6)
     (.ret [(.c (.v (.bool false)))])
     (.op (.bin .neq (.cell 0 5) (.cell 1 5)) (
     .ite (.x 7)
      (.ret [(.c (.v (.bool false)))])
      (.ret [(.c (.v (.bool true)))]))))))))))))))

theorem T.laws_eqInstr_l : leftF Try.prog [] FL Try.f86 = some (2, T.laws_eqInstr) := by kernel_rfl

theorem T.laws_eqInstr_con {args : List AV} {res : AV} (hl : args.length = 2) (hn : AV.norefs args = true) (hw : wpT Try.prog (fun _ _ _ => False) (fun a => a = res) T.laws_eqInstr args []) : PCon Try.prog F.laws_eqInstr args res :=
  con_auto Try.func86 T.laws_eqInstr_l hl hn hw

def T.laws_szArm : T :=
.chk (.cells (.x 0) 12) (
.op (.call F.laws_szPat [(.agg [(.cell 0 0), (.cell 0 1), (.cell 0 2), (.cell 0 3), (.cell 0 4)]), (.x 1)] false) (
.op (.bin .lss (.x 2) (.c (.v (.int .i64 0)))) (
.ite (.x 3)
 (.ret [(.c (.v (.int .i64 (-1))))])
 (.op (.call F.laws_szExp [(.agg [(.cell 0 5), (.cell 0 6), (.cell 0 7), (.cell 0 8), (.cell 0 9), (.cell 0 10), (.cell 0 11)]), (.x 2)] false) (
 .op (.bin .lss (.x 4) (.c (.v (.int .i64 0)))) (
 .ite (.x 5)
  (.ret [(.c (.v (.int .i64 (-1))))])
  (.ret [(.x 4)])))))))

theorem T.laws_szArm_l : leftF Try.prog [] FL Try.f87 = some (2, T.laws_szArm) := by kernel_rfl

theorem T.laws_szArm_con {args : List AV} {res : AV} (hl : args.length = 2) (hn : AV.norefs args = true) (hw : wpT Try.prog (fun _ _ _ => False) (fun a => a = res) T.laws_szArm args []) : PCon Try.prog F.laws_szArm args res :=
  con_auto Try.func87 T.laws_szArm_l hl hn hw

def T.spec_l2Plain : T :=
.chk (.cells (.x 0) 7) (
.bind 3 (
 .loop [(.c (.v (.bool false))), (.c (.v (.bool false))), (.c (.v (.bool false))), (.c (.v (.int .i64 0)))] (
  .op (.lenS (.x 1)) (
  .op (.bin .lss (.x 5) (.x 6)) (
  .ite (.x 7)
   (.bind 3 (
    .bind 1 (
     .ite (.x 2)
      (.jump [(.c (.v (.bool true)))])
      (.op (.idxS (.x 1) (.x 5)) (
      .op (.bin .eql (.x 8) (.c (.v (.int .u8 110)))) (
      .jump [(.x 9)])))) (
    .bind 1 (
     .ite (.x 3)
      (.jump [(.c (.v (.bool true)))])
      (.op (.idxS (.x 1) (.x 5)) (
      .op (.bin .eql (.x 9) (.c (.v (.int .u8 117)))) (
      .jump [(.x 10)])))) (
    .ite (.x 4)
     (.jump [(.x 8), (.x 9), (.c (.v (.bool true)))])
     (.op (.idxS (.x 1) (.x 5)) (
     .op (.bin .eql (.x 10) (.c (.v (.int .u8 116)))) (
     .jump [(.x 8), (.x 9), (.x 11)])))))) (
   .op (.bin .add (.x 5) (.c (.v (.int .i64 1)))) (
   .jump [(.x 8), (.x 9), (.x 10), (.x 11)])))
   (.esc (.jump [(.x 2), (.x 3), (.x 4)])))))) (
.bind 1 (
 .op (.bin .geq (.cell 0 4) (.c (.v (.int .i64 0)))) (
 .ite (.x 5)
  (.ite (.x 2)
   (.ite (.x 3)
    (.ite (.x 4)
     (.op (.bin .eql (.cell 0 0) (.c (.v (.int .i64 13)))) (
     .ite (.x 6)
      (.jump [(.c (.v (.bool true)))])
      (.op (.lenL (.cell 0 6)) (
      .op (.bin .eql (.x 7) (.c (.v (.int .i64 0)))) (
      .jump [(.x 8)])))))
     (.op (.bin .eql (.cell 0 3) (.c (.v (.string ⟨#[]⟩)))) (
     .ite (.x 6)
      (.op (.bin .eql (.cell 0 0) (.c (.v (.int .i64 13)))) (
      .ite (.x 7)
       (.jump [(.c (.v (.bool true)))])
       (.op (.lenL (.cell 0 6)) (
       .op (.bin .eql (.x 8) (.c (.v (.int .i64 0)))) (
       .jump [(.x 9)])))))
      (.jump [(.c (.v (.bool false)))]))))
    (.op (.bin .eql (.cell 0 2) (.c (.v (.int .i64 0)))) (
    .ite (.x 6)
     (.ite (.x 4)
      (.op (.bin .eql (.cell 0 0) (.c (.v (.int .i64 13)))) (
      .ite (.x 7)
       (.jump [(.c (.v (.bool true)))])
       (.op (.lenL (.cell 0 6)) (
       .op (.bin .eql (.x 8) (.c (.v (.int .i64 0)))) (
       .jump [(.x 9)])))))
      (.op (.bin .eql (.cell 0 3) (.c (.v (.string ⟨#[]⟩)))) (
      .ite (.x 7)
       (.op (.bin .eql (.cell 0 0) (.c (.v (.int .i64 13)))) (
       .ite (.x 8)
        (.jump [(.c (.v (.bool true)))])
        (.op (.lenL (.cell 0 6)) (
        .op (.bin .eql (.x 9) (.c (.v (.int .i64 0)))) (
        .jump [(.x 10)])))))
       (.jump [(.c (.v (.bool false)))]))))
     (.jump [(.c (.v (.bool false)))]))))
   (.op (.bin .eql (.cell 0 1) (.c (.v (.string ⟨#[]⟩)))) (
   .ite (.x 6)
    (.ite (.x 3)
     (.ite (.x 4)
      (.op (.bin .eql (.cell 0 0) (.c (.v (.int .i64 13)))) (
      .ite (.x 7)
       (.jump [(.c (.v (.bool true)))])
       (.op (.lenL (.cell 0 6)) (
       .op (.bin .eql (.x 8) (.c (.v (.int .i64 0)))) (
       .jump [(.x 9)])))))
      (.op (.bin .eql (.cell 0 3) (.c (.v (.string ⟨#[]⟩)))) (
      .ite (.x 7)
       (.op (.bin .eql (.cell 0 0) (.c (.v (.int .i64 13)))) (
       .ite (.x 8)
        (.jump [(.c (.v (.bool true)))])
        (.op (.lenL (.cell 0 6)) (
        .op (.bin .eql (.x 9) (.c (.v (.int .i64 0)))) (
        .jump [(.x 10)])))))
       (.jump [(.c (.v (.bool false)))]))))
     (.op (.bin .eql (.cell 0 2) (.c (.v (.int .i64 0)))) (
     .ite (.x 7)
      (.ite (.x 4)
       (.op (.bin .eql (.cell 0 0) (.c (.v (.int .i64 13)))) (
       .ite (.x 8)
        (.jump [(.c (.v (.bool true)))])
        (.op (.lenL (.cell 0 6)) (
        .op (.bin .eql (.x 9) (.c (.v (.int .i64 0)))) (
        .jump [(.x 10)])))))
       (.op (.bin .eql (.cell 0 3) (.c (.v (.string ⟨#[]⟩)))) (
       .ite (.x 8)
        (.op (.bin .eql (.cell 0 0) (.c (.v (.int .i64 13)))) (
        .ite (.x 9)
         (.jump [(.c (.v (.bool true)))])
         (.op (.lenL (.cell 0 6)) (
         .op (.bin .eql (.x 10) (.c (.v (.int .i64 0)))) (
         .jump [(.x 11)])))))
        (.jump [(.c (.v (.bool false)))]))))
      (.jump [(.c (.v (.bool false)))]))))
    (.jump [(.c (.v (.bool false)))]))))
  (.jump [(.c (.v (.bool false)))]))) (
.ret [(.x 5)])))

theorem T.spec_l2Plain_l : leftF Try.prog [] FL Try.f88 = some (2, T.spec_l2Plain) := by kernel_rfl

theorem T.spec_l2Plain_con {args : List AV} {res : AV} (hl : args.length = 2) (hn : AV.norefs args = true) (hw : wpT Try.prog (fun _ _ _ => False) (fun a => a = res) T.spec_l2Plain args []) : PCon Try.prog F.spec_l2Plain args res :=
  con_auto Try.func88 T.spec_l2Plain_l hl hn hw

def T.spec_l2Op : T :=
.bind 1 (
 .op (.bin .eql (.x 0) (.c (.v (.string ⟨#[43]⟩)))) (
 .ite (.x 1)
  (.jump [(.c (.v (.bool true)))])
  (.op (.bin .eql (.x 0) (.c (.v (.string ⟨#[45]⟩)))) (
  .ite (.x 2)
   (.jump [(.c (.v (.bool true)))])
   (.op (.bin .eql (.x 0) (.c (.v (.string ⟨#[42]⟩)))) (
   .ite (.x 3)
    (.jump [(.c (.v (.bool true)))])
    (.op (.bin .eql (.x 0) (.c (.v (.string ⟨#[94]⟩)))) (
    .ite (.x 4)
     (.jump [(.c (.v (.bool true)))])
     (.op (.bin .eql (.x 0) (.c (.v (.string ⟨#[61]⟩)))) (
     .ite (.x 5)
      (.jump [(.c (.v (.bool true)))])
      (.op (.bin .eql (.x 0) (.c (.v (.string ⟨#[60]⟩)))) (
      .ite (.x 6)
       (.jump [(.c (.v (.bool true)))])
       (.op (.bin .eql (.x 0) (.c (.v (.string ⟨#[58, 61]⟩)))) (
       .jump [(.x 7)])))))))))))))) (
.ret [(.x 1)])

theorem T.spec_l2Op_l : leftF Try.prog [] FL Try.f89 = some (1, T.spec_l2Op) := by kernel_rfl

theorem T.spec_l2Op_con {args : List AV} {res : AV} (hl : args.length = 1) (hn : AV.norefs args = true) (hw : wpT Try.prog (fun _ _ _ => False) (fun a => a = res) T.spec_l2Op args []) : PCon Try.prog F.spec_l2Op args res :=
  con_auto Try.func89 T.spec_l2Op_l hl hn hw

def T.spec_l2Prim : T :=
.bind 1 (
 .op (.bin .eql (.x 0) (.c (.v (.string ⟨#[112, 114, 105, 110, 116]⟩)))) (
 .ite (.x 1)
  (.jump [(.c (.v (.bool true)))])
  (.op (.bin .eql (.x 0) (.c (.v (.string ⟨#[101, 120, 105, 116]⟩)))) (
  .ite (.x 2)
   (.jump [(.c (.v (.bool true)))])
   (.op (.bin .eql (.x 0) (.c (.v (.string ⟨#[115, 105, 122, 101]⟩)))) (
   .ite (.x 3)
    (.jump [(.c (.v (.bool true)))])
    (.op (.bin .eql (.x 0) (.c (.v (.string ⟨#[114, 101, 102]⟩)))) (
    .ite (.x 4)
     (.jump [(.c (.v (.bool true)))])
     (.op (.bin .eql (.x 0) (.c (.v (.string ⟨#[33]⟩)))) (
     .jump [(.x 5)])))))))))) (
.ret [(.x 1)])

theorem T.spec_l2Prim_l : leftF Try.prog [] FL Try.f90 = some (1, T.spec_l2Prim) := by kernel_rfl

theorem T.spec_l2Prim_con {args : List AV} {res : AV} (hl : args.length = 1) (hn : AV.norefs args = true) (hw : wpT Try.prog (fun _ _ _ => False) (fun a => a = res) T.spec_l2Prim args []) : PCon Try.prog F.spec_l2Prim args res :=
  con_auto Try.func90 T.spec_l2Prim_l hl hn hw

def T.laws_toArm : T :=
.chk (.cells (.x 0) 12) (
.op (.call F.laws_toPat [(.agg [(.cell 0 0), (.cell 0 1), (.cell 0 2), (.cell 0 3), (.cell 0 4)])] false) (
.chk (.cells (.x 1) 5) (
.op (.call F.laws_toExp [(.agg [(.cell 0 5), (.cell 0 6), (.cell 0 7), (.cell 0 8), (.cell 0 9), (.cell 0 10), (.cell 0 11)])] false) (
.chk (.cells (.x 2) 7) (
.chk (.cells (.agg [(.cell 1 0), (.cell 1 1), (.cell 1 2), (.cell 1 3), (.cell 1 4), (.cell 2 0), (.cell 2 1), (.cell 2 2), (.cell 2 3), (.cell 2 4), (.cell 2 5), (.cell 2 6)]) 12) (
.ret [(.agg [(.cell 1 0), (.cell 1 1), (.cell 1 2), (.cell 1 3), (.cell 1 4), (.cell 2 0), (.cell 2 1), (.cell 2 2), (.cell 2 3), (.cell 2 4), (.cell 2 5), (.cell 2 6)])]))))))

theorem T.laws_toArm_l : leftF Try.prog [] FL Try.f91 = some (1, T.laws_toArm) := by kernel_rfl

theorem T.laws_toArm_con {args : List AV} {res : AV} (hl : args.length = 1) (hn : AV.norefs args = true) (hw : wpT Try.prog (fun _ _ _ => False) (fun a => a = res) T.laws_toArm args []) : PCon Try.prog F.laws_toArm args res :=
  con_auto Try.func91 T.laws_toArm_l hl hn hw

def T.impl_lowOk : T :=
.bind 1 (
 .op (.call F.impl_isName [(.x 0), (.c (.fn F.impl_small []))] false) (
 .ite (.x 1)
  (.op (.call F.impl_isKey [(.x 0)] false) (
  .op (.un .not (.x 2)) (
  .jump [(.x 3)])))
  (.jump [(.c (.v (.bool false)))]))) (
.ret [(.x 1)])

theorem T.impl_lowOk_l : leftF Try.prog [] FL Try.f92 = some (1, T.impl_lowOk) := by kernel_rfl

theorem T.impl_lowOk_con {args : List AV} {res : AV} (hl : args.length = 1) (hn : AV.norefs args = true) (hw : wpT Try.prog (fun _ _ _ => False) (fun a => a = res) T.impl_lowOk args []) : PCon Try.prog F.impl_lowOk args res :=
  con_auto Try.func92 T.impl_lowOk_l hl hn hw

def T.impl_upOk : T :=
.op (.call F.impl_isName [(.x 0), (.c (.fn F.impl_great []))] false) (
.ret [(.x 1)])

theorem T.impl_upOk_l : leftF Try.prog [] FL Try.f93 = some (1, T.impl_upOk) := by kernel_rfl

theorem T.impl_upOk_con {args : List AV} {res : AV} (hl : args.length = 1) (hn : AV.norefs args = true) (hw : wpT Try.prog (fun _ _ _ => False) (fun a => a = res) T.impl_upOk args []) : PCon Try.prog F.impl_upOk args res :=
  con_auto Try.func93 T.impl_upOk_l hl hn hw

def T.impl_binarySign : T :=
.chk (.one (.c (.v (.string ⟨#[43]⟩)))) (
.chk (.one (.c (.v (.string ⟨#[45]⟩)))) (
.chk (.one (.c (.v (.string ⟨#[42]⟩)))) (
.chk (.one (.c (.v (.string ⟨#[94]⟩)))) (
.chk (.one (.c (.v (.string ⟨#[61]⟩)))) (
.chk (.one (.c (.v (.string ⟨#[60]⟩)))) (
.chk (.one (.c (.v (.string ⟨#[58, 61]⟩)))) (
.op (.mkl (.v (.string ⟨#[]⟩)) 7 [(0, (.c (.v (.string ⟨#[43]⟩)))), (1, (.c (.v (.string ⟨#[45]⟩)))), (2, (.c (.v (.string ⟨#[42]⟩)))), (3, (.c (.v (.string ⟨#[94]⟩)))), (4, (.c (.v (.string ⟨#[61]⟩)))), (5, (.c (.v (.string ⟨#[60]⟩)))), (6, (.c (.v (.string ⟨#[58, 61]⟩))))]) (
.op (.call F.slices_Contains__string_string [(.sl (.x 1)), (.x 0)] true) (
.ret [(.x 2)])))))))))

theorem T.impl_binarySign_l : leftF Try.prog [] FL Try.f94 = some (1, T.impl_binarySign) := by kernel_rfl

theorem T.impl_binarySign_con {args : List AV} {res : AV} (hl : args.length = 1) (hn : AV.norefs args = true) (hw : wpT Try.prog (fun _ _ _ => False) (fun a => a = res) T.impl_binarySign args []) : PCon Try.prog F.impl_binarySign args res :=
  con_auto Try.func94 T.impl_binarySign_l hl hn hw

def T.impl_primArity : T :=
.bind 0 (
 .op (.bin .eql (.x 0) (.c (.v (.string ⟨#[114, 101, 97, 100]⟩)))) (
 .ite (.x 1)
  (.esc (.ret [(.c (.v (.int .i64 0)))]))
  (.bind 1 (
   .op (.bin .eql (.x 0) (.c (.v (.string ⟨#[112, 114, 105, 110, 116]⟩)))) (
   .ite (.x 2)
    (.jump [(.x 2)])
    (.op (.bin .eql (.x 0) (.c (.v (.string ⟨#[101, 120, 105, 116]⟩)))) (
    .ite (.x 3)
     (.jump [(.x 3)])
     (.op (.bin .eql (.x 0) (.c (.v (.string ⟨#[115, 105, 122, 101]⟩)))) (
     .ite (.x 4)
      (.jump [(.x 4)])
      (.op (.bin .eql (.x 0) (.c (.v (.string ⟨#[114, 101, 102]⟩)))) (
      .ite (.x 5)
       (.jump [(.x 5)])
       (.op (.bin .eql (.x 0) (.c (.v (.string ⟨#[33]⟩)))) (
       .jump [(.x 6)])))))))))) (
  .ite (.x 2)
   (.esc (.ret [(.c (.v (.int .i64 1)))]))
   (.jump []))))) (
.ret [(.c (.v (.int .i64 (-1))))])

theorem T.impl_primArity_l : leftF Try.prog [] FL Try.f95 = some (1, T.impl_primArity) := by kernel_rfl

theorem T.impl_primArity_con {args : List AV} {res : AV} (hl : args.length = 1) (hn : AV.norefs args = true) (hw : wpT Try.prog (fun _ _ _ => False) (fun a => a = res) T.impl_primArity args []) : PCon Try.prog F.impl_primArity args res :=
  con_auto Try.func95 T.impl_primArity_l hl hn hw

def T.slices_ContainsFunc__impl_Pat_impl_Pat : T :=
.op (.call F.slices_IndexFunc__impl_Pat_impl_Pat [(.x 0), (.x 1)] false) (
.op (.bin .geq (.x 2) (.c (.v (.int .i64 0)))) (
.ret [(.x 3)]))

theorem T.slices_ContainsFunc__impl_Pat_impl_Pat_l : leftF Try.prog [] FL Try.f96 = some (2, T.slices_ContainsFunc__impl_Pat_impl_Pat) := by kernel_rfl

theorem T.slices_ContainsFunc__impl_Pat_impl_Pat_con {args : List AV} {res : AV} (hl : args.length = 2) (hn : AV.norefs args = true) (hw : wpT Try.prog (fun _ _ _ => False) (fun a => a = res) T.slices_ContainsFunc__impl_Pat_impl_Pat args []) : PCon Try.prog F.slices_ContainsFunc__impl_Pat_impl_Pat args res :=
  con_auto Try.func96 T.slices_ContainsFunc__impl_Pat_impl_Pat_l hl hn hw

def T.impl_patOk_1 : T :=
.chk (.cells (.x 0) 5) (
.chk (.cells (.x 0) 5) (
.op (.call F.impl_patOk [(.x 0)] false) (
.op (.un .not (.x 1)) (
.ret [(.x 2)]))))

theorem T.impl_patOk_1_l : leftF Try.prog [] FL Try.f97 = some (1, T.impl_patOk_1) := by kernel_rfl

theorem T.impl_patOk_1_con {args : List AV} {res : AV} (hl : args.length = 1) (hn : AV.norefs args = true) (hw : wpT Try.prog (fun _ _ _ => False) (fun a => a = res) T.impl_patOk_1 args []) : PCon Try.prog F.impl_patOk_1 args res :=
  con_auto Try.func97 T.impl_patOk_1_l hl hn hw

def T.laws_eqArm : T :=
.chk (.cells (.x 0) 12) (
.chk (.cells (.x 1) 12) (
.op (.call F.laws_eqPat [(.agg [(.cell 0 0), (.cell 0 1), (.cell 0 2), (.cell 0 3), (.cell 0 4)]), (.agg [(.cell 1 0), (.cell 1 1), (.cell 1 2), (.cell 1 3), (.cell 1 4)])] false) (
.op (.un .not (.x 2)) (
.ite (.x 3)
 (.ret [(.c (.v (.bool false)))])
 (.op (.call F.laws_eqExp [(.agg [(.cell 0 5), (.cell 0 6), (.cell 0 7), (.cell 0 8), (.cell 0 9), (.cell 0 10), (.cell 0 11)]), (.agg [(.cell 1 5), (.cell 1 6), (.cell 1 7), (.cell 1 8), (.cell 1 9), (.cell 1 10), (.cell 1 11)])] false) (
 .op (.un .not (.x 4)) (
 .ite (.x 5)
  (.ret [(.c (.v (.bool false)))])
  (.ret [(.c (.v (.bool true)))]))))))))

theorem T.laws_eqArm_l : leftF Try.prog [] FL Try.f98 = some (2, T.laws_eqArm) := by kernel_rfl

theorem T.laws_eqArm_con {args : List AV} {res : AV} (hl : args.length = 2) (hn : AV.norefs args = true) (hw : wpT Try.prog (fun _ _ _ => False) (fun a => a = res) T.laws_eqArm args []) : PCon Try.prog F.laws_eqArm args res :=
  con_auto Try.func98 T.laws_eqArm_l hl hn hw

def T.laws_szData : T :=
.chk (.cells (.x 0) 4) (
.op (.lenS (.cell 0 0)) (
.op (.bin .sub (.x 1) (.x 2)) (
.op (.bin .lss (.x 3) (.c (.v (.int .i64 0)))) (
.ite (.x 4)
 (.ret [(.c (.v (.int .i64 (-1))))])
 (.op (.call F.laws_szStringS [(.cell 0 1), (.x 3)] false) (
 .op (.bin .lss (.x 5) (.c (.v (.int .i64 0)))) (
 .ite (.x 6)
  (.ret [(.c (.v (.int .i64 (-1))))])
  (.op (.call F.laws_szCtorS [(.cell 0 2), (.x 5)] false) (
  .op (.bin .lss (.x 7) (.c (.v (.int .i64 0)))) (
  .ite (.x 8)
   (.ret [(.c (.v (.int .i64 (-1))))])
   (.ret [(.x 7)])))))))))))

theorem T.laws_szData_l : leftF Try.prog [] FL Try.f99 = some (2, T.laws_szData) := by kernel_rfl

theorem T.laws_szData_con {args : List AV} {res : AV} (hl : args.length = 2) (hn : AV.norefs args = true) (hw : wpT Try.prog (fun _ _ _ => False) (fun a => a = res) T.laws_szData args []) : PCon Try.prog F.laws_szData args res :=
  con_auto Try.func99 T.laws_szData_l hl hn hw

def T.spec_l2SamePat : T :=
.chk (.cells (.x 0) 5) (
.chk (.cells (.x 1) 5) (
.bind 0 (
 .bind 1 (
  .op (.bin .neq (.cell 0 0) (.cell 1 0)) (
  .ite (.x 2)
   (.jump [(.c (.v (.bool true)))])
   (.op (.bin .neq (.cell 0 1) (.cell 1 1)) (
   .ite (.x 3)
    (.jump [(.c (.v (.bool true)))])
    (.op (.bin .neq (.cell 0 2) (.cell 1 2)) (
    .ite (.x 4)
     (.jump [(.c (.v (.bool true)))])
     (.op (.lenL (.cell 0 4)) (
     .op (.lenL (.cell 1 4)) (
     .op (.bin .neq (.x 5) (.x 6)) (
     .jump [(.x 7)])))))))))) (
 .ite (.x 2)
  (.esc (.ret [(.c (.v (.bool false)))]))
  (.jump []))) (
.bind 0 (
 .loop [(.c (.v (.int .i64 0)))] (
  .op (.lenL (.cell 0 4)) (
  .op (.bin .lss (.x 2) (.x 3)) (
  .ite (.x 4)
   (.op (.elem 5 (.cell 0 4) (.x 2)) (
   .chk (.cells (.x 5) 5) (
   .op (.elem 5 (.cell 1 4) (.x 2)) (
   .chk (.cells (.x 6) 5) (
   .op (.call F.spec_l2SamePat [(.x 5), (.x 6)] false) (
   .op (.un .not (.x 7)) (
   .ite (.x 8)
    (.esc (.esc (.ret [(.c (.v (.bool false)))])))
    (.op (.bin .add (.x 2) (.c (.v (.int .i64 1)))) (
    .jump [(.x 9)])))))))))
   (.esc (.jump [])))))) (
.ret [(.c (.v (.bool true)))]))))

theorem T.spec_l2SamePat_l : leftF Try.prog [] FL Try.f100 = some (2, T.spec_l2SamePat) := by kernel_rfl

theorem T.spec_l2SamePat_con {args : List AV} {res : AV} (hl : args.length = 2) (hn : AV.norefs args = true) (hw : wpT Try.prog (fun _ _ _ => False) (fun a => a = res) T.spec_l2SamePat args []) : PCon Try.prog F.spec_l2SamePat args res :=
  con_auto Try.func100 T.spec_l2SamePat_l hl hn hw

def T.laws_toData : T :=
.chk (.cells (.x 0) 4) (
.chk (.one (.cell 0 0)) (
.op (.call F.laws_toStringS [(.cell 0 1)] false) (
.chk (.one (.x 1)) (
.op (.call F.laws_toCtorS [(.cell 0 2)] false) (
.chk (.one (.x 2)) (
.chk (.one (.cell 0 3)) (
.chk (.cells (.agg [(.cell 0 0), (.x 1), (.x 2), (.cell 0 3)]) 4) (
.ret [(.agg [(.cell 0 0), (.x 1), (.x 2), (.cell 0 3)])]))))))))

theorem T.laws_toData_l : leftF Try.prog [] FL Try.f101 = some (1, T.laws_toData) := by kernel_rfl

theorem T.laws_toData_con {args : List AV} {res : AV} (hl : args.length = 1) (hn : AV.norefs args = true) (hw : wpT Try.prog (fun _ _ _ => False) (fun a => a = res) T.laws_toData args []) : PCon Try.prog F.laws_toData args res :=
  con_auto Try.func101 T.laws_toData_l hl hn hw

def T.slices_EqualFunc__impl_TypeExp__impl_TypeExp_impl_TypeExp_impl_TypeExp : T :=
.op (.lenL (.x 0)) (
.op (.lenL (.x 1)) (
.op (.bin .neq (.x 3) (.x 4)) (
.ite (.x 5)
 (.ret [(.c (.v (.bool false)))])
 (.bind 0 (
  .op (.lenL (.x 0)) (
  .loop [(.c (.v (.int .i64 0)))] (
   .op (.bin .lss (.x 7) (.x 6)) (
   .ite (.x 8)
    (.op (.elem 4 (.x 0) (.x 7)) (
    .chk (.cells (.x 9) 4) (
    .chk (.cells (.x 9) 4) (
    .op (.elem 4 (.x 1) (.x 7)) (
    .chk (.cells (.x 10) 4) (
    .chk (.cells (.x 10) 4) (
    .chk (.cells (.x 9) 4) (
    .chk (.cells (.x 10) 4) (
    .op (.callv (.x 2) [(.x 9), (.x 10)] false) (
    .op (.un .not (.x 11)) (
    .ite (.x 12)
     (.esc (.esc (.ret [(.c (.v (.bool false)))])))
     (.op (.bin .add (.x 7) (.c (.v (.int .i64 1)))) (
     .jump [(.x 13)])))))))))))))
    (.esc (.jump [])))))) (
 .ret [(.c (.v (.bool true)))])))))

theorem T.slices_EqualFunc__impl_TypeExp__impl_TypeExp_impl_TypeExp_impl_TypeExp_l : leftF Try.prog [] FL Try.f102 = some (3, T.slices_EqualFunc__impl_TypeExp__impl_TypeExp_impl_TypeExp_impl_TypeExp) := by kernel_rfl

theorem T.slices_EqualFunc__impl_TypeExp__impl_TypeExp_impl_TypeExp_impl_TypeExp_con {args : List AV} {res : AV} (hl : args.length = 3) (hn : AV.norefs args = true) (hw : wpT Try.prog (fun _ _ _ => False) (fun a => a = res) T.slices_EqualFunc__impl_TypeExp__impl_TypeExp_impl_TypeExp_impl_TypeExp args []) : PCon Try.prog F.slices_EqualFunc__impl_TypeExp__impl_TypeExp_impl_TypeExp_impl_TypeExp args res :=
  con_auto Try.func102 T.slices_EqualFunc__impl_TypeExp__impl_TypeExp_impl_TypeExp_impl_TypeExp_l hl hn hw

def T.impl_sameExp_1 : T :=
.chk (.cells (.x 0) 12) (
.chk (.cells (.x 1) 12) (
.bind 1 (
 .op (.call F.impl_samePat [(.agg [(.cell 0 0), (.cell 0 1), (.cell 0 2), (.cell 0 3), (.cell 0 4)]), (.agg [(.cell 1 0), (.cell 1 1), (.cell 1 2), (.cell 1 3), (.cell 1 4)])] false) (
 .ite (.x 2)
  (.op (.call F.impl_sameExp [(.agg [(.cell 0 5), (.cell 0 6), (.cell 0 7), (.cell 0 8), (.cell 0 9), (.cell 0 10), (.cell 0 11)]), (.agg [(.cell 1 5), (.cell 1 6), (.cell 1 7), (.cell 1 8), (.cell 1 9), (.cell 1 10), (.cell 1 11)])] false) (
  .jump [(.x 3)]))
  (.jump [(.c (.v (.bool false)))]))) (
.ret [(.x 2)])))

theorem T.impl_sameExp_1_l : leftF Try.prog [] FL Try.f103 = some (2, T.impl_sameExp_1) := by kernel_rfl

theorem T.impl_sameExp_1_con {args : List AV} {res : AV} (hl : args.length = 2) (hn : AV.norefs args = true) (hw : wpT Try.prog (fun _ _ _ => False) (fun a => a = res) T.impl_sameExp_1 args []) : PCon Try.prog F.impl_sameExp_1 args res :=
  con_auto Try.func103 T.impl_sameExp_1_l hl hn hw

def T.impl_samePat : T :=
.chk (.cells (.x 0) 5) (
.chk (.cells (.x 1) 5) (
.bind 1 (
 .op (.bin .eql (.cell 0 0) (.cell 1 0)) (
 .ite (.x 2)
  (.op (.bin .eql (.cell 0 1) (.cell 1 1)) (
  .ite (.x 3)
   (.op (.bin .eql (.cell 0 2) (.cell 1 2)) (
   .ite (.x 4)
    (.op (.call F.slices_EqualFunc__impl_Pat__impl_Pat_impl_Pat_impl_Pat [(.cell 0 4), (.cell 1 4), (.c (.fn F.impl_samePat []))] false) (
    .jump [(.x 5)]))
    (.jump [(.c (.v (.bool false)))])))
   (.jump [(.c (.v (.bool false)))])))
  (.jump [(.c (.v (.bool false)))]))) (
.ret [(.x 2)])))

theorem T.impl_samePat_l : leftF Try.prog [] FL Try.f104 = some (2, T.impl_samePat) := by kernel_rfl

theorem T.impl_samePat_con {args : List AV} {res : AV} (hl : args.length = 2) (hn : AV.norefs args = true) (hw : wpT Try.prog (fun _ _ _ => False) (fun a => a = res) T.impl_samePat args []) : PCon Try.prog F.impl_samePat args res :=
  con_auto Try.func104 T.impl_samePat_l hl hn hw

def T.slices_EqualFunc__impl_Exp__impl_Exp_impl_Exp_impl_Exp : T :=
.op (.lenL (.x 0)) (
.op (.lenL (.x 1)) (
.op (.bin .neq (.x 3) (.x 4)) (
.ite (.x 5)
 (.ret [(.c (.v (.bool false)))])
 (.bind 0 (
  .op (.lenL (.x 0)) (
  .loop [(.c (.v (.int .i64 0)))] (
   .op (.bin .lss (.x 7) (.x 6)) (
   .ite (.x 8)
    (.op (.elem 7 (.x 0) (.x 7)) (
    .chk (.cells (.x 9) 7) (
    .chk (.cells (.x 9) 7) (
    .op (.elem 7 (.x 1) (.x 7)) (
    .chk (.cells (.x 10) 7) (
    .chk (.cells (.x 10) 7) (
    .chk (.cells (.x 9) 7) (
    .chk (.cells (.x 10) 7) (
    .op (.callv (.x 2) [(.x 9), (.x 10)] false) (
    .op (.un .not (.x 11)) (
    .ite (.x 12)
     (.esc (.esc (.ret [(.c (.v (.bool false)))])))
     (.op (.bin .add (.x 7) (.c (.v (.int .i64 1)))) (
     .jump [(.x 13)])))))))))))))
    (.esc (.jump [])))))) (
 .ret [(.c (.v (.bool true)))])))))

theorem T.slices_EqualFunc__impl_Exp__impl_Exp_impl_Exp_impl_Exp_l : leftF Try.prog [] FL Try.f105 = some (3, T.slices_EqualFunc__impl_Exp__impl_Exp_impl_Exp_impl_Exp) := by kernel_rfl

theorem T.slices_EqualFunc__impl_Exp__impl_Exp_impl_Exp_impl_Exp_con {args : List AV} {res : AV} (hl : args.length = 3) (hn : AV.norefs args = true) (hw : wpT Try.prog (fun _ _ _ => False) (fun a => a = res) T.slices_EqualFunc__impl_Exp__impl_Exp_impl_Exp_impl_Exp args []) : PCon Try.prog F.slices_EqualFunc__impl_Exp__impl_Exp_impl_Exp_impl_Exp args res :=
  con_auto Try.func105 T.slices_EqualFunc__impl_Exp__impl_Exp_impl_Exp_impl_Exp_l hl hn hw

def T.slices_EqualFunc__impl_Arm__impl_Arm_impl_Arm_impl_Arm : T :=
.op (.lenL (.x 0)) (
.op (.lenL (.x 1)) (
.op (.bin .neq (.x 3) (.x 4)) (
.ite (.x 5)
 (.ret [(.c (.v (.bool false)))])
 (.bind 0 (
  .op (.lenL (.x 0)) (
  .loop [(.c (.v (.int .i64 0)))] (
   .op (.bin .lss (.x 7) (.x 6)) (
   .ite (.x 8)
    (.op (.elem 12 (.x 0) (.x 7)) (
    .chk (.cells (.x 9) 12) (
    .chk (.cells (.x 9) 12) (
    .op (.elem 12 (.x 1) (.x 7)) (
    .chk (.cells (.x 10) 12) (
    .chk (.cells (.x 10) 12) (
    .chk (.cells (.x 9) 12) (
    .chk (.cells (.x 10) 12) (
    .op (.callv (.x 2) [(.x 9), (.x 10)] false) (
    .op (.un .not (.x 11)) (
    .ite (.x 12)
     (.esc (.esc (.ret [(.c (.v (.bool false)))])))
     (.op (.bin .add (.x 7) (.c (.v (.int .i64 1)))) (
     .jump [(.x 13)])))))))))))))
    (.esc (.jump [])))))) (
 .ret [(.c (.v (.bool true)))])))))

theorem T.slices_EqualFunc__impl_Arm__impl_Arm_impl_Arm_impl_Arm_l : leftF Try.prog [] FL Try.f106 = some (3, T.slices_EqualFunc__impl_Arm__impl_Arm_impl_Arm_impl_Arm) := by kernel_rfl

theorem T.slices_EqualFunc__impl_Arm__impl_Arm_impl_Arm_impl_Arm_con {args : List AV} {res : AV} (hl : args.length = 3) (hn : AV.norefs args = true) (hw : wpT Try.prog (fun _ _ _ => False) (fun a => a = res) T.slices_EqualFunc__impl_Arm__impl_Arm_impl_Arm_impl_Arm args []) : PCon Try.prog F.slices_EqualFunc__impl_Arm__impl_Arm_impl_Arm_impl_Arm args res :=
  con_auto Try.func106 T.slices_EqualFunc__impl_Arm__impl_Arm_impl_Arm_impl_Arm_l hl hn hw

def T.laws_eqData : T :=
.chk (.cells (.x 0) 4) (
.chk (.cells (.x 1) 4) (
.op (.bin .neq (.cell 0 0) (.cell 1 0)) (
.ite (.x 2)
 (.ret [(.c (.v (.bool false)))])
 (.op (.call F.laws_eqStringS [(.cell 0 1), (.cell 1 1)] false) (
 .op (.un .not (.x 3)) (
 .ite (.x 4)
  (.ret [(.c (.v (.bool false)))])
  (.op (.call F.laws_eqCtorS [(.cell 0 2), (.cell 1 2)] false) (
  .op (.un .not (.x 5)) (
  .ite (.x 6)
   (.ret [(.c (.v (.bool false)))])
   (.op (.bin .neq (.cell 0 3) (.cell 1 3)) (
   .ite (.x 7)
    (.ret [(.c (.v (.bool false)))])
    (.ret [(.c (.v (.bool true)))]))))))))))))

theorem T.laws_eqData_l : leftF Try.prog [] FL Try.f107 = some (2, T.laws_eqData) := by kernel_rfl

theorem T.laws_eqData_con {args : List AV} {res : AV} (hl : args.length = 2) (hn : AV.norefs args = true) (hw : wpT Try.prog (fun _ _ _ => False) (fun a => a = res) T.laws_eqData args []) : PCon Try.prog F.laws_eqData args res :=
  con_auto Try.func107 T.laws_eqData_l hl hn hw

def T.spec_l19Name : T :=
.op (.call F.spec_l19Bound [(.x 0), (.x 2)] false) (
.bind 1 (
 .op (.call F.spec_l19Bound [(.x 1), (.x 3)] false) (
 .op (.bin .eql (.x 4) (.x 5)) (
 .ite (.x 6)
  (.op (.bin .geq (.x 4) (.c (.v (.int .i64 0)))) (
  .ite (.x 7)
   (.jump [(.c (.v (.bool true)))])
   (.op (.bin .eql (.x 2) (.x 3)) (
   .jump [(.x 8)]))))
  (.jump [(.c (.v (.bool false)))])))) (
.ret [(.x 5)]))

theorem T.spec_l19Name_l : leftF Try.prog [] FL Try.f108 = some (4, T.spec_l19Name) := by kernel_rfl

theorem T.spec_l19Name_con {args : List AV} {res : AV} (hl : args.length = 4) (hn : AV.norefs args = true) (hw : wpT Try.prog (fun _ _ _ => False) (fun a => a = res) T.spec_l19Name args []) : PCon Try.prog F.spec_l19Name args res :=
  con_auto Try.func108 T.spec_l19Name_l hl hn hw

def T.spec_l5With : T :=
.op (.mkl (.v (.string ⟨#[]⟩)) 0 []) (
.op (.app 1 16 (.x 2) (.x 0)) (
.op (.app 1 16 (.x 3) (.x 1)) (
.ret [(.sl (.x 4))])))

theorem T.spec_l5With_l : leftF Try.prog [] FL Try.f109 = some (2, T.spec_l5With) := by kernel_rfl

theorem T.spec_l5With_con {args : List AV} {res : AV} (hl : args.length = 2) (hn : AV.norefs args = true) (hw : wpT Try.prog (fun _ _ _ => False) (fun a => a = res) T.spec_l5With args []) : PCon Try.prog F.spec_l5With args res :=
  con_auto Try.func109 T.spec_l5With_l hl hn hw

-- spec_l19Pats: no walk
def T.impl_names_at : T :=
.bind 0 (
 .op (.lenL (.x 0)) (
 .op (.bin .sub (.x 2) (.c (.v (.int .i64 1)))) (
 .loop [(.x 3)] (
  .op (.bin .geq (.x 4) (.c (.v (.int .i64 0)))) (
  .ite (.x 5)
   (.op (.elem 1 (.x 0) (.x 4)) (
   .chk (.lt (.x 6) 0) (
   .op (.bin .eql (.cell 6 0) (.x 1)) (
   .ite (.x 7)
    (.esc (.esc (.ret [(.x 4)])))
    (.op (.bin .sub (.x 4) (.c (.v (.int .i64 1)))) (
    .jump [(.x 8)]))))))
   (.esc (.jump []))))))) (
.ret [(.c (.v (.int .i64 (-1))))])

theorem T.impl_names_at_l : leftF Try.prog [] FL Try.f111 = some (2, T.impl_names_at) := by kernel_rfl

theorem T.impl_names_at_con {args : List AV} {res : AV} (hl : args.length = 2) (hn : AV.norefs args = true) (hw : wpT Try.prog (fun _ _ _ => False) (fun a => a = res) T.impl_names_at args []) : PCon Try.prog F.impl_names_at args res :=
  con_auto Try.func111 T.impl_names_at_l hl hn hw

-- slices_Concat_impl_names_string: code not covered
def T.impl_bindsIn : T :=
.chk (.cells (.x 0) 7) (
.bind 0 (
 .bind 1 (
  .op (.bin .eql (.cell 0 0) (.c (.v (.int .i64 8)))) (
  .ite (.x 2)
   (.jump [(.x 2)])
   (.bind 1 (
    .op (.bin .eql (.cell 0 0) (.c (.v (.int .i64 10)))) (
    .ite (.x 3)
     (.op (.bin .eql (.x 1) (.c (.v (.int .i64 1)))) (
     .jump [(.x 4)]))
     (.jump [(.c (.v (.bool false)))]))) (
   .ite (.x 3)
    (.jump [(.x 3)])
    (.op (.bin .eql (.cell 0 0) (.c (.v (.int .i64 11)))) (
    .ite (.x 4)
     (.op (.bin .eql (.x 1) (.c (.v (.int .i64 1)))) (
     .jump [(.x 5)]))
     (.jump [(.c (.v (.bool false)))]))))))) (
 .ite (.x 2)
  (.chk (.one (.cell 0 1)) (
  .op (.mkl (.v (.string ⟨#[]⟩)) 1 [(0, (.cell 0 1))]) (
  .esc (.ret [(.sl (.x 3))]))))
  (.op (.bin .eql (.cell 0 0) (.c (.v (.int .i64 11)))) (
  .ite (.x 3)
   (.chk (.one (.cell 0 1)) (
   .chk (.one (.cell 0 3)) (
   .op (.mkl (.v (.string ⟨#[]⟩)) 2 [(0, (.cell 0 1)), (1, (.cell 0 3))]) (
   .esc (.ret [(.sl (.x 4))])))))
   (.jump []))))) (
.ret [(.c .nils)]))

theorem T.impl_bindsIn_l : leftF Try.prog [] FL Try.f113 = some (2, T.impl_bindsIn) := by kernel_rfl

theorem T.impl_bindsIn_con {args : List AV} {res : AV} (hl : args.length = 2) (hn : AV.norefs args = true) (hw : wpT Try.prog (fun _ _ _ => False) (fun a => a = res) T.impl_bindsIn args []) : PCon Try.prog F.impl_bindsIn args res :=
  con_auto Try.func113 T.impl_bindsIn_l hl hn hw

def T.impl_alikePat : T :=
.chk (.cells (.x 0) 5) (
.chk (.cells (.x 1) 5) (
.bind 1 (
 .op (.bin .eql (.cell 0 0) (.cell 1 0)) (
 .ite (.x 2)
  (.op (.bin .eql (.cell 0 0) (.c (.v (.int .i64 2)))) (
  .ite (.x 3)
   (.op (.bin .eql (.cell 0 2) (.cell 1 2)) (
   .ite (.x 4)
    (.op (.call F.slices_EqualFunc__impl_Pat__impl_Pat_impl_Pat_impl_Pat [(.cell 0 4), (.cell 1 4), (.c (.fn F.impl_alikePat []))] false) (
    .jump [(.x 5)]))
    (.jump [(.c (.v (.bool false)))])))
   (.op (.bin .eql (.cell 0 1) (.cell 1 1)) (
   .ite (.x 4)
    (.op (.bin .eql (.cell 0 2) (.cell 1 2)) (
    .ite (.x 5)
     (.op (.call F.slices_EqualFunc__impl_Pat__impl_Pat_impl_Pat_impl_Pat [(.cell 0 4), (.cell 1 4), (.c (.fn F.impl_alikePat []))] false) (
     .jump [(.x 6)]))
     (.jump [(.c (.v (.bool false)))])))
    (.jump [(.c (.v (.bool false)))])))))
  (.jump [(.c (.v (.bool false)))]))) (
.ret [(.x 2)])))

theorem T.impl_alikePat_l : leftF Try.prog [] FL Try.f114 = some (2, T.impl_alikePat) := by kernel_rfl

theorem T.impl_alikePat_con {args : List AV} {res : AV} (hl : args.length = 2) (hn : AV.norefs args = true) (hw : wpT Try.prog (fun _ _ _ => False) (fun a => a = res) T.impl_alikePat args []) : PCon Try.prog F.impl_alikePat args res :=
  con_auto Try.func114 T.impl_alikePat_l hl hn hw

def T.impl_patNames : T :=
.chk (.cells (.x 0) 5) (
.bind 1 (
 .op (.bin .eql (.cell 0 0) (.c (.v (.int .i64 2)))) (
 .ite (.x 1)
  (.chk (.one (.cell 0 1)) (
  .op (.mkl (.v (.string ⟨#[]⟩)) 1 [(0, (.cell 0 1))]) (
  .op (.app 1 16 (.c (.sl [])) (.sl (.x 2))) (
  .jump [(.x 3)]))))
  (.jump [(.c (.sl []))]))) (
.bind 1 (
 .op (.lenL (.cell 0 4)) (
 .loop [(.x 1), (.c (.v (.int .i64 0)))] (
  .op (.bin .lss (.x 4) (.x 2)) (
  .ite (.x 5)
   (.op (.elem 5 (.cell 0 4) (.x 4)) (
   .chk (.cells (.x 6) 5) (
   .chk (.cells (.x 6) 5) (
   .chk (.cells (.x 6) 5) (
   .op (.call F.impl_patNames [(.x 6)] false) (
   .op (.app 1 16 (.x 3) (.x 7)) (
   .op (.bin .add (.x 4) (.c (.v (.int .i64 1)))) (
   .jump [(.x 8), (.x 9)]))))))))
   (.esc (.jump [(.x 3)])))))) (
.ret [(.sl (.x 2))])))

theorem T.impl_patNames_l : leftF Try.prog [] FL Try.f115 = some (1, T.impl_patNames) := by kernel_rfl

theorem T.impl_patNames_con {args : List AV} {res : AV} (hl : args.length = 1) (hn : AV.norefs args = true) (hw : wpT Try.prog (fun _ _ _ => False) (fun a => a = res) T.impl_patNames args []) : PCon Try.prog F.impl_patNames args res :=
  con_auto Try.func115 T.impl_patNames_l hl hn hw

def T.spec_l1Key : T :=
.chk (.one (.c (.v (.string ⟨#[116, 121, 112, 101]⟩)))) (
.chk (.one (.c (.v (.string ⟨#[111, 102]⟩)))) (
.chk (.one (.c (.v (.string ⟨#[108, 101, 116]⟩)))) (
.chk (.one (.c (.v (.string ⟨#[114, 101, 99]⟩)))) (
.chk (.one (.c (.v (.string ⟨#[105, 110]⟩)))) (
.chk (.one (.c (.v (.string ⟨#[102, 117, 110]⟩)))) (
.chk (.one (.c (.v (.string ⟨#[105, 102]⟩)))) (
.chk (.one (.c (.v (.string ⟨#[116, 104, 101, 110]⟩)))) (
.chk (.one (.c (.v (.string ⟨#[101, 108, 115, 101]⟩)))) (
.chk (.one (.c (.v (.string ⟨#[109, 97, 116, 99, 104]⟩)))) (
.chk (.one (.c (.v (.string ⟨#[119, 105, 116, 104]⟩)))) (
.chk (.one (.c (.v (.string ⟨#[101, 110, 100]⟩)))) (
.chk (.one (.c (.v (.string ⟨#[116, 114, 117, 101]⟩)))) (
.chk (.one (.c (.v (.string ⟨#[102, 97, 108, 115, 101]⟩)))) (
.chk (.one (.c (.v (.string ⟨#[114, 101, 102]⟩)))) (
.chk (.one (.c (.v (.string ⟨#[114, 101, 97, 100]⟩)))) (
.chk (.one (.c (.v (.string ⟨#[112, 114, 105, 110, 116]⟩)))) (
.chk (.one (.c (.v (.string ⟨#[101, 120, 105, 116]⟩)))) (
.chk (.one (.c (.v (.string ⟨#[115, 105, 122, 101]⟩)))) (
.op (.mkl (.v (.string ⟨#[]⟩)) 19 [(0, (.c (.v (.string ⟨#[116, 121, 112, 101]⟩)))), (1, (.c (.v (.string ⟨#[111, 102]⟩)))), (2, (.c (.v (.string ⟨#[108, 101, 116]⟩)))), (3, (.c (.v (.string ⟨#[114, 101, 99]⟩)))), (4, (.c (.v (.string ⟨#[105, 110]⟩)))), (5, (.c (.v (.string ⟨#[102, 117, 110]⟩)))), (6, (.c (.v (.string ⟨#[105, 102]⟩)))), (7, (.c (.v (.string ⟨#[116, 104, 101, 110]⟩)))), (8, (.c (.v (.string ⟨#[101, 108, 115, 101]⟩)))), (9, (.c (.v (.string ⟨#[109, 97, 116, 99, 104]⟩)))), (10, (.c (.v (.string ⟨#[119, 105, 116, 104]⟩)))), (11, (.c (.v (.string ⟨#[101, 110, 100]⟩)))), (12, (.c (.v (.string ⟨#[116, 114, 117, 101]⟩)))), (13, (.c (.v (.string ⟨#[102, 97, 108, 115, 101]⟩)))), (14, (.c (.v (.string ⟨#[114, 101, 102]⟩)))), (15, (.c (.v (.string ⟨#[114, 101, 97, 100]⟩)))), (16, (.c (.v (.string ⟨#[112, 114, 105, 110, 116]⟩)))), (17, (.c (.v (.string ⟨#[101, 120, 105, 116]⟩)))), (18, (.c (.v (.string ⟨#[115, 105, 122, 101]⟩))))]) (
.bind 0 (
 .loop [(.c (.v (.int .i64 0)))] (
  .op (.lenL (.sl (.x 1))) (
  .op (.bin .lss (.x 2) (.x 3)) (
  .ite (.x 4)
   (.chk (.idx (.x 1) (.x 2)) (
   .op (.get (.x 1) (.x 2) 0 none) (
   .op (.bin .eql (.x 5) (.x 0)) (
   .ite (.x 6)
    (.esc (.esc (.ret [(.c (.v (.bool true)))])))
    (.op (.bin .add (.x 2) (.c (.v (.int .i64 1)))) (
    .jump [(.x 7)]))))))
   (.esc (.jump [])))))) (
.ret [(.c (.v (.bool false)))])))))))))))))))))))))

theorem T.spec_l1Key_l : leftF Try.prog [] FL Try.f116 = some (1, T.spec_l1Key) := by kernel_rfl

theorem T.spec_l1Key_con {args : List AV} {res : AV} (hl : args.length = 1) (hn : AV.norefs args = true) (hw : wpT Try.prog (fun _ _ _ => False) (fun a => a = res) T.spec_l1Key args []) : PCon Try.prog F.spec_l1Key args res :=
  con_auto Try.func116 T.spec_l1Key_l hl hn hw

def T.spec_l1Upper : T :=
.op (.call F.spec_l1In [(.x 0), (.c (.v (.int .i64 65))), (.c (.v (.int .i64 90)))] false) (
.ret [(.x 1)])

theorem T.spec_l1Upper_l : leftF Try.prog [] FL Try.f117 = some (1, T.spec_l1Upper) := by kernel_rfl

theorem T.spec_l1Upper_con {args : List AV} {res : AV} (hl : args.length = 1) (hn : AV.norefs args = true) (hw : wpT Try.prog (fun _ _ _ => False) (fun a => a = res) T.spec_l1Upper args []) : PCon Try.prog F.spec_l1Upper args res :=
  con_auto Try.func117 T.spec_l1Upper_l hl hn hw

def T.spec_l1Lower : T :=
.op (.call F.spec_l1In [(.x 0), (.c (.v (.int .i64 97))), (.c (.v (.int .i64 122)))] false) (
.ret [(.x 1)])

theorem T.spec_l1Lower_l : leftF Try.prog [] FL Try.f118 = some (1, T.spec_l1Lower) := by kernel_rfl

theorem T.spec_l1Lower_con {args : List AV} {res : AV} (hl : args.length = 1) (hn : AV.norefs args = true) (hw : wpT Try.prog (fun _ _ _ => False) (fun a => a = res) T.spec_l1Lower args []) : PCon Try.prog F.spec_l1Lower args res :=
  con_auto Try.func118 T.spec_l1Lower_l hl hn hw

def T.spec_l1NameByte : T :=
.bind 1 (
 .op (.call F.spec_l1Lower [(.x 0)] false) (
 .ite (.x 1)
  (.jump [(.c (.v (.bool true)))])
  (.op (.call F.spec_l1Upper [(.x 0)] false) (
  .ite (.x 2)
   (.jump [(.c (.v (.bool true)))])
   (.op (.call F.spec_l1Num [(.x 0)] false) (
   .ite (.x 3)
    (.jump [(.c (.v (.bool true)))])
    (.op (.bin .eql (.x 0) (.c (.v (.int .i64 95)))) (
    .jump [(.x 4)])))))))) (
.ret [(.x 1)])

theorem T.spec_l1NameByte_l : leftF Try.prog [] FL Try.f119 = some (1, T.spec_l1NameByte) := by kernel_rfl

theorem T.spec_l1NameByte_con {args : List AV} {res : AV} (hl : args.length = 1) (hn : AV.norefs args = true) (hw : wpT Try.prog (fun _ _ _ => False) (fun a => a = res) T.spec_l1NameByte args []) : PCon Try.prog F.spec_l1NameByte args res :=
  con_auto Try.func119 T.spec_l1NameByte_l hl hn hw

def T.slices_IndexFunc__impl_Data_impl_Data : T :=
.bind 0 (
 .op (.lenL (.x 0)) (
 .loop [(.c (.v (.int .i64 0)))] (
  .op (.bin .lss (.x 3) (.x 2)) (
  .ite (.x 4)
   (.op (.elem 4 (.x 0) (.x 3)) (
   .chk (.cells (.x 5) 4) (
   .op (.callv (.x 1) [(.x 5)] false) (
   .ite (.x 6)
    (.esc (.esc (.ret [(.x 3)])))
    (.op (.bin .add (.x 3) (.c (.v (.int .i64 1)))) (
    .jump [(.x 7)]))))))
   (.esc (.jump [])))))) (
.ret [(.c (.v (.int .i64 (-1))))])

theorem T.slices_IndexFunc__impl_Data_impl_Data_l : leftF Try.prog [] FL Try.f120 = some (2, T.slices_IndexFunc__impl_Data_impl_Data) := by kernel_rfl

theorem T.slices_IndexFunc__impl_Data_impl_Data_con {args : List AV} {res : AV} (hl : args.length = 2) (hn : AV.norefs args = true) (hw : wpT Try.prog (fun _ _ _ => False) (fun a => a = res) T.slices_IndexFunc__impl_Data_impl_Data args []) : PCon Try.prog F.slices_IndexFunc__impl_Data_impl_Data args res :=
  con_auto Try.func120 T.slices_IndexFunc__impl_Data_impl_Data_l hl hn hw

def T.impl_typeOk : T :=
.chk (.cells (.x 0) 4) (
.op (.bin .eql (.cell 0 1) (.c (.v (.string ⟨#[]⟩)))) (
.bind 2 (
 .op (.bin .eql (.cell 0 0) (.c (.v (.int .i64 1)))) (
 .ite (.x 2)
  (.op (.call F.impl_lowOk [(.cell 0 1)] false) (
  .jump [(.c (.v (.bool true))), (.x 3)]))
  (.op (.bin .eql (.cell 0 0) (.c (.v (.int .i64 2)))) (
  .ite (.x 3)
   (.op (.lenL (.cell 0 3)) (
   .op (.bin .eql (.x 4) (.c (.v (.int .i64 0)))) (
   .op (.call F.impl_isName [(.cell 0 1), (.c (.fn F.impl_small []))] false) (
   .jump [(.x 5), (.x 6)]))))
   (.op (.bin .eql (.cell 0 0) (.c (.v (.int .i64 3)))) (
   .ite (.x 4)
    (.op (.lenL (.cell 0 3)) (
    .op (.bin .eql (.x 5) (.c (.v (.int .i64 2)))) (
    .jump [(.x 6), (.x 1)])))
    (.op (.bin .eql (.cell 0 0) (.c (.v (.int .i64 4)))) (
    .ite (.x 5)
     (.op (.lenL (.cell 0 3)) (
     .op (.bin .geq (.x 6) (.c (.v (.int .i64 2)))) (
     .jump [(.x 7), (.x 1)])))
     (.op (.bin .eql (.cell 0 0) (.c (.v (.int .i64 5)))) (
     .ite (.x 6)
      (.op (.lenL (.cell 0 3)) (
      .op (.bin .eql (.x 7) (.c (.v (.int .i64 1)))) (
      .jump [(.x 8), (.x 1)])))
      (.jump [(.c (.v (.bool false))), (.x 1)]))))))))))) (
.bind 1 (
 .ite (.x 2)
  (.ite (.x 3)
   (.op (.bin .geq (.cell 0 2) (.c (.v (.int .i64 0)))) (
   .ite (.x 4)
    (.op (.call F.slices_ContainsFunc__impl_TypeExp_impl_TypeExp [(.cell 0 3), (.c (.fn F.impl_typeOk_1 []))] false) (
    .op (.un .not (.x 5)) (
    .jump [(.x 6)])))
    (.jump [(.c (.v (.bool false)))])))
   (.jump [(.c (.v (.bool false)))]))
  (.jump [(.c (.v (.bool false)))])) (
.ret [(.x 4)]))))

theorem T.impl_typeOk_l : leftF Try.prog [] FL Try.f121 = some (1, T.impl_typeOk) := by kernel_rfl

theorem T.impl_typeOk_con {args : List AV} {res : AV} (hl : args.length = 1) (hn : AV.norefs args = true) (hw : wpT Try.prog (fun _ _ _ => False) (fun a => a = res) T.impl_typeOk args []) : PCon Try.prog F.impl_typeOk args res :=
  con_auto Try.func121 T.impl_typeOk_l hl hn hw

def T.impl_emptyType : T :=
.chk (.cells (.x 0) 4) (
.bind 1 (
 .op (.bin .eql (.cell 0 0) (.c (.v (.int .i64 0)))) (
 .ite (.x 1)
  (.op (.bin .eql (.cell 0 1) (.c (.v (.string ⟨#[]⟩)))) (
  .ite (.x 2)
   (.op (.bin .eql (.cell 0 2) (.c (.v (.int .i64 0)))) (
   .ite (.x 3)
    (.op (.lenL (.cell 0 3)) (
    .op (.bin .eql (.x 4) (.c (.v (.int .i64 0)))) (
    .jump [(.x 5)])))
    (.jump [(.c (.v (.bool false)))])))
   (.jump [(.c (.v (.bool false)))])))
  (.jump [(.c (.v (.bool false)))]))) (
.ret [(.x 1)]))

theorem T.impl_emptyType_l : leftF Try.prog [] FL Try.f122 = some (1, T.impl_emptyType) := by kernel_rfl

theorem T.impl_emptyType_con {args : List AV} {res : AV} (hl : args.length = 1) (hn : AV.norefs args = true) (hw : wpT Try.prog (fun _ _ _ => False) (fun a => a = res) T.impl_emptyType args []) : PCon Try.prog F.impl_emptyType args res :=
  con_auto Try.func122 T.impl_emptyType_l hl hn hw

def T.slices_ContainsFunc__string_string : T :=
.op (.call F.slices_IndexFunc__string_string [(.x 0), (.x 1)] false) (
.op (.bin .geq (.x 2) (.c (.v (.int .i64 0)))) (
.ret [(.x 3)]))

theorem T.slices_ContainsFunc__string_string_l : leftF Try.prog [] FL Try.f123 = some (2, T.slices_ContainsFunc__string_string) := by kernel_rfl

theorem T.slices_ContainsFunc__string_string_con {args : List AV} {res : AV} (hl : args.length = 2) (hn : AV.norefs args = true) (hw : wpT Try.prog (fun _ _ _ => False) (fun a => a = res) T.slices_ContainsFunc__string_string args []) : PCon Try.prog F.slices_ContainsFunc__string_string args res :=
  con_auto Try.func123 T.slices_ContainsFunc__string_string_l hl hn hw

def T.impl_dataOk_1 : T :=
.op (.call F.impl_isName [(.x 0), (.c (.fn F.impl_small []))] false) (
.op (.un .not (.x 1)) (
.ret [(.x 2)]))

theorem T.impl_dataOk_1_l : leftF Try.prog [] FL Try.f124 = some (1, T.impl_dataOk_1) := by kernel_rfl

theorem T.impl_dataOk_1_con {args : List AV} {res : AV} (hl : args.length = 1) (hn : AV.norefs args = true) (hw : wpT Try.prog (fun _ _ _ => False) (fun a => a = res) T.impl_dataOk_1 args []) : PCon Try.prog F.impl_dataOk_1 args res :=
  con_auto Try.func124 T.impl_dataOk_1_l hl hn hw

def T.impl_isName : T :=
.bind 1 (
 .op (.lenS (.x 0)) (
 .op (.call F.impl_within [(.x 2), (.c (.v (.int .i64 1))), (.c (.v (.int .i64 12)))] false) (
 .ite (.x 3)
  (.op (.idxS (.x 0) (.c (.v (.int .i64 0)))) (
  .op (.callv (.x 1) [(.x 4)] false) (
  .ite (.x 5)
   (.op (.call F.impl_run [(.x 0), (.c (.v (.int .i64 0))), (.c (.fn F.impl_nameByte []))] false) (
   .op (.lenS (.x 0)) (
   .op (.bin .eql (.x 6) (.x 7)) (
   .jump [(.x 8)]))))
   (.jump [(.c (.v (.bool false)))]))))
  (.jump [(.c (.v (.bool false)))])))) (
.ret [(.x 2)])

theorem T.impl_isName_l : leftF Try.prog [] FL Try.f125 = some (2, T.impl_isName) := by kernel_rfl

theorem T.impl_isName_con {args : List AV} {res : AV} (hl : args.length = 2) (hn : AV.norefs args = true) (hw : wpT Try.prog (fun _ _ _ => False) (fun a => a = res) T.impl_isName args []) : PCon Try.prog F.impl_isName args res :=
  con_auto Try.func125 T.impl_isName_l hl hn hw

def T.impl_small : T :=
.bind 1 (
 .op (.bin .geq (.x 0) (.c (.v (.int .u8 97)))) (
 .ite (.x 1)
  (.op (.bin .leq (.x 0) (.c (.v (.int .u8 122)))) (
  .jump [(.x 2)]))
  (.jump [(.c (.v (.bool false)))]))) (
.ret [(.x 1)])

theorem T.impl_small_l : leftF Try.prog [] FL Try.f126 = some (1, T.impl_small) := by kernel_rfl

theorem T.impl_small_con {args : List AV} {res : AV} (hl : args.length = 1) (hn : AV.norefs args = true) (hw : wpT Try.prog (fun _ _ _ => False) (fun a => a = res) T.impl_small args []) : PCon Try.prog F.impl_small args res :=
  con_auto Try.func126 T.impl_small_l hl hn hw

def T.strings_Index : T :=
.op (.call F.internalstringslite_Index [(.x 0), (.x 1)] false) (
.ret [(.x 2)])

theorem T.strings_Index_l : leftF Try.prog [] FL Try.f127 = some (2, T.strings_Index) := by kernel_rfl

theorem T.strings_Index_con {args : List AV} {res : AV} (hl : args.length = 2) (hn : AV.norefs args = true) (hw : wpT Try.prog (fun _ _ _ => False) (fun a => a = res) T.strings_Index args []) : PCon Try.prog F.strings_Index args res :=
  con_auto Try.func127 T.strings_Index_l hl hn hw

def T.laws_szPat : T :=
.chk (.cells (.x 0) 5) (
.op (.lenS (.cell 0 1)) (
.op (.bin .sub (.x 1) (.x 2)) (
.op (.bin .lss (.x 3) (.c (.v (.int .i64 0)))) (
.ite (.x 4)
 (.ret [(.c (.v (.int .i64 (-1))))])
 (.op (.call F.laws_szPatS [(.cell 0 4), (.x 3)] false) (
 .op (.bin .lss (.x 5) (.c (.v (.int .i64 0)))) (
 .ite (.x 6)
  (.ret [(.c (.v (.int .i64 (-1))))])
  (.ret [(.x 5)]))))))))

theorem T.laws_szPat_l : leftF Try.prog [] FL Try.f128 = some (2, T.laws_szPat) := by kernel_rfl

theorem T.laws_szPat_con {args : List AV} {res : AV} (hl : args.length = 2) (hn : AV.norefs args = true) (hw : wpT Try.prog (fun _ _ _ => False) (fun a => a = res) T.laws_szPat args []) : PCon Try.prog F.laws_szPat args res :=
  con_auto Try.func128 T.laws_szPat_l hl hn hw

def T.laws_toPat : T :=
.chk (.cells (.x 0) 5) (
.chk (.one (.cell 0 0)) (
.chk (.one (.cell 0 1)) (
.chk (.one (.cell 0 2)) (
.chk (.one (.cell 0 3)) (
.op (.call F.laws_toPatS [(.cell 0 4)] false) (
.chk (.one (.x 1)) (
.chk (.cells (.agg [(.cell 0 0), (.cell 0 1), (.cell 0 2), (.cell 0 3), (.x 1)]) 5) (
.ret [(.agg [(.cell 0 0), (.cell 0 1), (.cell 0 2), (.cell 0 3), (.x 1)])]))))))))

theorem T.laws_toPat_l : leftF Try.prog [] FL Try.f129 = some (1, T.laws_toPat) := by kernel_rfl

theorem T.laws_toPat_con {args : List AV} {res : AV} (hl : args.length = 1) (hn : AV.norefs args = true) (hw : wpT Try.prog (fun _ _ _ => False) (fun a => a = res) T.laws_toPat args []) : PCon Try.prog F.laws_toPat args res :=
  con_auto Try.func129 T.laws_toPat_l hl hn hw

def T.impl_isKey : T :=
.chk (.one (.c (.v (.string ⟨#[116, 121, 112, 101]⟩)))) (
.chk (.one (.c (.v (.string ⟨#[111, 102]⟩)))) (
.chk (.one (.c (.v (.string ⟨#[108, 101, 116]⟩)))) (
.chk (.one (.c (.v (.string ⟨#[114, 101, 99]⟩)))) (
.chk (.one (.c (.v (.string ⟨#[105, 110]⟩)))) (
.chk (.one (.c (.v (.string ⟨#[102, 117, 110]⟩)))) (
.chk (.one (.c (.v (.string ⟨#[105, 102]⟩)))) (
.chk (.one (.c (.v (.string ⟨#[116, 104, 101, 110]⟩)))) (
.chk (.one (.c (.v (.string ⟨#[101, 108, 115, 101]⟩)))) (
.chk (.one (.c (.v (.string ⟨#[109, 97, 116, 99, 104]⟩)))) (
.chk (.one (.c (.v (.string ⟨#[119, 105, 116, 104]⟩)))) (
.chk (.one (.c (.v (.string ⟨#[101, 110, 100]⟩)))) (
.chk (.one (.c (.v (.string ⟨#[116, 114, 117, 101]⟩)))) (
.chk (.one (.c (.v (.string ⟨#[102, 97, 108, 115, 101]⟩)))) (
.chk (.one (.c (.v (.string ⟨#[114, 101, 102]⟩)))) (
.chk (.one (.c (.v (.string ⟨#[114, 101, 97, 100]⟩)))) (
.chk (.one (.c (.v (.string ⟨#[112, 114, 105, 110, 116]⟩)))) (
.chk (.one (.c (.v (.string ⟨#[101, 120, 105, 116]⟩)))) (
.chk (.one (.c (.v (.string ⟨#[115, 105, 122, 101]⟩)))) (
.op (.mkl (.v (.string ⟨#[]⟩)) 19 [(0, (.c (.v (.string ⟨#[116, 121, 112, 101]⟩)))), (1, (.c (.v (.string ⟨#[111, 102]⟩)))), (2, (.c (.v (.string ⟨#[108, 101, 116]⟩)))), (3, (.c (.v (.string ⟨#[114, 101, 99]⟩)))), (4, (.c (.v (.string ⟨#[105, 110]⟩)))), (5, (.c (.v (.string ⟨#[102, 117, 110]⟩)))), (6, (.c (.v (.string ⟨#[105, 102]⟩)))), (7, (.c (.v (.string ⟨#[116, 104, 101, 110]⟩)))), (8, (.c (.v (.string ⟨#[101, 108, 115, 101]⟩)))), (9, (.c (.v (.string ⟨#[109, 97, 116, 99, 104]⟩)))), (10, (.c (.v (.string ⟨#[119, 105, 116, 104]⟩)))), (11, (.c (.v (.string ⟨#[101, 110, 100]⟩)))), (12, (.c (.v (.string ⟨#[116, 114, 117, 101]⟩)))), (13, (.c (.v (.string ⟨#[102, 97, 108, 115, 101]⟩)))), (14, (.c (.v (.string ⟨#[114, 101, 102]⟩)))), (15, (.c (.v (.string ⟨#[114, 101, 97, 100]⟩)))), (16, (.c (.v (.string ⟨#[112, 114, 105, 110, 116]⟩)))), (17, (.c (.v (.string ⟨#[101, 120, 105, 116]⟩)))), (18, (.c (.v (.string ⟨#[115, 105, 122, 101]⟩))))]) (
.op (.call F.slices_Contains__string_string [(.sl (.x 1)), (.x 0)] true) (
.ret [(.x 2)])))))))))))))))))))))

theorem T.impl_isKey_l : leftF Try.prog [] FL Try.f130 = some (1, T.impl_isKey) := by kernel_rfl

theorem T.impl_isKey_con {args : List AV} {res : AV} (hl : args.length = 1) (hn : AV.norefs args = true) (hw : wpT Try.prog (fun _ _ _ => False) (fun a => a = res) T.impl_isKey args []) : PCon Try.prog F.impl_isKey args res :=
  con_auto Try.func130 T.impl_isKey_l hl hn hw

def T.impl_great : T :=
.bind 1 (
 .op (.bin .geq (.x 0) (.c (.v (.int .u8 65)))) (
 .ite (.x 1)
  (.op (.bin .leq (.x 0) (.c (.v (.int .u8 90)))) (
  .jump [(.x 2)]))
  (.jump [(.c (.v (.bool false)))]))) (
.ret [(.x 1)])

theorem T.impl_great_l : leftF Try.prog [] FL Try.f131 = some (1, T.impl_great) := by kernel_rfl

theorem T.impl_great_con {args : List AV} {res : AV} (hl : args.length = 1) (hn : AV.norefs args = true) (hw : wpT Try.prog (fun _ _ _ => False) (fun a => a = res) T.impl_great args []) : PCon Try.prog F.impl_great args res :=
  con_auto Try.func131 T.impl_great_l hl hn hw

def T.slices_Contains__string_string : T :=
.op (.call F.slices_Index__string_string [(.x 0), (.x 1)] false) (
.op (.bin .geq (.x 2) (.c (.v (.int .i64 0)))) (
.ret [(.x 3)]))

theorem T.slices_Contains__string_string_l : leftF Try.prog [] FL Try.f132 = some (2, T.slices_Contains__string_string) := by kernel_rfl

theorem T.slices_Contains__string_string_con {args : List AV} {res : AV} (hl : args.length = 2) (hn : AV.norefs args = true) (hw : wpT Try.prog (fun _ _ _ => False) (fun a => a = res) T.slices_Contains__string_string args []) : PCon Try.prog F.slices_Contains__string_string args res :=
  con_auto Try.func132 T.slices_Contains__string_string_l hl hn hw

def T.slices_IndexFunc__impl_Pat_impl_Pat : T :=
.bind 0 (
 .op (.lenL (.x 0)) (
 .loop [(.c (.v (.int .i64 0)))] (
  .op (.bin .lss (.x 3) (.x 2)) (
  .ite (.x 4)
   (.op (.elem 5 (.x 0) (.x 3)) (
   .chk (.cells (.x 5) 5) (
   .op (.callv (.x 1) [(.x 5)] false) (
   .ite (.x 6)
    (.esc (.esc (.ret [(.x 3)])))
    (.op (.bin .add (.x 3) (.c (.v (.int .i64 1)))) (
    .jump [(.x 7)]))))))
   (.esc (.jump [])))))) (
.ret [(.c (.v (.int .i64 (-1))))])

theorem T.slices_IndexFunc__impl_Pat_impl_Pat_l : leftF Try.prog [] FL Try.f133 = some (2, T.slices_IndexFunc__impl_Pat_impl_Pat) := by kernel_rfl

theorem T.slices_IndexFunc__impl_Pat_impl_Pat_con {args : List AV} {res : AV} (hl : args.length = 2) (hn : AV.norefs args = true) (hw : wpT Try.prog (fun _ _ _ => False) (fun a => a = res) T.slices_IndexFunc__impl_Pat_impl_Pat args []) : PCon Try.prog F.slices_IndexFunc__impl_Pat_impl_Pat args res :=
  con_auto Try.func133 T.slices_IndexFunc__impl_Pat_impl_Pat_l hl hn hw

def T.laws_eqPat : T :=
.chk (.cells (.x 0) 5) (
.chk (.cells (.x 1) 5) (
.op (.bin .neq (.cell 0 0) (.cell 1 0)) (
.ite (.x 2)
 (.ret [(.c (.v (.bool false)))])
 (.op (.bin .neq (.cell 0 1) (.cell 1 1)) (
 .ite (.x 3)
  (.ret [(.c (.v (.bool false)))])
  (.op (.bin .neq (.cell 0 2) (.cell 1 2)) (
  .ite (.x 4)
   (.ret [(.c (.v (.bool false)))])
   (.op (.bin .neq (.cell 0 3) (.cell 1 3)) (
   .ite (.x 5)
    (.ret [(.c (.v (.bool false)))])
    (.op (.call F.laws_eqPatS [(.cell 0 4), (.cell 1 4)] false) (
    .op (.un .not (.x 6)) (
    .ite (.x 7)
     (.ret [(.c (.v (.bool false)))])
     (.ret [(.c (.v (.bool true)))])))))))))))))

theorem T.laws_eqPat_l : leftF Try.prog [] FL Try.f134 = some (2, T.laws_eqPat) := by kernel_rfl

theorem T.laws_eqPat_con {args : List AV} {res : AV} (hl : args.length = 2) (hn : AV.norefs args = true) (hw : wpT Try.prog (fun _ _ _ => False) (fun a => a = res) T.laws_eqPat args []) : PCon Try.prog F.laws_eqPat args res :=
  con_auto Try.func134 T.laws_eqPat_l hl hn hw

def T.laws_szStringS : T :=
.op (.lenL (.x 0)) (
.op (.bin .sub (.x 1) (.x 2)) (
.op (.bin .lss (.x 3) (.c (.v (.int .i64 0)))) (
.ite (.x 4)
 (.ret [(.c (.v (.int .i64 (-1))))])
 (.bind 1 (
  .loop [(.x 3), (.c (.v (.int .i64 0)))] (
   .op (.lenL (.x 0)) (
   .op (.bin .lss (.x 6) (.x 7)) (
   .ite (.x 8)
    (.op (.elem 1 (.x 0) (.x 6)) (
    .chk (.lt (.x 9) 0) (
    .op (.lenS (.cell 9 0)) (
    .op (.bin .sub (.x 5) (.x 10)) (
    .op (.bin .lss (.x 11) (.c (.v (.int .i64 0)))) (
    .ite (.x 12)
     (.esc (.esc (.ret [(.c (.v (.int .i64 (-1))))])))
     (.op (.bin .add (.x 6) (.c (.v (.int .i64 1)))) (
     .jump [(.x 11), (.x 13)]))))))))
    (.esc (.jump [(.x 5)])))))) (
 .ret [(.x 5)])))))

theorem T.laws_szStringS_l : leftF Try.prog [] FL Try.f135 = some (2, T.laws_szStringS) := by kernel_rfl

theorem T.laws_szStringS_con {args : List AV} {res : AV} (hl : args.length = 2) (hn : AV.norefs args = true) (hw : wpT Try.prog (fun _ _ _ => False) (fun a => a = res) T.laws_szStringS args []) : PCon Try.prog F.laws_szStringS args res :=
  con_auto Try.func135 T.laws_szStringS_l hl hn hw

def T.laws_szCtorS : T :=
.op (.lenL (.x 0)) (
.op (.bin .sub (.x 1) (.x 2)) (
.op (.bin .lss (.x 3) (.c (.v (.int .i64 0)))) (
.ite (.x 4)
 (.ret [(.c (.v (.int .i64 (-1))))])
 (.bind 1 (
  .loop [(.x 3), (.c (.v (.int .i64 0)))] (
   .op (.lenL (.x 0)) (
   .op (.bin .lss (.x 6) (.x 7)) (
   .ite (.x 8)
    (.op (.elem 7 (.x 0) (.x 6)) (
    .chk (.cells (.x 9) 7) (
    .op (.call F.laws_szCtor [(.x 9), (.x 5)] false) (
    .op (.bin .lss (.x 10) (.c (.v (.int .i64 0)))) (
    .ite (.x 11)
     (.esc (.esc (.ret [(.c (.v (.int .i64 (-1))))])))
     (.op (.bin .add (.x 6) (.c (.v (.int .i64 1)))) (
     .jump [(.x 10), (.x 12)])))))))
    (.esc (.jump [(.x 5)])))))) (
 .ret [(.x 5)])))))

theorem T.laws_szCtorS_l : leftF Try.prog [] FL Try.f136 = some (2, T.laws_szCtorS) := by kernel_rfl

theorem T.laws_szCtorS_con {args : List AV} {res : AV} (hl : args.length = 2) (hn : AV.norefs args = true) (hw : wpT Try.prog (fun _ _ _ => False) (fun a => a = res) T.laws_szCtorS args []) : PCon Try.prog F.laws_szCtorS args res :=
  con_auto Try.func136 T.laws_szCtorS_l hl hn hw

def T.laws_toStringS : T :=
.op (.lenL (.x 0)) (
.op (.rep 16 (.v (.string ⟨#[]⟩)) (.x 1) (.x 1)) (
.bind 1 (
 .loop [(.x 2), (.c (.v (.int .i64 0)))] (
  .op (.lenL (.x 0)) (
  .op (.bin .lss (.x 4) (.x 5)) (
  .ite (.x 6)
   (.op (.elem 1 (.x 0) (.x 4)) (
   .chk (.lt (.x 7) 0) (
   .chk (.idx (.x 3) (.x 4)) (
   .chk (.one (.cell 7 0)) (
   .op (.set (.x 3) (.x 4) 0 1 (.cell 7 0)) (
   .op (.bin .add (.x 4) (.c (.v (.int .i64 1)))) (
   .jump [(.x 8), (.x 9)])))))))
   (.esc (.jump [(.x 3)])))))) (
.ret [(.sl (.x 3))])))

theorem T.laws_toStringS_l : leftF Try.prog [] FL Try.f137 = some (1, T.laws_toStringS) := by kernel_rfl

theorem T.laws_toStringS_con {args : List AV} {res : AV} (hl : args.length = 1) (hn : AV.norefs args = true) (hw : wpT Try.prog (fun _ _ _ => False) (fun a => a = res) T.laws_toStringS args []) : PCon Try.prog F.laws_toStringS args res :=
  con_auto Try.func137 T.laws_toStringS_l hl hn hw

def T.laws_toCtorS : T :=
.op (.lenL (.x 0)) (
.op (.rep 88 (.agg [(.v (.string ⟨#[]⟩)), (.v (.bool false)), (.v (.int .i64 0)), (.v (.string ⟨#[]⟩)), (.v (.int .i64 0)), .nils, (.v (.int .i64 0))]) (.x 1) (.x 1)) (
.bind 1 (
 .loop [(.x 2), (.c (.v (.int .i64 0)))] (
  .op (.lenL (.x 0)) (
  .op (.bin .lss (.x 4) (.x 5)) (
  .ite (.x 6)
   (.op (.elem 7 (.x 0) (.x 4)) (
   .chk (.cells (.x 7) 7) (
   .op (.call F.laws_toCtor [(.x 7)] false) (
   .chk (.idx (.x 3) (.x 4)) (
   .chk (.cells (.x 8) 7) (
   .op (.set (.x 3) (.x 4) 0 7 (.x 8)) (
   .op (.bin .add (.x 4) (.c (.v (.int .i64 1)))) (
   .jump [(.x 9), (.x 10)]))))))))
   (.esc (.jump [(.x 3)])))))) (
.ret [(.sl (.x 3))])))

theorem T.laws_toCtorS_l : leftF Try.prog [] FL Try.f138 = some (1, T.laws_toCtorS) := by kernel_rfl

theorem T.laws_toCtorS_con {args : List AV} {res : AV} (hl : args.length = 1) (hn : AV.norefs args = true) (hw : wpT Try.prog (fun _ _ _ => False) (fun a => a = res) T.laws_toCtorS args []) : PCon Try.prog F.laws_toCtorS args res :=
  con_auto Try.func138 T.laws_toCtorS_l hl hn hw

def T.slices_EqualFunc__impl_Pat__impl_Pat_impl_Pat_impl_Pat : T :=
.op (.lenL (.x 0)) (
.op (.lenL (.x 1)) (
.op (.bin .neq (.x 3) (.x 4)) (
.ite (.x 5)
 (.ret [(.c (.v (.bool false)))])
 (.bind 0 (
  .op (.lenL (.x 0)) (
  .loop [(.c (.v (.int .i64 0)))] (
   .op (.bin .lss (.x 7) (.x 6)) (
   .ite (.x 8)
    (.op (.elem 5 (.x 0) (.x 7)) (
    .chk (.cells (.x 9) 5) (
    .chk (.cells (.x 9) 5) (
    .op (.elem 5 (.x 1) (.x 7)) (
    .chk (.cells (.x 10) 5) (
    .chk (.cells (.x 10) 5) (
    .chk (.cells (.x 9) 5) (
    .chk (.cells (.x 10) 5) (
    .op (.callv (.x 2) [(.x 9), (.x 10)] false) (
    .op (.un .not (.x 11)) (
    .ite (.x 12)
     (.esc (.esc (.ret [(.c (.v (.bool false)))])))
     (.op (.bin .add (.x 7) (.c (.v (.int .i64 1)))) (
     .jump [(.x 13)])))))))))))))
    (.esc (.jump [])))))) (
 .ret [(.c (.v (.bool true)))])))))

theorem T.slices_EqualFunc__impl_Pat__impl_Pat_impl_Pat_impl_Pat_l : leftF Try.prog [] FL Try.f139 = some (3, T.slices_EqualFunc__impl_Pat__impl_Pat_impl_Pat_impl_Pat) := by kernel_rfl

theorem T.slices_EqualFunc__impl_Pat__impl_Pat_impl_Pat_impl_Pat_con {args : List AV} {res : AV} (hl : args.length = 3) (hn : AV.norefs args = true) (hw : wpT Try.prog (fun _ _ _ => False) (fun a => a = res) T.slices_EqualFunc__impl_Pat__impl_Pat_impl_Pat_impl_Pat args []) : PCon Try.prog F.slices_EqualFunc__impl_Pat__impl_Pat_impl_Pat_impl_Pat args res :=
  con_auto Try.func139 T.slices_EqualFunc__impl_Pat__impl_Pat_impl_Pat_impl_Pat_l hl hn hw

def T.laws_eqStringS : T :=
.op (.lenL (.x 0)) (
.op (.lenL (.x 1)) (
.op (.bin .neq (.x 2) (.x 3)) (
.ite (.x 4)
 (.ret [(.c (.v (.bool false)))])
 (.bind 0 (
  .loop [(.c (.v (.int .i64 0)))] (
   .op (.lenL (.x 0)) (
   .op (.bin .lss (.x 5) (.x 6)) (
   .ite (.x 7)
    (.op (.elem 1 (.x 0) (.x 5)) (
    .chk (.lt (.x 8) 0) (
    .op (.elem 1 (.x 1) (.x 5)) (
    .chk (.lt (.x 9) 0) (
    .op (.bin .neq (.cell 8 0) (.cell 9 0)) (
    .ite (.x 10)
     (.esc (.esc (.ret [(.c (.v (.bool false)))])))
     (.op (.bin .add (.x 5) (.c (.v (.int .i64 1)))) (
     .jump [(.x 11)]))))))))
    (.esc (.jump [])))))) (
 .ret [(.c (.v (.bool true)))])))))

theorem T.laws_eqStringS_l : leftF Try.prog [] FL Try.f140 = some (2, T.laws_eqStringS) := by kernel_rfl

theorem T.laws_eqStringS_con {args : List AV} {res : AV} (hl : args.length = 2) (hn : AV.norefs args = true) (hw : wpT Try.prog (fun _ _ _ => False) (fun a => a = res) T.laws_eqStringS args []) : PCon Try.prog F.laws_eqStringS args res :=
  con_auto Try.func140 T.laws_eqStringS_l hl hn hw

def T.laws_eqCtorS : T :=
.op (.lenL (.x 0)) (
.op (.lenL (.x 1)) (
.op (.bin .neq (.x 2) (.x 3)) (
.ite (.x 4)
 (.ret [(.c (.v (.bool false)))])
 (.bind 0 (
  .loop [(.c (.v (.int .i64 0)))] (
   .op (.lenL (.x 0)) (
   .op (.bin .lss (.x 5) (.x 6)) (
   .ite (.x 7)
    (.op (.elem 7 (.x 0) (.x 5)) (
    .chk (.cells (.x 8) 7) (
    .op (.elem 7 (.x 1) (.x 5)) (
    .chk (.cells (.x 9) 7) (
    .op (.call F.laws_eqCtor [(.x 8), (.x 9)] false) (
    .op (.un .not (.x 10)) (
    .ite (.x 11)
     (.esc (.esc (.ret [(.c (.v (.bool false)))])))
     (.op (.bin .add (.x 5) (.c (.v (.int .i64 1)))) (
     .jump [(.x 12)])))))))))
    (.esc (.jump [])))))) (
 .ret [(.c (.v (.bool true)))])))))

theorem T.laws_eqCtorS_l : leftF Try.prog [] FL Try.f141 = some (2, T.laws_eqCtorS) := by kernel_rfl

theorem T.laws_eqCtorS_con {args : List AV} {res : AV} (hl : args.length = 2) (hn : AV.norefs args = true) (hw : wpT Try.prog (fun _ _ _ => False) (fun a => a = res) T.laws_eqCtorS args []) : PCon Try.prog F.laws_eqCtorS args res :=
  con_auto Try.func141 T.laws_eqCtorS_l hl hn hw

def T.spec_l19Bound : T :=
.bind 0 (
 .op (.lenL (.x 0)) (
 .op (.bin .sub (.x 2) (.c (.v (.int .i64 1)))) (
 .loop [(.x 3)] (
  .op (.bin .geq (.x 4) (.c (.v (.int .i64 0)))) (
  .ite (.x 5)
   (.op (.elem 1 (.x 0) (.x 4)) (
   .chk (.lt (.x 6) 0) (
   .op (.bin .eql (.cell 6 0) (.x 1)) (
   .ite (.x 7)
    (.esc (.esc (.ret [(.x 4)])))
    (.op (.bin .sub (.x 4) (.c (.v (.int .i64 1)))) (
    .jump [(.x 8)]))))))
   (.esc (.jump []))))))) (
.ret [(.c (.v (.int .i64 (-1))))])

theorem T.spec_l19Bound_l : leftF Try.prog [] FL Try.f142 = some (2, T.spec_l19Bound) := by kernel_rfl

theorem T.spec_l19Bound_con {args : List AV} {res : AV} (hl : args.length = 2) (hn : AV.norefs args = true) (hw : wpT Try.prog (fun _ _ _ => False) (fun a => a = res) T.spec_l19Bound args []) : PCon Try.prog F.spec_l19Bound args res :=
  con_auto Try.func142 T.spec_l19Bound_l hl hn hw

-- slices_Grow_impl_names_string: code not covered
def T.spec_l1Num : T :=
.op (.call F.spec_l1In [(.x 0), (.c (.v (.int .i64 48))), (.c (.v (.int .i64 57)))] false) (
.ret [(.x 1)])

theorem T.spec_l1Num_l : leftF Try.prog [] FL Try.f144 = some (1, T.spec_l1Num) := by kernel_rfl

theorem T.spec_l1Num_con {args : List AV} {res : AV} (hl : args.length = 1) (hn : AV.norefs args = true) (hw : wpT Try.prog (fun _ _ _ => False) (fun a => a = res) T.spec_l1Num args []) : PCon Try.prog F.spec_l1Num args res :=
  con_auto Try.func144 T.spec_l1Num_l hl hn hw

def T.slices_ContainsFunc__impl_TypeExp_impl_TypeExp : T :=
.op (.call F.slices_IndexFunc__impl_TypeExp_impl_TypeExp [(.x 0), (.x 1)] false) (
.op (.bin .geq (.x 2) (.c (.v (.int .i64 0)))) (
.ret [(.x 3)]))

theorem T.slices_ContainsFunc__impl_TypeExp_impl_TypeExp_l : leftF Try.prog [] FL Try.f145 = some (2, T.slices_ContainsFunc__impl_TypeExp_impl_TypeExp) := by kernel_rfl

theorem T.slices_ContainsFunc__impl_TypeExp_impl_TypeExp_con {args : List AV} {res : AV} (hl : args.length = 2) (hn : AV.norefs args = true) (hw : wpT Try.prog (fun _ _ _ => False) (fun a => a = res) T.slices_ContainsFunc__impl_TypeExp_impl_TypeExp args []) : PCon Try.prog F.slices_ContainsFunc__impl_TypeExp_impl_TypeExp args res :=
  con_auto Try.func145 T.slices_ContainsFunc__impl_TypeExp_impl_TypeExp_l hl hn hw

def T.impl_typeOk_1 : T :=
.chk (.cells (.x 0) 4) (
.chk (.cells (.x 0) 4) (
.op (.call F.impl_typeOk [(.x 0)] false) (
.op (.un .not (.x 1)) (
.ret [(.x 2)]))))

theorem T.impl_typeOk_1_l : leftF Try.prog [] FL Try.f146 = some (1, T.impl_typeOk_1) := by kernel_rfl

theorem T.impl_typeOk_1_con {args : List AV} {res : AV} (hl : args.length = 1) (hn : AV.norefs args = true) (hw : wpT Try.prog (fun _ _ _ => False) (fun a => a = res) T.impl_typeOk_1 args []) : PCon Try.prog F.impl_typeOk_1 args res :=
  con_auto Try.func146 T.impl_typeOk_1_l hl hn hw

def T.slices_IndexFunc__string_string : T :=
.bind 0 (
 .op (.lenL (.x 0)) (
 .loop [(.c (.v (.int .i64 0)))] (
  .op (.bin .lss (.x 3) (.x 2)) (
  .ite (.x 4)
   (.op (.elem 1 (.x 0) (.x 3)) (
   .chk (.lt (.x 5) 0) (
   .op (.callv (.x 1) [(.cell 5 0)] false) (
   .ite (.x 6)
    (.esc (.esc (.ret [(.x 3)])))
    (.op (.bin .add (.x 3) (.c (.v (.int .i64 1)))) (
    .jump [(.x 7)]))))))
   (.esc (.jump [])))))) (
.ret [(.c (.v (.int .i64 (-1))))])

theorem T.slices_IndexFunc__string_string_l : leftF Try.prog [] FL Try.f147 = some (2, T.slices_IndexFunc__string_string) := by kernel_rfl

theorem T.slices_IndexFunc__string_string_con {args : List AV} {res : AV} (hl : args.length = 2) (hn : AV.norefs args = true) (hw : wpT Try.prog (fun _ _ _ => False) (fun a => a = res) T.slices_IndexFunc__string_string args []) : PCon Try.prog F.slices_IndexFunc__string_string args res :=
  con_auto Try.func147 T.slices_IndexFunc__string_string_l hl hn hw

def T.impl_run : T :=
.bind 1 (
 .loop [(.x 1)] (
  .bind 0 (
   .bind 1 (
    .op (.lenS (.x 0)) (
    .op (.bin .lss (.x 3) (.x 4)) (
    .ite (.x 5)
     (.op (.idxS (.x 0) (.x 3)) (
     .op (.callv (.x 2) [(.x 6)] false) (
     .jump [(.x 7)])))
     (.jump [(.c (.v (.bool false)))])))) (
   .ite (.x 4)
    (.jump [])
    (.esc (.esc (.jump [(.x 3)]))))) (
  .op (.bin .add (.x 3) (.c (.v (.int .i64 1)))) (
  .jump [(.x 4)])))) (
.ret [(.x 3)])

theorem T.impl_run_l : leftF Try.prog [] FL Try.f148 = some (3, T.impl_run) := by kernel_rfl

theorem T.impl_run_con {args : List AV} {res : AV} (hl : args.length = 3) (hn : AV.norefs args = true) (hw : wpT Try.prog (fun _ _ _ => False) (fun a => a = res) T.impl_run args []) : PCon Try.prog F.impl_run args res :=
  con_auto Try.func148 T.impl_run_l hl hn hw

def T.impl_nameByte : T :=
.bind 1 (
 .op (.call F.impl_small [(.x 0)] false) (
 .ite (.x 1)
  (.jump [(.c (.v (.bool true)))])
  (.op (.call F.impl_great [(.x 0)] false) (
  .ite (.x 2)
   (.jump [(.c (.v (.bool true)))])
   (.op (.call F.impl_digit [(.x 0)] false) (
   .ite (.x 3)
    (.jump [(.c (.v (.bool true)))])
    (.op (.bin .eql (.x 0) (.c (.v (.int .u8 95)))) (
    .jump [(.x 4)])))))))) (
.ret [(.x 1)])

theorem T.impl_nameByte_l : leftF Try.prog [] FL Try.f149 = some (1, T.impl_nameByte) := by kernel_rfl

theorem T.impl_nameByte_con {args : List AV} {res : AV} (hl : args.length = 1) (hn : AV.norefs args = true) (hw : wpT Try.prog (fun _ _ _ => False) (fun a => a = res) T.impl_nameByte args []) : PCon Try.prog F.impl_nameByte args res :=
  con_auto Try.func149 T.impl_nameByte_l hl hn hw

-- internalstringslite_Index: code not covered
def T.laws_szPatS : T :=
.op (.lenL (.x 0)) (
.op (.bin .sub (.x 1) (.x 2)) (
.op (.bin .lss (.x 3) (.c (.v (.int .i64 0)))) (
.ite (.x 4)
 (.ret [(.c (.v (.int .i64 (-1))))])
 (.bind 1 (
  .loop [(.x 3), (.c (.v (.int .i64 0)))] (
   .op (.lenL (.x 0)) (
   .op (.bin .lss (.x 6) (.x 7)) (
   .ite (.x 8)
    (.op (.elem 5 (.x 0) (.x 6)) (
    .chk (.cells (.x 9) 5) (
    .op (.call F.laws_szPat [(.x 9), (.x 5)] false) (
    .op (.bin .lss (.x 10) (.c (.v (.int .i64 0)))) (
    .ite (.x 11)
     (.esc (.esc (.ret [(.c (.v (.int .i64 (-1))))])))
     (.op (.bin .add (.x 6) (.c (.v (.int .i64 1)))) (
     .jump [(.x 10), (.x 12)])))))))
    (.esc (.jump [(.x 5)])))))) (
 .ret [(.x 5)])))))

theorem T.laws_szPatS_l : leftF Try.prog [] FL Try.f151 = some (2, T.laws_szPatS) := by kernel_rfl

theorem T.laws_szPatS_con {args : List AV} {res : AV} (hl : args.length = 2) (hn : AV.norefs args = true) (hw : wpT Try.prog (fun _ _ _ => False) (fun a => a = res) T.laws_szPatS args []) : PCon Try.prog F.laws_szPatS args res :=
  con_auto Try.func151 T.laws_szPatS_l hl hn hw

def T.laws_toPatS : T :=
.op (.lenL (.x 0)) (
.op (.rep 64 (.agg [(.v (.int .i64 0)), (.v (.string ⟨#[]⟩)), (.v (.int .i64 0)), (.v (.int .i64 0)), .nils]) (.x 1) (.x 1)) (
.bind 1 (
 .loop [(.x 2), (.c (.v (.int .i64 0)))] (
  .op (.lenL (.x 0)) (
  .op (.bin .lss (.x 4) (.x 5)) (
  .ite (.x 6)
   (.op (.elem 5 (.x 0) (.x 4)) (
   .chk (.cells (.x 7) 5) (
   .op (.call F.laws_toPat [(.x 7)] false) (
   .chk (.idx (.x 3) (.x 4)) (
   .chk (.cells (.x 8) 5) (
   .op (.set (.x 3) (.x 4) 0 5 (.x 8)) (
   .op (.bin .add (.x 4) (.c (.v (.int .i64 1)))) (
   .jump [(.x 9), (.x 10)]))))))))
   (.esc (.jump [(.x 3)])))))) (
.ret [(.sl (.x 3))])))

theorem T.laws_toPatS_l : leftF Try.prog [] FL Try.f152 = some (1, T.laws_toPatS) := by kernel_rfl

theorem T.laws_toPatS_con {args : List AV} {res : AV} (hl : args.length = 1) (hn : AV.norefs args = true) (hw : wpT Try.prog (fun _ _ _ => False) (fun a => a = res) T.laws_toPatS args []) : PCon Try.prog F.laws_toPatS args res :=
  con_auto Try.func152 T.laws_toPatS_l hl hn hw

def T.slices_Index__string_string : T :=
.bind 0 (
 .op (.lenL (.x 0)) (
 .loop [(.c (.v (.int .i64 0)))] (
  .op (.bin .lss (.x 3) (.x 2)) (
  .ite (.x 4)
   (.op (.elem 1 (.x 0) (.x 3)) (
   .chk (.lt (.x 5) 0) (
   .op (.bin .eql (.x 1) (.cell 5 0)) (
   .ite (.x 6)
    (.esc (.esc (.ret [(.x 3)])))
    (.op (.bin .add (.x 3) (.c (.v (.int .i64 1)))) (
    .jump [(.x 7)]))))))
   (.esc (.jump [])))))) (
.ret [(.c (.v (.int .i64 (-1))))])

theorem T.slices_Index__string_string_l : leftF Try.prog [] FL Try.f153 = some (2, T.slices_Index__string_string) := by kernel_rfl

theorem T.slices_Index__string_string_con {args : List AV} {res : AV} (hl : args.length = 2) (hn : AV.norefs args = true) (hw : wpT Try.prog (fun _ _ _ => False) (fun a => a = res) T.slices_Index__string_string args []) : PCon Try.prog F.slices_Index__string_string args res :=
  con_auto Try.func153 T.slices_Index__string_string_l hl hn hw

def T.laws_eqPatS : T :=
.op (.lenL (.x 0)) (
.op (.lenL (.x 1)) (
.op (.bin .neq (.x 2) (.x 3)) (
.ite (.x 4)
 (.ret [(.c (.v (.bool false)))])
 (.bind 0 (
  .loop [(.c (.v (.int .i64 0)))] (
   .op (.lenL (.x 0)) (
   .op (.bin .lss (.x 5) (.x 6)) (
   .ite (.x 7)
    (.op (.elem 5 (.x 0) (.x 5)) (
    .chk (.cells (.x 8) 5) (
    .op (.elem 5 (.x 1) (.x 5)) (
    .chk (.cells (.x 9) 5) (
    .op (.call F.laws_eqPat [(.x 8), (.x 9)] false) (
    .op (.un .not (.x 10)) (
    .ite (.x 11)
     (.esc (.esc (.ret [(.c (.v (.bool false)))])))
     (.op (.bin .add (.x 5) (.c (.v (.int .i64 1)))) (
     .jump [(.x 12)])))))))))
    (.esc (.jump [])))))) (
 .ret [(.c (.v (.bool true)))])))))

theorem T.laws_eqPatS_l : leftF Try.prog [] FL Try.f154 = some (2, T.laws_eqPatS) := by kernel_rfl

theorem T.laws_eqPatS_con {args : List AV} {res : AV} (hl : args.length = 2) (hn : AV.norefs args = true) (hw : wpT Try.prog (fun _ _ _ => False) (fun a => a = res) T.laws_eqPatS args []) : PCon Try.prog F.laws_eqPatS args res :=
  con_auto Try.func154 T.laws_eqPatS_l hl hn hw

def T.laws_szCtor : T :=
.chk (.cells (.x 0) 7) (
.op (.lenS (.cell 0 0)) (
.op (.bin .sub (.x 1) (.x 2)) (
.op (.bin .lss (.x 3) (.c (.v (.int .i64 0)))) (
.ite (.x 4)
 (.ret [(.c (.v (.int .i64 (-1))))])
 (.op (.call F.laws_szTypeExp [(.agg [(.cell 0 2), (.cell 0 3), (.cell 0 4), (.cell 0 5)]), (.x 3)] false) (
 .op (.bin .lss (.x 5) (.c (.v (.int .i64 0)))) (
 .ite (.x 6)
  (.ret [(.c (.v (.int .i64 (-1))))])
  (.ret [(.x 5)]))))))))

theorem T.laws_szCtor_l : leftF Try.prog [] FL Try.f155 = some (2, T.laws_szCtor) := by kernel_rfl

theorem T.laws_szCtor_con {args : List AV} {res : AV} (hl : args.length = 2) (hn : AV.norefs args = true) (hw : wpT Try.prog (fun _ _ _ => False) (fun a => a = res) T.laws_szCtor args []) : PCon Try.prog F.laws_szCtor args res :=
  con_auto Try.func155 T.laws_szCtor_l hl hn hw

def T.laws_toCtor : T :=
.chk (.cells (.x 0) 7) (
.chk (.one (.cell 0 0)) (
.chk (.one (.cell 0 1)) (
.op (.call F.laws_toTypeExp [(.agg [(.cell 0 2), (.cell 0 3), (.cell 0 4), (.cell 0 5)])] false) (
.chk (.cells (.x 1) 4) (
.chk (.one (.cell 0 6)) (
.chk (.cells (.agg [(.cell 0 0), (.cell 0 1), (.cell 1 0), (.cell 1 1), (.cell 1 2), (.cell 1 3), (.cell 0 6)]) 7) (
.ret [(.agg [(.cell 0 0), (.cell 0 1), (.cell 1 0), (.cell 1 1), (.cell 1 2), (.cell 1 3), (.cell 0 6)])])))))))

theorem T.laws_toCtor_l : leftF Try.prog [] FL Try.f156 = some (1, T.laws_toCtor) := by kernel_rfl

theorem T.laws_toCtor_con {args : List AV} {res : AV} (hl : args.length = 1) (hn : AV.norefs args = true) (hw : wpT Try.prog (fun _ _ _ => False) (fun a => a = res) T.laws_toCtor args []) : PCon Try.prog F.laws_toCtor args res :=
  con_auto Try.func156 T.laws_toCtor_l hl hn hw

def T.laws_eqCtor : T :=
.chk (.cells (.x 0) 7) (
.chk (.cells (.x 1) 7) (
.op (.bin .neq (.cell 0 0) (.cell 1 0)) (
.ite (.x 2)
 (.ret [(.c (.v (.bool false)))])
 (.op (.beq true (.cell 0 1) (.cell 1 1)) (
 .ite (.x 3)
  (.ret [(.c (.v (.bool false)))])
  (.op (.call F.laws_eqTypeExp [(.agg [(.cell 0 2), (.cell 0 3), (.cell 0 4), (.cell 0 5)]), (.agg [(.cell 1 2), (.cell 1 3), (.cell 1 4), (.cell 1 5)])] false) (
  .op (.un .not (.x 4)) (
  .ite (.x 5)
   (.ret [(.c (.v (.bool false)))])
   (.op (.bin .neq (.cell 0 6) (.cell 1 6)) (
   .ite (.x 6)
    (.ret [(.c (.v (.bool false)))])
    (.ret [(.c (.v (.bool true)))])))))))))))

theorem T.laws_eqCtor_l : leftF Try.prog [] FL Try.f157 = some (2, T.laws_eqCtor) := by kernel_rfl

theorem T.laws_eqCtor_con {args : List AV} {res : AV} (hl : args.length = 2) (hn : AV.norefs args = true) (hw : wpT Try.prog (fun _ _ _ => False) (fun a => a = res) T.laws_eqCtor args []) : PCon Try.prog F.laws_eqCtor args res :=
  con_auto Try.func157 T.laws_eqCtor_l hl hn hw

def T.slices_IndexFunc__impl_TypeExp_impl_TypeExp : T :=
.bind 0 (
 .op (.lenL (.x 0)) (
 .loop [(.c (.v (.int .i64 0)))] (
  .op (.bin .lss (.x 3) (.x 2)) (
  .ite (.x 4)
   (.op (.elem 4 (.x 0) (.x 3)) (
   .chk (.cells (.x 5) 4) (
   .op (.callv (.x 1) [(.x 5)] false) (
   .ite (.x 6)
    (.esc (.esc (.ret [(.x 3)])))
    (.op (.bin .add (.x 3) (.c (.v (.int .i64 1)))) (
    .jump [(.x 7)]))))))
   (.esc (.jump [])))))) (
.ret [(.c (.v (.int .i64 (-1))))])

theorem T.slices_IndexFunc__impl_TypeExp_impl_TypeExp_l : leftF Try.prog [] FL Try.f158 = some (2, T.slices_IndexFunc__impl_TypeExp_impl_TypeExp) := by kernel_rfl

theorem T.slices_IndexFunc__impl_TypeExp_impl_TypeExp_con {args : List AV} {res : AV} (hl : args.length = 2) (hn : AV.norefs args = true) (hw : wpT Try.prog (fun _ _ _ => False) (fun a => a = res) T.slices_IndexFunc__impl_TypeExp_impl_TypeExp args []) : PCon Try.prog F.slices_IndexFunc__impl_TypeExp_impl_TypeExp args res :=
  con_auto Try.func158 T.slices_IndexFunc__impl_TypeExp_impl_TypeExp_l hl hn hw

def T.impl_digit : T :=
.bind 1 (
 .op (.bin .geq (.x 0) (.c (.v (.int .u8 48)))) (
 .ite (.x 1)
  (.op (.bin .leq (.x 0) (.c (.v (.int .u8 57)))) (
  .jump [(.x 2)]))
  (.jump [(.c (.v (.bool false)))]))) (
.ret [(.x 1)])

theorem T.impl_digit_l : leftF Try.prog [] FL Try.f159 = some (1, T.impl_digit) := by kernel_rfl

theorem T.impl_digit_con {args : List AV} {res : AV} (hl : args.length = 1) (hn : AV.norefs args = true) (hw : wpT Try.prog (fun _ _ _ => False) (fun a => a = res) T.impl_digit args []) : PCon Try.prog F.impl_digit args res :=
  con_auto Try.func159 T.impl_digit_l hl hn hw

def T.internalstringslite_IndexByte : T :=
.op (.call F.internalbytealg_IndexByteString [(.x 0), (.x 1)] false) (
.ret [(.x 2)])

theorem T.internalstringslite_IndexByte_l : leftF Try.prog [] FL Try.f160 = some (2, T.internalstringslite_IndexByte) := by kernel_rfl

theorem T.internalstringslite_IndexByte_con {args : List AV} {res : AV} (hl : args.length = 2) (hn : AV.norefs args = true) (hw : wpT Try.prog (fun _ _ _ => False) (fun a => a = res) T.internalstringslite_IndexByte args []) : PCon Try.prog F.internalstringslite_IndexByte args res :=
  con_auto Try.func160 T.internalstringslite_IndexByte_l hl hn hw

def T.internalbytealg_Cutover : T :=
.op (.bin .add (.x 0) (.c (.v (.int .i64 16)))) (
.op (.bin .quo (.x 1) (.c (.v (.int .i64 8)))) (
.ret [(.x 2)]))

theorem T.internalbytealg_Cutover_l : leftF Try.prog [] FL Try.f162 = some (1, T.internalbytealg_Cutover) := by kernel_rfl

theorem T.internalbytealg_Cutover_con {args : List AV} {res : AV} (hl : args.length = 1) (hn : AV.norefs args = true) (hw : wpT Try.prog (fun _ _ _ => False) (fun a => a = res) T.internalbytealg_Cutover args []) : PCon Try.prog F.internalbytealg_Cutover args res :=
  con_auto Try.func162 T.internalbytealg_Cutover_l hl hn hw

def T.internalbytealg_IndexRabinKarp_string : T :=
.op (.call F.internalbytealg_hashStr_string [(.x 1)] false) (
.chk (.tup (.x 2) 0) (
.chk (.tup (.x 2) 1) (
.op (.lenS (.x 1)) (
.bind 1 (
 .loop [(.c (.v (.int .u32 0))), (.c (.v (.int .i64 0)))] (
  .op (.bin .lss (.x 5) (.x 3)) (
  .ite (.x 6)
   (.op (.bin .mul (.x 4) (.c (.v (.int .u32 16777619)))) (
   .op (.idxS (.x 0) (.x 5)) (
   .op (.conv .u32 (.x 8)) (
   .op (.bin .add (.x 7) (.x 9)) (
   .op (.bin .add (.x 5) (.c (.v (.int .i64 1)))) (
   .jump [(.x 10), (.x 11)]))))))
   (.esc (.jump [(.x 4)]))))) (
.bind 0 (
 .bind 1 (
  .op (.bin .eql (.x 4) (.ext 2 0)) (
  .ite (.x 5)
   (.op (.sliceS (.x 0) none (some (.x 3))) (
   .op (.bin .eql (.x 6) (.x 1)) (
   .jump [(.x 7)])))
   (.jump [(.c (.v (.bool false)))]))) (
 .ite (.x 5)
  (.esc (.ret [(.c (.v (.int .i64 0)))]))
  (.jump []))) (
.bind 0 (
 .loop [(.x 4), (.x 3)] (
  .op (.lenS (.x 0)) (
  .op (.bin .lss (.x 6) (.x 7)) (
  .ite (.x 8)
   (.op (.bin .mul (.x 5) (.c (.v (.int .u32 16777619)))) (
   .op (.idxS (.x 0) (.x 6)) (
   .op (.conv .u32 (.x 10)) (
   .op (.bin .add (.x 9) (.x 11)) (
   .op (.bin .sub (.x 6) (.x 3)) (
   .op (.idxS (.x 0) (.x 13)) (
   .op (.conv .u32 (.x 14)) (
   .op (.bin .mul (.ext 2 1) (.x 15)) (
   .op (.bin .sub (.x 12) (.x 16)) (
   .op (.bin .add (.x 6) (.c (.v (.int .i64 1)))) (
   .bind 1 (
    .op (.bin .eql (.x 17) (.ext 2 0)) (
    .ite (.x 19)
     (.op (.bin .sub (.x 18) (.x 3)) (
     .op (.sliceS (.x 0) (some (.x 20)) (some (.x 18))) (
     .op (.bin .eql (.x 21) (.x 1)) (
     .jump [(.x 22)]))))
     (.jump [(.c (.v (.bool false)))]))) (
   .ite (.x 19)
    (.op (.bin .sub (.x 18) (.x 3)) (
    .esc (.esc (.ret [(.x 20)]))))
    (.jump [(.x 17), (.x 18)])))))))))))))
   (.esc (.jump [])))))) (
.ret [(.c (.v (.int .i64 (-1))))])))))))

theorem T.internalbytealg_IndexRabinKarp_string_l : leftF Try.prog [] FL Try.f163 = some (2, T.internalbytealg_IndexRabinKarp_string) := by kernel_rfl

theorem T.internalbytealg_IndexRabinKarp_string_con {args : List AV} {res : AV} (hl : args.length = 2) (hn : AV.norefs args = true) (hw : wpT Try.prog (fun _ _ _ => False) (fun a => a = res) T.internalbytealg_IndexRabinKarp_string args []) : PCon Try.prog F.internalbytealg_IndexRabinKarp_string args res :=
  con_auto Try.func163 T.internalbytealg_IndexRabinKarp_string_l hl hn hw

def T.laws_szTypeExp : T :=
.chk (.cells (.x 0) 4) (
.op (.lenS (.cell 0 1)) (
.op (.bin .sub (.x 1) (.x 2)) (
.op (.bin .lss (.x 3) (.c (.v (.int .i64 0)))) (
.ite (.x 4)
 (.ret [(.c (.v (.int .i64 (-1))))])
 (.op (.call F.laws_szTypeExpS [(.cell 0 3), (.x 3)] false) (
 .op (.bin .lss (.x 5) (.c (.v (.int .i64 0)))) (
 .ite (.x 6)
  (.ret [(.c (.v (.int .i64 (-1))))])
  (.ret [(.x 5)]))))))))

theorem T.laws_szTypeExp_l : leftF Try.prog [] FL Try.f164 = some (2, T.laws_szTypeExp) := by kernel_rfl

theorem T.laws_szTypeExp_con {args : List AV} {res : AV} (hl : args.length = 2) (hn : AV.norefs args = true) (hw : wpT Try.prog (fun _ _ _ => False) (fun a => a = res) T.laws_szTypeExp args []) : PCon Try.prog F.laws_szTypeExp args res :=
  con_auto Try.func164 T.laws_szTypeExp_l hl hn hw

def T.laws_toTypeExp : T :=
.chk (.cells (.x 0) 4) (
.chk (.one (.cell 0 0)) (
.chk (.one (.cell 0 1)) (
.chk (.one (.cell 0 2)) (
.op (.call F.laws_toTypeExpS [(.cell 0 3)] false) (
.chk (.one (.x 1)) (
.chk (.cells (.agg [(.cell 0 0), (.cell 0 1), (.cell 0 2), (.x 1)]) 4) (
.ret [(.agg [(.cell 0 0), (.cell 0 1), (.cell 0 2), (.x 1)])])))))))

theorem T.laws_toTypeExp_l : leftF Try.prog [] FL Try.f165 = some (1, T.laws_toTypeExp) := by kernel_rfl

theorem T.laws_toTypeExp_con {args : List AV} {res : AV} (hl : args.length = 1) (hn : AV.norefs args = true) (hw : wpT Try.prog (fun _ _ _ => False) (fun a => a = res) T.laws_toTypeExp args []) : PCon Try.prog F.laws_toTypeExp args res :=
  con_auto Try.func165 T.laws_toTypeExp_l hl hn hw

def T.laws_eqTypeExp : T :=
.chk (.cells (.x 0) 4) (
.chk (.cells (.x 1) 4) (
.op (.bin .neq (.cell 0 0) (.cell 1 0)) (
.ite (.x 2)
 (.ret [(.c (.v (.bool false)))])
 (.op (.bin .neq (.cell 0 1) (.cell 1 1)) (
 .ite (.x 3)
  (.ret [(.c (.v (.bool false)))])
  (.op (.bin .neq (.cell 0 2) (.cell 1 2)) (
  .ite (.x 4)
   (.ret [(.c (.v (.bool false)))])
   (.op (.call F.laws_eqTypeExpS [(.cell 0 3), (.cell 1 3)] false) (
   .op (.un .not (.x 5)) (
   .ite (.x 6)
    (.ret [(.c (.v (.bool false)))])
    (.ret [(.c (.v (.bool true)))])))))))))))

theorem T.laws_eqTypeExp_l : leftF Try.prog [] FL Try.f166 = some (2, T.laws_eqTypeExp) := by kernel_rfl

theorem T.laws_eqTypeExp_con {args : List AV} {res : AV} (hl : args.length = 2) (hn : AV.norefs args = true) (hw : wpT Try.prog (fun _ _ _ => False) (fun a => a = res) T.laws_eqTypeExp args []) : PCon Try.prog F.laws_eqTypeExp args res :=
  con_auto Try.func166 T.laws_eqTypeExp_l hl hn hw

def T.internalbytealg_hashStr_string : T :=
.bind 1 (
 .loop [(.c (.v (.int .u32 0))), (.c (.v (.int .i64 0)))] (
  .op (.lenS (.x 0)) (
  .op (.bin .lss (.x 2) (.x 3)) (
  .ite (.x 4)
   (.op (.bin .mul (.x 1) (.c (.v (.int .u32 16777619)))) (
   .op (.idxS (.x 0) (.x 2)) (
   .op (.conv .u32 (.x 6)) (
   .op (.bin .add (.x 5) (.x 7)) (
   .op (.bin .add (.x 2) (.c (.v (.int .i64 1)))) (
   .jump [(.x 8), (.x 9)]))))))
   (.esc (.jump [(.x 1)])))))) (
.bind 1 (
 .op (.lenS (.x 0)) (
 .loop [(.c (.v (.int .u32 1))), (.c (.v (.int .u32 16777619))), (.x 2)] (
  .op (.bin .gtr (.x 5) (.c (.v (.int .i64 0)))) (
  .ite (.x 6)
   (.bind 2 (
    .bind 1 (
     .op (.bin .and (.x 5) (.c (.v (.int .i64 1)))) (
     .op (.bin .neq (.x 7) (.c (.v (.int .i64 0)))) (
     .ite (.x 8)
      (.op (.bin .mul (.x 3) (.x 4)) (
      .jump [(.x 9)]))
      (.jump [(.x 3)])))) (
    .op (.bin .mul (.x 4) (.x 4)) (
    .jump [(.x 7), (.x 8)]))) (
   .op (.bin .shr (.x 5) (.c (.v (.int .u64 1)))) (
   .jump [(.x 7), (.x 8), (.x 9)])))
   (.esc (.jump [(.x 3)])))))) (
.ret [(.x 1), (.x 2)]))

theorem T.internalbytealg_hashStr_string_l : leftF Try.prog [] FL Try.f168 = some (1, T.internalbytealg_hashStr_string) := by kernel_rfl

theorem T.internalbytealg_hashStr_string_con {args : List AV} {res : AV} (hl : args.length = 1) (hn : AV.norefs args = true) (hw : wpT Try.prog (fun _ _ _ => False) (fun a => a = res) T.internalbytealg_hashStr_string args []) : PCon Try.prog F.internalbytealg_hashStr_string args res :=
  con_auto Try.func168 T.internalbytealg_hashStr_string_l hl hn hw

def T.laws_szTypeExpS : T :=
.op (.lenL (.x 0)) (
.op (.bin .sub (.x 1) (.x 2)) (
.op (.bin .lss (.x 3) (.c (.v (.int .i64 0)))) (
.ite (.x 4)
 (.ret [(.c (.v (.int .i64 (-1))))])
 (.bind 1 (
  .loop [(.x 3), (.c (.v (.int .i64 0)))] (
   .op (.lenL (.x 0)) (
   .op (.bin .lss (.x 6) (.x 7)) (
   .ite (.x 8)
    (.op (.elem 4 (.x 0) (.x 6)) (
    .chk (.cells (.x 9) 4) (
    .op (.call F.laws_szTypeExp [(.x 9), (.x 5)] false) (
    .op (.bin .lss (.x 10) (.c (.v (.int .i64 0)))) (
    .ite (.x 11)
     (.esc (.esc (.ret [(.c (.v (.int .i64 (-1))))])))
     (.op (.bin .add (.x 6) (.c (.v (.int .i64 1)))) (
     .jump [(.x 10), (.x 12)])))))))
    (.esc (.jump [(.x 5)])))))) (
 .ret [(.x 5)])))))

theorem T.laws_szTypeExpS_l : leftF Try.prog [] FL Try.f169 = some (2, T.laws_szTypeExpS) := by kernel_rfl

theorem T.laws_szTypeExpS_con {args : List AV} {res : AV} (hl : args.length = 2) (hn : AV.norefs args = true) (hw : wpT Try.prog (fun _ _ _ => False) (fun a => a = res) T.laws_szTypeExpS args []) : PCon Try.prog F.laws_szTypeExpS args res :=
  con_auto Try.func169 T.laws_szTypeExpS_l hl hn hw

def T.laws_toTypeExpS : T :=
.op (.lenL (.x 0)) (
.op (.rep 56 (.agg [(.v (.int .i64 0)), (.v (.string ⟨#[]⟩)), (.v (.int .i64 0)), .nils]) (.x 1) (.x 1)) (
.bind 1 (
 .loop [(.x 2), (.c (.v (.int .i64 0)))] (
  .op (.lenL (.x 0)) (
  .op (.bin .lss (.x 4) (.x 5)) (
  .ite (.x 6)
   (.op (.elem 4 (.x 0) (.x 4)) (
   .chk (.cells (.x 7) 4) (
   .op (.call F.laws_toTypeExp [(.x 7)] false) (
   .chk (.idx (.x 3) (.x 4)) (
   .chk (.cells (.x 8) 4) (
   .op (.set (.x 3) (.x 4) 0 4 (.x 8)) (
   .op (.bin .add (.x 4) (.c (.v (.int .i64 1)))) (
   .jump [(.x 9), (.x 10)]))))))))
   (.esc (.jump [(.x 3)])))))) (
.ret [(.sl (.x 3))])))

theorem T.laws_toTypeExpS_l : leftF Try.prog [] FL Try.f170 = some (1, T.laws_toTypeExpS) := by kernel_rfl

theorem T.laws_toTypeExpS_con {args : List AV} {res : AV} (hl : args.length = 1) (hn : AV.norefs args = true) (hw : wpT Try.prog (fun _ _ _ => False) (fun a => a = res) T.laws_toTypeExpS args []) : PCon Try.prog F.laws_toTypeExpS args res :=
  con_auto Try.func170 T.laws_toTypeExpS_l hl hn hw

def T.laws_eqTypeExpS : T :=
.op (.lenL (.x 0)) (
.op (.lenL (.x 1)) (
.op (.bin .neq (.x 2) (.x 3)) (
.ite (.x 4)
 (.ret [(.c (.v (.bool false)))])
 (.bind 0 (
  .loop [(.c (.v (.int .i64 0)))] (
   .op (.lenL (.x 0)) (
   .op (.bin .lss (.x 5) (.x 6)) (
   .ite (.x 7)
    (.op (.elem 4 (.x 0) (.x 5)) (
    .chk (.cells (.x 8) 4) (
    .op (.elem 4 (.x 1) (.x 5)) (
    .chk (.cells (.x 9) 4) (
    .op (.call F.laws_eqTypeExp [(.x 8), (.x 9)] false) (
    .op (.un .not (.x 10)) (
    .ite (.x 11)
     (.esc (.esc (.ret [(.c (.v (.bool false)))])))
     (.op (.bin .add (.x 5) (.c (.v (.int .i64 1)))) (
     .jump [(.x 12)])))))))))
    (.esc (.jump [])))))) (
 .ret [(.c (.v (.bool true)))])))))

theorem T.laws_eqTypeExpS_l : leftF Try.prog [] FL Try.f171 = some (2, T.laws_eqTypeExpS) := by kernel_rfl

theorem T.laws_eqTypeExpS_con {args : List AV} {res : AV} (hl : args.length = 2) (hn : AV.norefs args = true) (hw : wpT Try.prog (fun _ _ _ => False) (fun a => a = res) T.laws_eqTypeExpS args []) : PCon Try.prog F.laws_eqTypeExpS args res :=
  con_auto Try.func171 T.laws_eqTypeExpS_l hl hn hw

end Go.Proofs.Ab
