/-
  WHAT IS LEFT of this seat's functions, printed by a program of ours (wip/tool/Gen2.lean) from the translation; each with the theorem that it is what is left of that function.
-/
import Derived.Test.YtnmljeojillkpaaChecked
import Derived.KernelRfl
import Derived.Test.YtnmljeojillkpaaAbXC
set_option linter.unusedVariables false
set_option linter.unusedSimpArgs false
set_option linter.defProp false
namespace Go.Proofs.Ab
open Go.Ab
set_option maxRecDepth 100000

namespace F
abbrev laws_FnExactTokenOk : FuncId := 3
abbrev laws_FnExactStats : FuncId := 4
abbrev laws_FnExactTyOk : FuncId := 5
abbrev laws_FnExactFindCtor : FuncId := 6
abbrev laws_FnExactKSize : FuncId := 7
abbrev laws_FnRenamed : FuncId := 8
abbrev laws_FnExactExpSize : FuncId := 9
abbrev laws_FnExactFree : FuncId := 10
abbrev laws_FnExactPut : FuncId := 11
abbrev laws_FnExactPrincipal : FuncId := 12
abbrev laws_FnExactCoreSize : FuncId := 13
abbrev laws_FnExactCoreValue : FuncId := 14
abbrev laws_szToken : FuncId := 15
abbrev spec_TokenOk : FuncId := 16
abbrev laws_toToken : FuncId := 17
abbrev impl_TokenOk : FuncId := 18
abbrev laws_szCode : FuncId := 19
abbrev spec_Stats : FuncId := 20
abbrev laws_toCode : FuncId := 21
abbrev impl_Stats : FuncId := 22
abbrev laws_eqIntA16 : FuncId := 23
abbrev laws_eqCode : FuncId := 24
abbrev laws_szTy : FuncId := 25
abbrev spec_TyOk : FuncId := 26
abbrev laws_toTy : FuncId := 27
abbrev impl_TyOk : FuncId := 28
abbrev laws_eqTy : FuncId := 29
abbrev laws_szDataInfoS : FuncId := 30
abbrev spec_FindCtor : FuncId := 31
abbrev laws_toDataInfoS : FuncId := 32
abbrev impl_FindCtor : FuncId := 33
abbrev laws_eqDataInfoS : FuncId := 34
abbrev laws_szKTerm : FuncId := 35
abbrev spec_KSize : FuncId := 36
abbrev laws_toKTerm : FuncId := 37
abbrev impl_KSize : FuncId := 38
abbrev laws_eqKTerm : FuncId := 39
abbrev laws_big : FuncId := 40
abbrev laws_at : FuncId := 41
abbrev impl_Alpha : FuncId := 42
abbrev laws_szExp : FuncId := 43
abbrev spec_ExpSize : FuncId := 44
abbrev laws_toExp : FuncId := 45
abbrev impl_ExpSize : FuncId := 46
abbrev laws_eqExp : FuncId := 47
abbrev spec_Free : FuncId := 48
abbrev impl_Free : FuncId := 49
abbrev laws_eqIntS : FuncId := 50
abbrev laws_markTy : FuncId := 51
abbrev laws_markIntS : FuncId := 52
abbrev laws_heldIntS : FuncId := 53
abbrev laws_szTyS : FuncId := 54
abbrev spec_Put : FuncId := 55
abbrev laws_toTyS : FuncId := 56
abbrev impl_Put : FuncId := 57
abbrev laws_eqTyS : FuncId := 58
abbrev laws_markTyS : FuncId := 59
abbrev laws_heldTy : FuncId := 60
abbrev spec_Principal : FuncId := 61
abbrev impl_Principal : FuncId := 62
abbrev laws_szCore : FuncId := 63
abbrev spec_CoreSize : FuncId := 64
abbrev laws_toCore : FuncId := 65
abbrev impl_CoreSize : FuncId := 66
abbrev laws_eqCore : FuncId := 67
abbrev spec_CoreValue : FuncId := 68
abbrev impl_CoreValue : FuncId := 69
abbrev spec_l1Chars : FuncId := 70
abbrev spec_l1Low : FuncId := 71
abbrev spec_l1Name : FuncId := 72
abbrev spec_l1Key : FuncId := 73
abbrev spec_l1Sign : FuncId := 74
abbrev impl_plain : FuncId := 75
abbrev impl_lowOk : FuncId := 76
abbrev impl_upOk : FuncId := 77
abbrev impl_isName : FuncId := 78
abbrev impl_small : FuncId := 79
abbrev impl_isKey : FuncId := 80
abbrev slices_Contains__string_string : FuncId := 81
abbrev impl_signs : FuncId := 82
abbrev laws_szInstrS : FuncId := 83
abbrev laws_szIntS : FuncId := 84
abbrev spec_l1In : FuncId := 85
abbrev laws_toInstrS : FuncId := 86
abbrev laws_toIntS : FuncId := 87
abbrev impl_within : FuncId := 88
abbrev laws_eqInstrS : FuncId := 89
abbrev spec_l4Node : FuncId := 90
abbrev impl_tyHeadOk : FuncId := 91
abbrev slices_ContainsFunc__impl_Ty_impl_Ty : FuncId := 92
abbrev impl_TyOk_1 : FuncId := 93
abbrev laws_szDataInfo : FuncId := 94
abbrev laws_toDataInfo : FuncId := 95
abbrev slices_IndexFunc__impl_CtorInfo_impl_CtorInfo : FuncId := 96
abbrev impl_FindCtor_1 : FuncId := 97
abbrev laws_eqDataInfo : FuncId := 98
abbrev laws_szKValS : FuncId := 99
abbrev laws_szKTermS : FuncId := 100
abbrev laws_toKValS : FuncId := 101
abbrev laws_toKTermS : FuncId := 102
abbrev laws_eqKValS : FuncId := 103
abbrev laws_eqKTermS : FuncId := 104
abbrev impl_ExpOk : FuncId := 105
abbrev impl_alpha : FuncId := 106
abbrev laws_szExpS : FuncId := 107
abbrev laws_szArmS : FuncId := 108
abbrev spec_l2PatSize : FuncId := 109
abbrev laws_toExpS : FuncId := 110
abbrev laws_toArmS : FuncId := 111
abbrev impl_patSize : FuncId := 112
abbrev laws_eqExpS : FuncId := 113
abbrev laws_eqArmS : FuncId := 114
abbrev spec_l4Free : FuncId := 115
abbrev impl_isVarKind : FuncId := 116
abbrev impl_frees : FuncId := 117
abbrev spec_l4Copy : FuncId := 118
abbrev spec_l4Put : FuncId := 119
abbrev impl_copyTy : FuncId := 120
abbrev impl_put : FuncId := 121
abbrev laws_markText : FuncId := 122
abbrev laws_heldTyS : FuncId := 123
abbrev spec_l7Small : FuncId := 124
abbrev spec_l7Fits : FuncId := 125
abbrev impl_puts : FuncId := 126
abbrev laws_szCoreS : FuncId := 127
abbrev laws_szCArmS : FuncId := 128
abbrev spec_l7PatSize : FuncId := 129
abbrev laws_toCoreS : FuncId := 130
abbrev laws_toCArmS : FuncId := 131
abbrev impl_cpatSize : FuncId := 132
abbrev laws_eqCoreS : FuncId := 133
abbrev laws_eqCArmS : FuncId := 134
abbrev slices_ContainsFunc__impl_Core_impl_Core : FuncId := 135
abbrev impl_CoreValue_1 : FuncId := 136
abbrev spec_l1Upper : FuncId := 137
abbrev spec_l1Lower : FuncId := 138
abbrev spec_l1NameByte : FuncId := 139
abbrev spec_l1Signs : FuncId := 140
abbrev impl_great : FuncId := 141
abbrev impl_run : FuncId := 142
abbrev impl_nameByte : FuncId := 143
abbrev slices_Index__string_string : FuncId := 144
abbrev laws_szInstr : FuncId := 145
abbrev laws_toInstr : FuncId := 146
abbrev laws_eqInstr : FuncId := 147
abbrev slices_IndexFunc__impl_Ty_impl_Ty : FuncId := 148
abbrev laws_szCtorInfoS : FuncId := 149
abbrev laws_toCtorInfoS : FuncId := 150
abbrev laws_eqCtorInfoS : FuncId := 151
abbrev laws_szKVal : FuncId := 152
abbrev laws_toKVal : FuncId := 153
abbrev laws_eqKVal : FuncId := 154
abbrev impl_headOk : FuncId := 155
abbrev impl_patOk : FuncId := 156
abbrev impl_names_at : FuncId := 157
abbrev slices_Concat_impl_names_string : FuncId := 158
abbrev impl_bindsIn : FuncId := 159
abbrev impl_alikePat : FuncId := 160
abbrev impl_patNames : FuncId := 161
abbrev laws_szArm : FuncId := 162
abbrev laws_toArm : FuncId := 163
abbrev laws_eqArm : FuncId := 164
abbrev spec_l4Has : FuncId := 165
abbrev slices_Contains__int_int : FuncId := 166
abbrev spec_SameTy : FuncId := 167
abbrev impl_SameTy : FuncId := 168
abbrev laws_szCArm : FuncId := 169
abbrev laws_toCArm : FuncId := 170
abbrev laws_eqCArm : FuncId := 171
abbrev slices_IndexFunc__impl_Core_impl_Core : FuncId := 172
abbrev spec_l1Num : FuncId := 173
abbrev impl_digit : FuncId := 174
abbrev laws_szCtorInfo : FuncId := 175
abbrev laws_toCtorInfo : FuncId := 176
abbrev laws_eqCtorInfo : FuncId := 177
abbrev impl_binarySign : FuncId := 178
abbrev impl_primArity : FuncId := 179
abbrev slices_ContainsFunc__impl_Pat_impl_Pat : FuncId := 180
abbrev impl_patOk_1 : FuncId := 181
abbrev slices_Grow_impl_names_string : FuncId := 182
abbrev slices_EqualFunc__impl_Pat__impl_Pat_impl_Pat_impl_Pat : FuncId := 183
abbrev laws_szPat : FuncId := 184
abbrev laws_toPat : FuncId := 185
abbrev laws_eqPat : FuncId := 186
abbrev slices_Index__int_int : FuncId := 187
abbrev slices_EqualFunc__impl_Ty__impl_Ty_impl_Ty_impl_Ty : FuncId := 188
abbrev laws_szCPat : FuncId := 189
abbrev laws_toCPat : FuncId := 190
abbrev laws_eqCPat : FuncId := 191
abbrev slices_IndexFunc__impl_Pat_impl_Pat : FuncId := 192
abbrev laws_szPatS : FuncId := 193
abbrev laws_toPatS : FuncId := 194
abbrev laws_eqPatS : FuncId := 195
abbrev laws_szCPatS : FuncId := 196
abbrev laws_toCPatS : FuncId := 197
abbrev laws_eqCPatS : FuncId := 198
end F
def FL : List Nat := [3, 4, 5, 6, 7, 8, 9, 10, 11, 12, 13, 14, 15, 16, 18, 19, 23, 24, 25, 26, 28, 29, 30, 31, 33, 34, 35, 36, 38, 39, 40, 41, 42, 43, 44, 46, 47, 50, 51, 52, 53, 54, 58, 59, 60, 61, 62, 63, 64, 66, 67, 68, 69, 70, 71, 72, 73, 74, 75, 76, 77, 78, 79, 80, 81, 83, 84, 85, 88, 89, 90, 91, 92, 93, 94, 96, 97, 98, 99, 100, 103, 104, 105, 106, 107, 108, 109, 112, 113, 114, 116, 122, 123, 125, 126, 127, 128, 129, 132, 133, 134, 135, 136, 137, 138, 139, 141, 142, 143, 144, 145, 147, 148, 149, 151, 152, 154, 155, 156, 157, 160, 162, 164, 165, 166, 167, 168, 169, 171, 172, 173, 174, 175, 177, 178, 179, 180, 181, 183, 184, 186, 187, 188, 189, 191, 192, 193, 195, 196, 198]

-- TYPE 0 1 ()
-- TYPE 1 1 func()
-- TYPE 2 1 int64
-- TYPE 3 1 int
-- TYPE 4 1 bool
-- TYPE 5 1 uint8
-- TYPE 6 1 abi.BoundsErrorCode
-- TYPE 8 4 runtime.boundsError
-- TYPE 9 1 string
-- TYPE 10 1 runtime.errorString
-- TYPE 11 1 runtime.plainError
-- TYPE 12 1 uintptr
-- TYPE 14 2 runtime.errorAddressString
-- TYPE 15 1 *runtime.TypeAssertionError
-- TYPE 16 1 *runtime.PanicNilError
-- TYPE 17 1 *abi.Type
-- TYPE 19 1 maps.unhashableTypeError
-- TYPE 21 1 int32
-- TYPE 23 4 laws.Token
-- TYPE 24 1 func(laws.Token, int) int
-- TYPE 25 1 func(impl.Token) bool
-- TYPE 26 4 impl.Token
-- TYPE 27 1 func(laws.Token) impl.Token
-- TYPE 28 1 func(laws.Token) bool
-- TYPE 29 1 []laws.Instr
-- TYPE 30 1 []int
-- TYPE 32 2 laws.Code
-- TYPE 33 1 func(laws.Code, int) int
-- TYPE 34 16 [16]int
-- TYPE 35 1 func(impl.Code) [16]int
-- TYPE 36 1 []impl.Instr
-- TYPE 38 2 impl.Code
-- TYPE 39 1 func(laws.Code) impl.Code
-- TYPE 40 1 func([16]int, [16]int) bool
-- TYPE 41 1 func(impl.Code, impl.Code) bool
-- TYPE 42 1 func(laws.Code) bool
-- TYPE 43 1 []laws.Ty
-- TYPE 45 4 laws.Ty
-- TYPE 46 1 func(laws.Ty, int) int
-- TYPE 47 1 func(impl.Ty) bool
-- TYPE 48 1 []impl.Ty
-- TYPE 50 4 impl.Ty
-- TYPE 51 1 func(laws.Ty) impl.Ty
-- TYPE 52 1 func(impl.Ty, impl.Ty) bool
-- TYPE 53 1 func(laws.Ty) bool
-- TYPE 54 1 []laws.DataInfo
-- TYPE 55 1 func([]laws.DataInfo, int) int
-- TYPE 56 1 (int, int)
-- TYPE 57 1 func([]impl.DataInfo, string) (int, int)
-- TYPE 58 1 []impl.DataInfo
-- TYPE 59 1 func([]laws.DataInfo) []impl.DataInfo
-- TYPE 60 1 func([]impl.DataInfo, []impl.DataInfo) bool
-- TYPE 61 1 func([]laws.DataInfo, string) bool
-- TYPE 62 1 []laws.KVal
-- TYPE 63 1 []laws.KTerm
-- TYPE 65 11 laws.KTerm
-- TYPE 66 1 func(laws.KTerm, int) int
-- TYPE 67 1 func(impl.KTerm) int
-- TYPE 68 1 []impl.KVal
-- TYPE 69 1 []impl.KTerm
-- TYPE 71 11 impl.KTerm
-- TYPE 72 1 func(laws.KTerm) impl.KTerm
-- TYPE 73 1 func(impl.KTerm, impl.KTerm) bool
-- TYPE 74 1 func(laws.KTerm) bool
-- TYPE 75 1 []uint8
-- TYPE 76 1 func([]uint8) bool
-- TYPE 77 1 []string
-- TYPE 78 1 func([]uint8, int) int
-- TYPE 79 1 []impl.Exp
-- TYPE 80 1 []impl.Arm
-- TYPE 82 7 impl.Exp
-- TYPE 83 1 func(impl.Exp, impl.Exp) bool
-- TYPE 84 1 []laws.Exp
-- TYPE 85 1 []laws.Arm
-- TYPE 87 7 laws.Exp
-- TYPE 88 1 func(laws.Exp, int) int
-- TYPE 89 1 func(impl.Exp) int
-- TYPE 90 1 func(laws.Exp) impl.Exp
-- TYPE 91 1 func(laws.Exp) bool
-- TYPE 92 1 func(impl.Ty, int) []int
-- TYPE 93 1 func([]int, []int) bool
-- TYPE 94 1 func(impl.Ty, int) int
-- TYPE 95 1 func([]int, int) int
-- TYPE 96 1 func(laws.Ty, int) bool
-- TYPE 97 1 func([]laws.Ty, int) int
-- TYPE 98 1 func(impl.Ty, int, []impl.Ty) impl.Ty
-- TYPE 99 1 func([]laws.Ty) []impl.Ty
-- TYPE 100 1 func([]impl.Ty, []impl.Ty) bool
-- TYPE 101 1 func([]impl.Ty, int) int
-- TYPE 102 1 func(laws.Ty, int, []laws.Ty) bool
-- TYPE 103 1 func(laws.Ty, laws.Ty) bool
-- TYPE 104 1 []laws.Core
-- TYPE 105 1 []laws.CArm
-- TYPE 107 12 laws.Core
-- TYPE 108 1 func(laws.Core, int) int
-- TYPE 109 1 func(impl.Core) int
-- TYPE 110 1 []impl.Core
-- TYPE 111 1 []impl.CArm
-- TYPE 113 12 impl.Core
-- TYPE 114 1 func(laws.Core) impl.Core
-- TYPE 115 1 func(impl.Core, impl.Core) bool
-- TYPE 116 1 func(laws.Core) bool
-- TYPE 117 1 func(impl.Core) bool
-- TYPE 118 1 func(string) bool
-- TYPE 119 1 func(string, bool) bool
-- TYPE 120 1 func(string, func(uint8) bool) bool
-- TYPE 121 1 func(uint8) bool
-- TYPE 122 1 func([]string, string) bool
-- TYPE 123 1 func() []string
-- TYPE 124 1 func([]laws.Instr, int) int
-- TYPE 126 6 impl.Instr
-- TYPE 127 1 func(int, int, int) bool
-- TYPE 128 1 func([]laws.Instr) []impl.Instr
-- TYPE 129 1 func([]int) []int
-- TYPE 130 1 func([]impl.Instr, []impl.Instr) bool
-- TYPE 131 1 func([]impl.Ty, func(impl.Ty) bool) bool
-- TYPE 132 1 func(laws.DataInfo, int) int
-- TYPE 133 1 []laws.CtorInfo
-- TYPE 135 3 laws.DataInfo
-- TYPE 136 1 []impl.CtorInfo
-- TYPE 138 3 impl.DataInfo
-- TYPE 140 6 impl.CtorInfo
-- TYPE 141 1 func(laws.DataInfo) impl.DataInfo
-- TYPE 142 1 func([]impl.CtorInfo, func(impl.CtorInfo) bool) int
-- TYPE 143 1 func(impl.CtorInfo) bool
-- TYPE 144 1 func(impl.DataInfo, impl.DataInfo) bool
-- TYPE 145 1 func([]laws.KVal, int) int
-- TYPE 146 1 func([]laws.KTerm, int) int
-- TYPE 147 1 func([]laws.KVal) []impl.KVal
-- TYPE 148 1 func([]laws.KTerm) []impl.KTerm
-- TYPE 149 1 func([]impl.KVal, []impl.KVal) bool
-- TYPE 150 1 func([]impl.KTerm, []impl.KTerm) bool
-- TYPE 151 1 func(impl.Exp) bool
-- TYPE 152 1 func(impl.Exp, impl.Exp, impl.names, impl.names) bool
-- TYPE 153 1 func([]laws.Exp, int) int
-- TYPE 154 1 func([]laws.Arm, int) int
-- TYPE 155 1 func(impl.Pat) int
-- TYPE 156 1 []impl.Pat
-- TYPE 158 5 impl.Pat
-- TYPE 160 12 impl.Arm
-- TYPE 161 1 func([]laws.Exp) []impl.Exp
-- TYPE 162 1 func([]laws.Arm) []impl.Arm
-- TYPE 163 1 func([]impl.Exp, []impl.Exp) bool
-- TYPE 164 1 func([]impl.Arm, []impl.Arm) bool
-- TYPE 165 1 func(impl.Ty, int, []int) []int
-- TYPE 166 1 func(int) bool
-- TYPE 167 1 func(impl.Ty) impl.Ty
-- TYPE 168 1 func(int) string
-- TYPE 169 1 func(impl.Ty, []int) impl.Ty
-- TYPE 170 1 func(impl.Ty, impl.Ty, []impl.Ty, []bool) bool
-- TYPE 171 1 []bool
-- TYPE 172 1 func(impl.Ty, impl.Ty, map[int]impl.Ty) bool
-- TYPE 173 1 map[int]impl.Ty
-- TYPE 174 1 func([]laws.Core, int) int
-- TYPE 175 1 func([]laws.CArm, int) int
-- TYPE 176 1 func(impl.CPat) int
-- TYPE 177 1 []impl.CPat
-- TYPE 179 8 impl.CPat
-- TYPE 181 20 impl.CArm
-- TYPE 182 1 func([]laws.Core) []impl.Core
-- TYPE 183 1 func([]laws.CArm) []impl.CArm
-- TYPE 184 1 func([]impl.Core, []impl.Core) bool
-- TYPE 185 1 func([]impl.CArm, []impl.CArm) bool
-- TYPE 186 1 func([]impl.Core, func(impl.Core) bool) bool
-- TYPE 187 1 func(string, int, func(uint8) bool) int
-- TYPE 188 1 func([]string, string) int
-- TYPE 189 1 func(laws.Instr, int) int
-- TYPE 190 6 laws.Instr
-- TYPE 191 1 func(laws.Instr) impl.Instr
-- TYPE 192 1 func(impl.Instr, impl.Instr) bool
-- TYPE 193 1 func([]impl.Ty, func(impl.Ty) bool) int
-- TYPE 194 1 func([]laws.CtorInfo, int) int
-- TYPE 195 1 func([]laws.CtorInfo) []impl.CtorInfo
-- TYPE 196 1 func([]impl.CtorInfo, []impl.CtorInfo) bool
-- TYPE 197 1 func(laws.KVal, int) int
-- TYPE 199 4 laws.KVal
-- TYPE 200 4 impl.KVal
-- TYPE 201 1 func(laws.KVal) impl.KVal
-- TYPE 202 1 func(impl.KVal, impl.KVal) bool
-- TYPE 203 1 func(impl.Pat) bool
-- TYPE 204 1 impl.names
-- TYPE 205 1 func(string) int
-- TYPE 206 1 func(...impl.names) impl.names
-- TYPE 207 1 func(impl.Exp, int) []string
-- TYPE 208 1 func(impl.Pat, impl.Pat) bool
-- TYPE 209 1 func(impl.Pat) []string
-- TYPE 210 1 func(laws.Arm, int) int
-- TYPE 211 1 []laws.Pat
-- TYPE 213 5 laws.Pat
-- TYPE 215 12 laws.Arm
-- TYPE 216 1 func(laws.Arm) impl.Arm
-- TYPE 217 1 func(impl.Arm, impl.Arm) bool
-- TYPE 218 1 func([]int, int) bool
-- TYPE 219 1 (impl.Ty, bool)
-- TYPE 220 1 func(laws.CArm, int) int
-- TYPE 221 1 []laws.CPat
-- TYPE 223 8 laws.CPat
-- TYPE 225 20 laws.CArm
-- TYPE 226 1 func(laws.CArm) impl.CArm
-- TYPE 227 1 func(impl.CArm, impl.CArm) bool
-- TYPE 228 1 func([]impl.Core, func(impl.Core) bool) int
-- TYPE 229 1 func(laws.CtorInfo, int) int
-- TYPE 231 6 laws.CtorInfo
-- TYPE 232 1 func(laws.CtorInfo) impl.CtorInfo
-- TYPE 233 1 func(impl.CtorInfo, impl.CtorInfo) bool
-- TYPE 234 1 func([]impl.Pat, func(impl.Pat) bool) bool
-- TYPE 235 1 []impl.names
-- TYPE 236 1 func(impl.names, int) impl.names
-- TYPE 237 1 func([]impl.Pat, []impl.Pat, func(impl.Pat, impl.Pat) bool) bool
-- TYPE 238 1 func(laws.Pat, int) int
-- TYPE 239 1 func(laws.Pat) impl.Pat
-- TYPE 240 1 func([]impl.Ty, []impl.Ty, func(impl.Ty, impl.Ty) bool) bool
-- TYPE 241 1 func(laws.CPat, int) int
-- TYPE 242 1 func(laws.CPat) impl.CPat
-- TYPE 243 1 func(impl.CPat, impl.CPat) bool
-- TYPE 244 1 func([]impl.Pat, func(impl.Pat) bool) int
-- TYPE 245 1 func([]laws.Pat, int) int
-- TYPE 246 1 func([]laws.Pat) []impl.Pat
-- TYPE 247 1 func([]impl.Pat, []impl.Pat) bool
-- TYPE 248 1 func([]laws.CPat, int) int
-- TYPE 249 1 func([]laws.CPat) []impl.CPat
-- TYPE 250 1 func([]impl.CPat, []impl.CPat) bool
-- TYPE 251 1 func() string
-- TYPE 253 4 runtime.TypeAssertionError
-- TYPE 254 0 [0]*runtime.PanicNilError
-- TYPE 256 0 runtime.PanicNilError
-- TYPE 257 1 func() int
-- TYPE 258 1 uint32
-- TYPE 259 1 abi.TFlag
-- TYPE 260 1 abi.Kind
-- TYPE 261 1 func(unsafe.Pointer, unsafe.Pointer) bool
-- TYPE 262 1 *uint8
-- TYPE 263 1 abi.NameOff
-- TYPE 264 1 abi.TypeOff
-- TYPE 266 11 abi.Type
-- TYPE 267 1 unsafe.Pointer
-- LAW laws_FnExactTokenOk 3 [23] [4]
-- LAW laws_FnExactStats 4 [32] [4]
-- LAW laws_FnExactTyOk 5 [45] [4]
-- LAW laws_FnExactFindCtor 6 [54, 9] [4]
-- LAW laws_FnExactKSize 7 [65] [4]
-- LAW laws_FnRenamed 8 [75] [4]
-- LAW laws_FnExactExpSize 9 [87] [4]
-- LAW laws_FnExactFree 10 [45, 3] [4]
-- LAW laws_FnExactPut 11 [45, 3, 43] [4]
-- LAW laws_FnExactPrincipal 12 [45, 45] [4]
-- LAW laws_FnExactCoreSize 13 [107] [4]
-- LAW laws_FnExactCoreValue 14 [107] [4]
def T.laws_FnExactTokenOk : T :=
.chk (.cells (.x 0) 4) (
.chk (.cells (.x 0) 4) (
.op (.call F.laws_szToken [(.x 0), (.c (.v (.int .i64 1048576)))] false) (
.op (.bin .lss (.x 1) (.c (.v (.int .i64 0)))) (
.ite (.x 2)
 (.ret [(.c (.v (.bool true)))])
 (.chk (.cells (.x 0) 4) (
 .op (.call F.laws_toToken [(.x 0)] false) (
 .op (.call F.spec_TokenOk [(.x 3)] false) (
 .chk (.cells (.x 0) 4) (
 .op (.call F.laws_toToken [(.x 0)] false) (
 .op (.call F.impl_TokenOk [(.x 5)] false) (
 .op (.beq true (.x 6) (.x 4)) (
 .ite (.x 7)
  (.ret [(.c (.v (.bool false)))])
  (.ret [(.c (.v (.bool true)))])))))))))))))

theorem T.laws_FnExactTokenOk_l : leftF Try.prog [] FL Try.f3 = some (1, T.laws_FnExactTokenOk) := by kernel_rfl

theorem T.laws_FnExactTokenOk_con {args : List AV} {res : AV} (hl : args.length = 1) (hn : AV.norefs args = true) (hw : wpT Try.prog (fun _ _ _ => False) (fun a => a = res) T.laws_FnExactTokenOk args []) : PCon Try.prog F.laws_FnExactTokenOk args res :=
  con_auto Try.func3 T.laws_FnExactTokenOk_l hl hn hw

def T.laws_FnExactStats : T :=
.chk (.cells (.x 0) 2) (
.chk (.cells (.x 0) 2) (
.op (.call F.laws_szCode [(.x 0), (.c (.v (.int .i64 1048576)))] false) (
.op (.bin .lss (.x 1) (.c (.v (.int .i64 0)))) (
.ite (.x 2)
 (.ret [(.c (.v (.bool true)))])
 (.chk (.cells (.x 0) 2) (
 .op (.call F.laws_toCode [(.x 0)] false) (
 .op (.call F.spec_Stats [(.x 3)] false) (
 .chk (.cells (.x 4) 16) (
 .chk (.cells (.x 0) 2) (
 .op (.call F.laws_toCode [(.x 0)] false) (
 .chk (.cells (.x 5) 2) (
 .chk (.cells (.x 5) 2) (
 .op (.call F.impl_Stats [(.x 5)] false) (
 .chk (.cells (.x 6) 16) (
 .chk (.cells (.x 6) 16) (
 .chk (.cells (.x 4) 16) (
 .op (.call F.laws_eqIntA16 [(.x 6), (.x 4)] false) (
 .op (.un .not (.x 7)) (
 .ite (.x 8)
  (.ret [(.c (.v (.bool false)))])
  (.chk (.cells (.x 5) 2) (
  .chk (.cells (.x 0) 2) (
  .op (.call F.laws_toCode [(.x 0)] false) (
  .op (.call F.laws_eqCode [(.x 5), (.x 9)] false) (
  .op (.un .not (.x 10)) (
  .ite (.x 11)
   (.ret [(.c (.v (.bool false)))])
   (.ret [(.c (.v (.bool true)))]))))))))))))))))))))))))))

theorem T.laws_FnExactStats_l : leftF Try.prog [] FL Try.f4 = some (1, T.laws_FnExactStats) := by kernel_rfl

theorem T.laws_FnExactStats_con {args : List AV} {res : AV} (hl : args.length = 1) (hn : AV.norefs args = true) (hw : wpT Try.prog (fun _ _ _ => False) (fun a => a = res) T.laws_FnExactStats args []) : PCon Try.prog F.laws_FnExactStats args res :=
  con_auto Try.func4 T.laws_FnExactStats_l hl hn hw

def T.laws_FnExactTyOk : T :=
.chk (.cells (.x 0) 4) (
.chk (.cells (.x 0) 4) (
.op (.call F.laws_szTy [(.x 0), (.c (.v (.int .i64 1048576)))] false) (
.op (.bin .lss (.x 1) (.c (.v (.int .i64 0)))) (
.ite (.x 2)
 (.ret [(.c (.v (.bool true)))])
 (.chk (.cells (.x 0) 4) (
 .op (.call F.laws_toTy [(.x 0)] false) (
 .op (.call F.spec_TyOk [(.x 3)] false) (
 .chk (.cells (.x 0) 4) (
 .op (.call F.laws_toTy [(.x 0)] false) (
 .chk (.cells (.x 5) 4) (
 .chk (.cells (.x 5) 4) (
 .op (.call F.impl_TyOk [(.x 5)] false) (
 .op (.beq true (.x 6) (.x 4)) (
 .ite (.x 7)
  (.ret [(.c (.v (.bool false)))])
  (.chk (.cells (.x 5) 4) (
  .chk (.cells (.x 0) 4) (
  .op (.call F.laws_toTy [(.x 0)] false) (
  .op (.call F.laws_eqTy [(.x 5), (.x 8)] false) (
  .op (.un .not (.x 9)) (
  .ite (.x 10)
   (.ret [(.c (.v (.bool false)))])
   (.ret [(.c (.v (.bool true)))])))))))))))))))))))))

theorem T.laws_FnExactTyOk_l : leftF Try.prog [] FL Try.f5 = some (1, T.laws_FnExactTyOk) := by kernel_rfl

theorem T.laws_FnExactTyOk_con {args : List AV} {res : AV} (hl : args.length = 1) (hn : AV.norefs args = true) (hw : wpT Try.prog (fun _ _ _ => False) (fun a => a = res) T.laws_FnExactTyOk args []) : PCon Try.prog F.laws_FnExactTyOk args res :=
  con_auto Try.func5 T.laws_FnExactTyOk_l hl hn hw

def T.laws_FnExactFindCtor : T :=
.op (.lenS (.x 1)) (
.op (.bin .gtr (.x 2) (.c (.v (.int .i64 1048576)))) (
.ite (.x 3)
 (.ret [(.c (.v (.bool true)))])
 (.op (.call F.laws_szDataInfoS [(.x 0), (.c (.v (.int .i64 1048576)))] false) (
 .op (.bin .lss (.x 4) (.c (.v (.int .i64 0)))) (
 .ite (.x 5)
  (.ret [(.c (.v (.bool true)))])
  (.op (.call F.laws_toDataInfoS [(.x 0)] false) (
  .op (.call F.spec_FindCtor [(.x 6), (.x 1)] false) (
  .chk (.tup (.x 7) 0) (
  .chk (.tup (.x 7) 1) (
  .op (.call F.laws_toDataInfoS [(.x 0)] false) (
  .op (.call F.impl_FindCtor [(.x 8), (.x 1)] false) (
  .chk (.tup (.x 9) 0) (
  .chk (.tup (.x 9) 1) (
  .bind 0 (
   .bind 1 (
    .op (.bin .neq (.ext 9 0) (.ext 7 0)) (
    .ite (.x 10)
     (.jump [(.c (.v (.bool true)))])
     (.op (.bin .neq (.ext 9 1) (.ext 7 1)) (
     .jump [(.x 11)])))) (
   .ite (.x 10)
    (.esc (.ret [(.c (.v (.bool false)))]))
    (.jump []))) (
  .op (.call F.laws_toDataInfoS [(.x 0)] false) (
  .op (.call F.laws_eqDataInfoS [(.x 8), (.x 10)] false) (
  .op (.un .not (.x 11)) (
  .ite (.x 12)
   (.ret [(.c (.v (.bool false)))])
   (.ret [(.c (.v (.bool true)))])))))))))))))))))))

theorem T.laws_FnExactFindCtor_l : leftF Try.prog [] FL Try.f6 = some (2, T.laws_FnExactFindCtor) := by kernel_rfl

theorem T.laws_FnExactFindCtor_con {args : List AV} {res : AV} (hl : args.length = 2) (hn : AV.norefs args = true) (hw : wpT Try.prog (fun _ _ _ => False) (fun a => a = res) T.laws_FnExactFindCtor args []) : PCon Try.prog F.laws_FnExactFindCtor args res :=
  con_auto Try.func6 T.laws_FnExactFindCtor_l hl hn hw

def T.laws_FnExactKSize : T :=
.chk (.cells (.x 0) 11) (
.chk (.cells (.x 0) 11) (
.op (.call F.laws_szKTerm [(.x 0), (.c (.v (.int .i64 1048576)))] false) (
.op (.bin .lss (.x 1) (.c (.v (.int .i64 0)))) (
.ite (.x 2)
 (.ret [(.c (.v (.bool true)))])
 (.chk (.cells (.x 0) 11) (
 .op (.call F.laws_toKTerm [(.x 0)] false) (
 .op (.call F.spec_KSize [(.x 3)] false) (
 .chk (.cells (.x 0) 11) (
 .op (.call F.laws_toKTerm [(.x 0)] false) (
 .chk (.cells (.x 5) 11) (
 .chk (.cells (.x 5) 11) (
 .op (.call F.impl_KSize [(.x 5)] false) (
 .op (.bin .neq (.x 6) (.x 4)) (
 .ite (.x 7)
  (.ret [(.c (.v (.bool false)))])
  (.chk (.cells (.x 5) 11) (
  .chk (.cells (.x 0) 11) (
  .op (.call F.laws_toKTerm [(.x 0)] false) (
  .op (.call F.laws_eqKTerm [(.x 5), (.x 8)] false) (
  .op (.un .not (.x 9)) (
  .ite (.x 10)
   (.ret [(.c (.v (.bool false)))])
   (.ret [(.c (.v (.bool true)))])))))))))))))))))))))

theorem T.laws_FnExactKSize_l : leftF Try.prog [] FL Try.f7 = some (1, T.laws_FnExactKSize) := by kernel_rfl

theorem T.laws_FnExactKSize_con {args : List AV} {res : AV} (hl : args.length = 1) (hn : AV.norefs args = true) (hw : wpT Try.prog (fun _ _ _ => False) (fun a => a = res) T.laws_FnExactKSize args []) : PCon Try.prog F.laws_FnExactKSize args res :=
  con_auto Try.func7 T.laws_FnExactKSize_l hl hn hw

-- laws_FnRenamed: no walk
def T.laws_FnExactExpSize : T :=
.chk (.cells (.x 0) 7) (
.chk (.cells (.x 0) 7) (
.op (.call F.laws_szExp [(.x 0), (.c (.v (.int .i64 1048576)))] false) (
.op (.bin .lss (.x 1) (.c (.v (.int .i64 0)))) (
.ite (.x 2)
 (.ret [(.c (.v (.bool true)))])
 (.chk (.cells (.x 0) 7) (
 .op (.call F.laws_toExp [(.x 0)] false) (
 .op (.call F.spec_ExpSize [(.x 3)] false) (
 .chk (.cells (.x 0) 7) (
 .op (.call F.laws_toExp [(.x 0)] false) (
 .chk (.cells (.x 5) 7) (
 .chk (.cells (.x 5) 7) (
 .op (.call F.impl_ExpSize [(.x 5)] false) (
 .op (.bin .neq (.x 6) (.x 4)) (
 .ite (.x 7)
  (.ret [(.c (.v (.bool false)))])
  (.chk (.cells (.x 5) 7) (
  .chk (.cells (.x 0) 7) (
  .op (.call F.laws_toExp [(.x 0)] false) (
  .op (.call F.laws_eqExp [(.x 5), (.x 8)] false) (
  .op (.un .not (.x 9)) (
  .ite (.x 10)
   (.ret [(.c (.v (.bool false)))])
   (.ret [(.c (.v (.bool true)))])))))))))))))))))))))

theorem T.laws_FnExactExpSize_l : leftF Try.prog [] FL Try.f9 = some (1, T.laws_FnExactExpSize) := by kernel_rfl

theorem T.laws_FnExactExpSize_con {args : List AV} {res : AV} (hl : args.length = 1) (hn : AV.norefs args = true) (hw : wpT Try.prog (fun _ _ _ => False) (fun a => a = res) T.laws_FnExactExpSize args []) : PCon Try.prog F.laws_FnExactExpSize args res :=
  con_auto Try.func9 T.laws_FnExactExpSize_l hl hn hw

def T.laws_FnExactFree : T :=
.chk (.cells (.x 0) 4) (
.chk (.cells (.x 0) 4) (
.op (.call F.laws_szTy [(.x 0), (.c (.v (.int .i64 1048576)))] false) (
.op (.bin .lss (.x 2) (.c (.v (.int .i64 0)))) (
.ite (.x 3)
 (.ret [(.c (.v (.bool true)))])
 (.chk (.cells (.x 0) 4) (
 .op (.call F.laws_toTy [(.x 0)] false) (
 .op (.call F.spec_Free [(.x 4), (.x 1)] false) (
 .chk (.cells (.x 0) 4) (
 .op (.call F.laws_toTy [(.x 0)] false) (
 .chk (.cells (.x 6) 4) (
 .chk (.cells (.x 6) 4) (
 .op (.call F.impl_Free [(.x 6), (.x 1)] false) (
 .op (.call F.laws_eqIntS [(.x 7), (.x 5)] false) (
 .op (.un .not (.x 8)) (
 .ite (.x 9)
  (.ret [(.c (.v (.bool false)))])
  (.chk (.cells (.x 6) 4) (
  .chk (.cells (.x 0) 4) (
  .op (.call F.laws_toTy [(.x 0)] false) (
  .op (.call F.laws_eqTy [(.x 6), (.x 10)] false) (
  .op (.un .not (.x 11)) (
  .ite (.x 12)
   (.ret [(.c (.v (.bool false)))])
   (.chk (.cells (.x 6) 4) (
   .op (.call F.laws_markTy [(.x 6), (.c (.v (.int .i64 1)))] false) (
   .bind 0 (
    .bind 1 (
     .op (.bin .lss (.x 13) (.c (.v (.int .i64 0)))) (
     .ite (.x 14)
      (.jump [(.c (.v (.bool true)))])
      (.op (.call F.laws_eqIntS [(.x 7), (.x 5)] false) (
      .op (.un .not (.x 15)) (
      .jump [(.x 16)]))))) (
    .ite (.x 14)
     (.esc (.ret [(.c (.v (.bool false)))]))
     (.jump []))) (
   .op (.call F.laws_markIntS [(.x 7), (.c (.v (.int .i64 1)))] false) (
   .op (.call F.laws_heldIntS [(.x 7), (.c (.v (.int .i64 1)))] false) (
   .op (.bin .lss (.x 15) (.c (.v (.int .i64 0)))) (
   .ite (.x 16)
    (.ret [(.c (.v (.bool false)))])
    (.op (.bin .neq (.x 15) (.x 14)) (
    .ite (.x 17)
     (.ret [(.c (.v (.bool false)))])
     (.chk (.cells (.x 0) 4) (
     .op (.call F.laws_toTy [(.x 0)] false) (
     .op (.call F.impl_Free [(.x 18), (.x 1)] false) (
     .op (.call F.laws_eqIntS [(.x 19), (.x 5)] false) (
     .op (.un .not (.x 20)) (
     .ite (.x 21)
      (.ret [(.c (.v (.bool false)))])
      (.op (.call F.laws_heldIntS [(.x 7), (.c (.v (.int .i64 1)))] false) (
      .op (.bin .lss (.x 22) (.c (.v (.int .i64 0)))) (
      .ite (.x 23)
       (.ret [(.c (.v (.bool false)))])
       (.op (.bin .neq (.x 22) (.x 14)) (
       .ite (.x 24)
        (.ret [(.c (.v (.bool false)))])
        (.ret [(.c (.v (.bool true)))]))))))))))))))))))))))))))))))))))))))))))

theorem T.laws_FnExactFree_l : leftF Try.prog [] FL Try.f10 = some (2, T.laws_FnExactFree) := by kernel_rfl

theorem T.laws_FnExactFree_con {args : List AV} {res : AV} (hl : args.length = 2) (hn : AV.norefs args = true) (hw : wpT Try.prog (fun _ _ _ => False) (fun a => a = res) T.laws_FnExactFree args []) : PCon Try.prog F.laws_FnExactFree args res :=
  con_auto Try.func10 T.laws_FnExactFree_l hl hn hw

def T.laws_FnExactPut : T :=
.chk (.cells (.x 0) 4) (
.chk (.cells (.x 0) 4) (
.op (.call F.laws_szTy [(.x 0), (.c (.v (.int .i64 1048576)))] false) (
.op (.bin .lss (.x 3) (.c (.v (.int .i64 0)))) (
.ite (.x 4)
 (.ret [(.c (.v (.bool true)))])
 (.op (.call F.laws_szTyS [(.x 2), (.x 3)] false) (
 .op (.bin .lss (.x 5) (.c (.v (.int .i64 0)))) (
 .ite (.x 6)
  (.ret [(.c (.v (.bool true)))])
  (.chk (.cells (.x 0) 4) (
  .op (.call F.laws_toTy [(.x 0)] false) (
  .op (.call F.laws_toTyS [(.x 2)] false) (
  .op (.call F.spec_Put [(.x 7), (.x 1), (.x 8)] false) (
  .chk (.cells (.x 9) 4) (
  .chk (.cells (.x 0) 4) (
  .op (.call F.laws_toTy [(.x 0)] false) (
  .chk (.cells (.x 10) 4) (
  .op (.call F.laws_toTyS [(.x 2)] false) (
  .chk (.cells (.x 10) 4) (
  .op (.call F.impl_Put [(.x 10), (.x 1), (.x 11)] false) (
  .chk (.cells (.x 12) 4) (
  .chk (.cells (.x 12) 4) (
  .chk (.cells (.x 9) 4) (
  .op (.call F.laws_eqTy [(.x 12), (.x 9)] false) (
  .op (.un .not (.x 13)) (
  .ite (.x 14)
   (.ret [(.c (.v (.bool false)))])
   (.chk (.cells (.x 10) 4) (
   .chk (.cells (.x 0) 4) (
   .op (.call F.laws_toTy [(.x 0)] false) (
   .op (.call F.laws_eqTy [(.x 10), (.x 15)] false) (
   .op (.un .not (.x 16)) (
   .ite (.x 17)
    (.ret [(.c (.v (.bool false)))])
    (.op (.call F.laws_toTyS [(.x 2)] false) (
    .op (.call F.laws_eqTyS [(.x 11), (.x 18)] false) (
    .op (.un .not (.x 19)) (
    .ite (.x 20)
     (.ret [(.c (.v (.bool false)))])
     (.chk (.cells (.x 10) 4) (
     .op (.call F.laws_markTy [(.x 10), (.c (.v (.int .i64 1)))] false) (
     .op (.call F.laws_markTyS [(.x 11), (.x 21)] false) (
     .bind 0 (
      .bind 1 (
       .op (.bin .lss (.x 22) (.c (.v (.int .i64 0)))) (
       .ite (.x 23)
        (.jump [(.c (.v (.bool true)))])
        (.chk (.cells (.x 12) 4) (
        .chk (.cells (.x 9) 4) (
        .op (.call F.laws_eqTy [(.x 12), (.x 9)] false) (
        .op (.un .not (.x 24)) (
        .jump [(.x 25)]))))))) (
      .ite (.x 23)
       (.esc (.ret [(.c (.v (.bool false)))]))
       (.jump []))) (
     .chk (.cells (.x 12) 4) (
     .op (.call F.laws_markTy [(.x 12), (.c (.v (.int .i64 1)))] false) (
     .chk (.cells (.x 12) 4) (
     .op (.call F.laws_heldTy [(.x 12), (.c (.v (.int .i64 1)))] false) (
     .op (.bin .lss (.x 24) (.c (.v (.int .i64 0)))) (
     .ite (.x 25)
      (.ret [(.c (.v (.bool false)))])
      (.op (.bin .neq (.x 24) (.x 23)) (
      .ite (.x 26)
       (.ret [(.c (.v (.bool false)))])
       (.chk (.cells (.x 0) 4) (
       .op (.call F.laws_toTy [(.x 0)] false) (
       .op (.call F.laws_toTyS [(.x 2)] false) (
       .op (.call F.impl_Put [(.x 27), (.x 1), (.x 28)] false) (
       .chk (.cells (.x 29) 4) (
       .chk (.cells (.x 29) 4) (
       .chk (.cells (.x 9) 4) (
       .op (.call F.laws_eqTy [(.x 29), (.x 9)] false) (
       .op (.un .not (.x 30)) (
       .ite (.x 31)
        (.ret [(.c (.v (.bool false)))])
        (.chk (.cells (.x 12) 4) (
        .op (.call F.laws_heldTy [(.x 12), (.c (.v (.int .i64 1)))] false) (
        .op (.bin .lss (.x 32) (.c (.v (.int .i64 0)))) (
        .ite (.x 33)
         (.ret [(.c (.v (.bool false)))])
         (.op (.bin .neq (.x 32) (.x 23)) (
         .ite (.x 34)
          (.ret [(.c (.v (.bool false)))])
          (.ret [(.c (.v (.bool true)))])))))))))))))))))))))))))))))))))))))))))))))))))))))))))))))))

theorem T.laws_FnExactPut_l : leftF Try.prog [] FL Try.f11 = some (3, T.laws_FnExactPut) := by kernel_rfl

theorem T.laws_FnExactPut_con {args : List AV} {res : AV} (hl : args.length = 3) (hn : AV.norefs args = true) (hw : wpT Try.prog (fun _ _ _ => False) (fun a => a = res) T.laws_FnExactPut args []) : PCon Try.prog F.laws_FnExactPut args res :=
  con_auto Try.func11 T.laws_FnExactPut_l hl hn hw

def T.laws_FnExactPrincipal : T :=
.chk (.cells (.x 0) 4) (
.chk (.cells (.x 1) 4) (
.chk (.cells (.x 0) 4) (
.op (.call F.laws_szTy [(.x 0), (.c (.v (.int .i64 1048576)))] false) (
.op (.bin .lss (.x 2) (.c (.v (.int .i64 0)))) (
.ite (.x 3)
 (.ret [(.c (.v (.bool true)))])
 (.chk (.cells (.x 1) 4) (
 .op (.call F.laws_szTy [(.x 1), (.x 2)] false) (
 .op (.bin .lss (.x 4) (.c (.v (.int .i64 0)))) (
 .ite (.x 5)
  (.ret [(.c (.v (.bool true)))])
  (.chk (.cells (.x 0) 4) (
  .op (.call F.laws_toTy [(.x 0)] false) (
  .chk (.cells (.x 1) 4) (
  .op (.call F.laws_toTy [(.x 1)] false) (
  .op (.call F.spec_Principal [(.x 6), (.x 7)] false) (
  .chk (.cells (.x 0) 4) (
  .op (.call F.laws_toTy [(.x 0)] false) (
  .chk (.cells (.x 9) 4) (
  .chk (.cells (.x 1) 4) (
  .op (.call F.laws_toTy [(.x 1)] false) (
  .chk (.cells (.x 10) 4) (
  .chk (.cells (.x 9) 4) (
  .chk (.cells (.x 10) 4) (
  .op (.call F.impl_Principal [(.x 9), (.x 10)] false) (
  .op (.beq true (.x 11) (.x 8)) (
  .ite (.x 12)
   (.ret [(.c (.v (.bool false)))])
   (.chk (.cells (.x 9) 4) (
   .chk (.cells (.x 0) 4) (
   .op (.call F.laws_toTy [(.x 0)] false) (
   .op (.call F.laws_eqTy [(.x 9), (.x 13)] false) (
   .op (.un .not (.x 14)) (
   .ite (.x 15)
    (.ret [(.c (.v (.bool false)))])
    (.chk (.cells (.x 10) 4) (
    .chk (.cells (.x 1) 4) (
    .op (.call F.laws_toTy [(.x 1)] false) (
    .op (.call F.laws_eqTy [(.x 10), (.x 16)] false) (
    .op (.un .not (.x 17)) (
    .ite (.x 18)
     (.ret [(.c (.v (.bool false)))])
     (.ret [(.c (.v (.bool true)))]))))))))))))))))))))))))))))))))))))))

theorem T.laws_FnExactPrincipal_l : leftF Try.prog [] FL Try.f12 = some (2, T.laws_FnExactPrincipal) := by kernel_rfl

theorem T.laws_FnExactPrincipal_con {args : List AV} {res : AV} (hl : args.length = 2) (hn : AV.norefs args = true) (hw : wpT Try.prog (fun _ _ _ => False) (fun a => a = res) T.laws_FnExactPrincipal args []) : PCon Try.prog F.laws_FnExactPrincipal args res :=
  con_auto Try.func12 T.laws_FnExactPrincipal_l hl hn hw

def T.laws_FnExactCoreSize : T :=
.chk (.cells (.x 0) 12) (
.chk (.cells (.x 0) 12) (
.op (.call F.laws_szCore [(.x 0), (.c (.v (.int .i64 1048576)))] false) (
.op (.bin .lss (.x 1) (.c (.v (.int .i64 0)))) (
.ite (.x 2)
 (.ret [(.c (.v (.bool true)))])
 (.chk (.cells (.x 0) 12) (
 .op (.call F.laws_toCore [(.x 0)] false) (
 .op (.call F.spec_CoreSize [(.x 3)] false) (
 .chk (.cells (.x 0) 12) (
 .op (.call F.laws_toCore [(.x 0)] false) (
 .chk (.cells (.x 5) 12) (
 .chk (.cells (.x 5) 12) (
 .op (.call F.impl_CoreSize [(.x 5)] false) (
 .op (.bin .neq (.x 6) (.x 4)) (
 .ite (.x 7)
  (.ret [(.c (.v (.bool false)))])
  (.chk (.cells (.x 5) 12) (
  .chk (.cells (.x 0) 12) (
  .op (.call F.laws_toCore [(.x 0)] false) (
  .op (.call F.laws_eqCore [(.x 5), (.x 8)] false) (
  .op (.un .not (.x 9)) (
  .ite (.x 10)
   (.ret [(.c (.v (.bool false)))])
   (.ret [(.c (.v (.bool true)))])))))))))))))))))))))

theorem T.laws_FnExactCoreSize_l : leftF Try.prog [] FL Try.f13 = some (1, T.laws_FnExactCoreSize) := by kernel_rfl

theorem T.laws_FnExactCoreSize_con {args : List AV} {res : AV} (hl : args.length = 1) (hn : AV.norefs args = true) (hw : wpT Try.prog (fun _ _ _ => False) (fun a => a = res) T.laws_FnExactCoreSize args []) : PCon Try.prog F.laws_FnExactCoreSize args res :=
  con_auto Try.func13 T.laws_FnExactCoreSize_l hl hn hw

def T.laws_FnExactCoreValue : T :=
.chk (.cells (.x 0) 12) (
.chk (.cells (.x 0) 12) (
.op (.call F.laws_szCore [(.x 0), (.c (.v (.int .i64 1048576)))] false) (
.op (.bin .lss (.x 1) (.c (.v (.int .i64 0)))) (
.ite (.x 2)
 (.ret [(.c (.v (.bool true)))])
 (.chk (.cells (.x 0) 12) (
 .op (.call F.laws_toCore [(.x 0)] false) (
 .op (.call F.spec_CoreValue [(.x 3)] false) (
 .chk (.cells (.x 0) 12) (
 .op (.call F.laws_toCore [(.x 0)] false) (
 .chk (.cells (.x 5) 12) (
 .chk (.cells (.x 5) 12) (
 .op (.call F.impl_CoreValue [(.x 5)] false) (
 .op (.beq true (.x 6) (.x 4)) (
 .ite (.x 7)
  (.ret [(.c (.v (.bool false)))])
  (.chk (.cells (.x 5) 12) (
  .chk (.cells (.x 0) 12) (
  .op (.call F.laws_toCore [(.x 0)] false) (
  .op (.call F.laws_eqCore [(.x 5), (.x 8)] false) (
  .op (.un .not (.x 9)) (
  .ite (.x 10)
   (.ret [(.c (.v (.bool false)))])
   (.ret [(.c (.v (.bool true)))])))))))))))))))))))))

theorem T.laws_FnExactCoreValue_l : leftF Try.prog [] FL Try.f14 = some (1, T.laws_FnExactCoreValue) := by kernel_rfl

theorem T.laws_FnExactCoreValue_con {args : List AV} {res : AV} (hl : args.length = 1) (hn : AV.norefs args = true) (hw : wpT Try.prog (fun _ _ _ => False) (fun a => a = res) T.laws_FnExactCoreValue args []) : PCon Try.prog F.laws_FnExactCoreValue args res :=
  con_auto Try.func14 T.laws_FnExactCoreValue_l hl hn hw

def T.laws_szToken : T :=
.chk (.cells (.x 0) 4) (
.op (.lenS (.cell 0 1)) (
.op (.bin .sub (.x 1) (.x 2)) (
.op (.bin .lss (.x 3) (.c (.v (.int .i64 0)))) (
.ite (.x 4)
 (.ret [(.c (.v (.int .i64 (-1))))])
 (.ret [(.x 3)])))))

theorem T.laws_szToken_l : leftF Try.prog [] FL Try.f15 = some (2, T.laws_szToken) := by kernel_rfl

theorem T.laws_szToken_con {args : List AV} {res : AV} (hl : args.length = 2) (hn : AV.norefs args = true) (hw : wpT Try.prog (fun _ _ _ => False) (fun a => a = res) T.laws_szToken args []) : PCon Try.prog F.laws_szToken args res :=
  con_auto Try.func15 T.laws_szToken_l hl hn hw

def T.spec_TokenOk : T :=
.chk (.cells (.x 0) 4) (
.bind 0 (
 .bind 1 (
  .op (.bin .lss (.cell 0 3) (.c (.v (.int .i64 0)))) (
  .ite (.x 1)
   (.jump [(.c (.v (.bool true)))])
   (.op (.bin .neq (.cell 0 0) (.c (.v (.int .i64 1)))) (
   .ite (.x 2)
    (.op (.bin .neq (.cell 0 2) (.c (.v (.int .i64 0)))) (
    .jump [(.x 3)]))
    (.jump [(.c (.v (.bool false)))]))))) (
 .ite (.x 1)
  (.esc (.ret [(.c (.v (.bool false)))]))
  (.jump []))) (
.bind 0 (
 .op (.bin .eql (.cell 0 0) (.c (.v (.int .i64 1)))) (
 .ite (.x 1)
  (.bind 1 (
   .op (.bin .geq (.cell 0 2) (.c (.v (.int .i64 0)))) (
   .ite (.x 2)
    (.op (.bin .eql (.cell 0 1) (.c (.v (.string ⟨#[]⟩)))) (
    .jump [(.x 3)]))
    (.jump [(.c (.v (.bool false)))]))) (
  .esc (.ret [(.x 2)])))
  (.op (.bin .eql (.cell 0 0) (.c (.v (.int .i64 2)))) (
  .ite (.x 2)
   (.op (.call F.spec_l1Chars [(.cell 0 1)] false) (
   .esc (.ret [(.x 3)])))
   (.op (.bin .eql (.cell 0 0) (.c (.v (.int .i64 3)))) (
   .ite (.x 3)
    (.op (.call F.spec_l1Low [(.cell 0 1)] false) (
    .esc (.ret [(.x 4)])))
    (.op (.bin .eql (.cell 0 0) (.c (.v (.int .i64 4)))) (
    .ite (.x 4)
     (.op (.call F.spec_l1Name [(.cell 0 1), (.c (.v (.bool true)))] false) (
     .esc (.ret [(.x 5)])))
     (.op (.bin .eql (.cell 0 0) (.c (.v (.int .i64 5)))) (
     .ite (.x 5)
      (.op (.call F.spec_l1Name [(.cell 0 1), (.c (.v (.bool false)))] false) (
      .esc (.ret [(.x 6)])))
      (.op (.bin .eql (.cell 0 0) (.c (.v (.int .i64 6)))) (
      .ite (.x 6)
       (.op (.call F.spec_l1Key [(.cell 0 1)] false) (
       .esc (.ret [(.x 7)])))
       (.op (.bin .eql (.cell 0 0) (.c (.v (.int .i64 7)))) (
       .ite (.x 7)
        (.op (.call F.spec_l1Sign [(.cell 0 1)] false) (
        .esc (.ret [(.x 8)])))
        (.op (.bin .eql (.cell 0 0) (.c (.v (.int .i64 8)))) (
        .ite (.x 8)
         (.op (.bin .eql (.cell 0 1) (.c (.v (.string ⟨#[]⟩)))) (
         .esc (.ret [(.x 9)])))
         (.jump []))))))))))))))))) (
.ret [(.c (.v (.bool false)))])))

theorem T.spec_TokenOk_l : leftF Try.prog [] FL Try.f16 = some (1, T.spec_TokenOk) := by kernel_rfl

theorem T.spec_TokenOk_con {args : List AV} {res : AV} (hl : args.length = 1) (hn : AV.norefs args = true) (hw : wpT Try.prog (fun _ _ _ => False) (fun a => a = res) T.spec_TokenOk args []) : PCon Try.prog F.spec_TokenOk args res :=
  con_auto Try.func16 T.spec_TokenOk_l hl hn hw

def T.laws_toToken : T :=
.chk (.cells (.x 0) 4) (
.chk (.one (.cell 0 0)) (
.chk (.one (.cell 0 1)) (
.chk (.one (.cell 0 2)) (
.chk (.one (.cell 0 3)) (
.chk (.cells (.x 0) 4) (
.chk (.cells (.x 0) 4) (
.ret [(.agg [(.cell 0 0), (.cell 0 1), (.cell 0 2), (.cell 0 3)])])))))))

theorem T.laws_toToken_l : leftF Try.prog [] FL Try.f17 = some (1, T.laws_toToken) := by kernel_rfl

theorem T.laws_toToken_con {args : List AV} {res : AV} (hl : args.length = 1) (hn : AV.norefs args = true) (hw : wpT Try.prog (fun _ _ _ => False) (fun a => a = res) T.laws_toToken args []) : PCon Try.prog F.laws_toToken args res :=
  con_auto Try.func17 T.laws_toToken_l hl hn hw

def T.impl_TokenOk : T :=
.chk (.cells (.x 0) 4) (
.bind 0 (
 .bind 1 (
  .op (.bin .lss (.cell 0 3) (.c (.v (.int .i64 0)))) (
  .ite (.x 1)
   (.jump [(.c (.v (.bool true)))])
   (.op (.bin .lss (.cell 0 2) (.c (.v (.int .i64 0)))) (
   .ite (.x 2)
    (.jump [(.c (.v (.bool true)))])
    (.op (.bin .neq (.cell 0 0) (.c (.v (.int .i64 1)))) (
    .ite (.x 3)
     (.op (.bin .neq (.cell 0 2) (.c (.v (.int .i64 0)))) (
     .jump [(.x 4)]))
     (.jump [(.c (.v (.bool false)))]))))))) (
 .ite (.x 1)
  (.esc (.ret [(.c (.v (.bool false)))]))
  (.jump []))) (
.bind 0 (
 .bind 1 (
  .op (.bin .eql (.cell 0 0) (.c (.v (.int .i64 1)))) (
  .ite (.x 1)
   (.jump [(.x 1)])
   (.op (.bin .eql (.cell 0 0) (.c (.v (.int .i64 8)))) (
   .jump [(.x 2)])))) (
 .ite (.x 1)
  (.op (.bin .eql (.cell 0 1) (.c (.v (.string ⟨#[]⟩)))) (
  .esc (.ret [(.x 2)])))
  (.op (.bin .eql (.cell 0 0) (.c (.v (.int .i64 2)))) (
  .ite (.x 2)
   (.op (.call F.impl_plain [(.cell 0 1)] false) (
   .esc (.ret [(.x 3)])))
   (.op (.bin .eql (.cell 0 0) (.c (.v (.int .i64 3)))) (
   .ite (.x 3)
    (.op (.call F.impl_lowOk [(.cell 0 1)] false) (
    .esc (.ret [(.x 4)])))
    (.op (.bin .eql (.cell 0 0) (.c (.v (.int .i64 4)))) (
    .ite (.x 4)
     (.op (.call F.impl_upOk [(.cell 0 1)] false) (
     .esc (.ret [(.x 5)])))
     (.op (.bin .eql (.cell 0 0) (.c (.v (.int .i64 5)))) (
     .ite (.x 5)
      (.op (.call F.impl_isName [(.cell 0 1), (.c (.fn F.impl_small []))] false) (
      .esc (.ret [(.x 6)])))
      (.op (.bin .eql (.cell 0 0) (.c (.v (.int .i64 6)))) (
      .ite (.x 6)
       (.op (.call F.impl_isKey [(.cell 0 1)] false) (
       .esc (.ret [(.x 7)])))
       (.op (.bin .eql (.cell 0 0) (.c (.v (.int .i64 7)))) (
       .ite (.x 7)
        (.op (.call F.impl_signs [] false) (
        .op (.call F.slices_Contains__string_string [(.x 8), (.cell 0 1)] false) (
        .esc (.ret [(.x 9)]))))
        (.jump []))))))))))))))) (
.ret [(.c (.v (.bool false)))])))

theorem T.impl_TokenOk_l : leftF Try.prog [] FL Try.f18 = some (1, T.impl_TokenOk) := by kernel_rfl

theorem T.impl_TokenOk_con {args : List AV} {res : AV} (hl : args.length = 1) (hn : AV.norefs args = true) (hw : wpT Try.prog (fun _ _ _ => False) (fun a => a = res) T.impl_TokenOk args []) : PCon Try.prog F.impl_TokenOk args res :=
  con_auto Try.func18 T.impl_TokenOk_l hl hn hw

def T.laws_szCode : T :=
.chk (.cells (.x 0) 2) (
.op (.call F.laws_szInstrS [(.cell 0 0), (.x 1)] false) (
.op (.bin .lss (.x 2) (.c (.v (.int .i64 0)))) (
.ite (.x 3)
 (.ret [(.c (.v (.int .i64 (-1))))])
 (.op (.call F.laws_szIntS [(.cell 0 1), (.x 2)] false) (
 .op (.bin .lss (.x 4) (.c (.v (.int .i64 0)))) (
 .ite (.x 5)
  (.ret [(.c (.v (.int .i64 (-1))))])
  (.ret [(.x 4)])))))))

theorem T.laws_szCode_l : leftF Try.prog [] FL Try.f19 = some (2, T.laws_szCode) := by kernel_rfl

theorem T.laws_szCode_con {args : List AV} {res : AV} (hl : args.length = 2) (hn : AV.norefs args = true) (hw : wpT Try.prog (fun _ _ _ => False) (fun a => a = res) T.laws_szCode args []) : PCon Try.prog F.laws_szCode args res :=
  con_auto Try.func19 T.laws_szCode_l hl hn hw

-- spec_Stats: code not covered
def T.laws_toCode : T :=
.chk (.cells (.x 0) 2) (
.op (.call F.laws_toInstrS [(.cell 0 0)] false) (
.chk (.one (.x 1)) (
.op (.call F.laws_toIntS [(.cell 0 1)] false) (
.chk (.one (.x 2)) (
.chk (.cells (.agg [(.x 1), (.x 2)]) 2) (
.ret [(.agg [(.x 1), (.x 2)])]))))))

theorem T.laws_toCode_l : leftF Try.prog [] FL Try.f21 = some (1, T.laws_toCode) := by kernel_rfl

theorem T.laws_toCode_con {args : List AV} {res : AV} (hl : args.length = 1) (hn : AV.norefs args = true) (hw : wpT Try.prog (fun _ _ _ => False) (fun a => a = res) T.laws_toCode args []) : PCon Try.prog F.laws_toCode args res :=
  con_auto Try.func21 T.laws_toCode_l hl hn hw

-- impl_Stats: code not covered
-- laws_eqIntA16: code not covered
def T.laws_eqCode : T :=
.chk (.cells (.x 0) 2) (
.chk (.cells (.x 1) 2) (
.op (.call F.laws_eqInstrS [(.cell 0 0), (.cell 1 0)] false) (
.op (.un .not (.x 2)) (
.ite (.x 3)
 (.ret [(.c (.v (.bool false)))])
 (.op (.call F.laws_eqIntS [(.cell 0 1), (.cell 1 1)] false) (
 .op (.un .not (.x 4)) (
 .ite (.x 5)
  (.ret [(.c (.v (.bool false)))])
  (.ret [(.c (.v (.bool true)))]))))))))

theorem T.laws_eqCode_l : leftF Try.prog [] FL Try.f24 = some (2, T.laws_eqCode) := by kernel_rfl

theorem T.laws_eqCode_con {args : List AV} {res : AV} (hl : args.length = 2) (hn : AV.norefs args = true) (hw : wpT Try.prog (fun _ _ _ => False) (fun a => a = res) T.laws_eqCode args []) : PCon Try.prog F.laws_eqCode args res :=
  con_auto Try.func24 T.laws_eqCode_l hl hn hw

def T.laws_szTy : T :=
.chk (.cells (.x 0) 4) (
.op (.lenS (.cell 0 2)) (
.op (.bin .sub (.x 1) (.x 2)) (
.op (.bin .lss (.x 3) (.c (.v (.int .i64 0)))) (
.ite (.x 4)
 (.ret [(.c (.v (.int .i64 (-1))))])
 (.op (.call F.laws_szTyS [(.cell 0 3), (.x 3)] false) (
 .op (.bin .lss (.x 5) (.c (.v (.int .i64 0)))) (
 .ite (.x 6)
  (.ret [(.c (.v (.int .i64 (-1))))])
  (.ret [(.x 5)]))))))))

theorem T.laws_szTy_l : leftF Try.prog [] FL Try.f25 = some (2, T.laws_szTy) := by kernel_rfl

theorem T.laws_szTy_con {args : List AV} {res : AV} (hl : args.length = 2) (hn : AV.norefs args = true) (hw : wpT Try.prog (fun _ _ _ => False) (fun a => a = res) T.laws_szTy args []) : PCon Try.prog F.laws_szTy args res :=
  con_auto Try.func25 T.laws_szTy_l hl hn hw

def T.spec_TyOk : T :=
.chk (.cells (.x 0) 4) (
.chk (.cells (.x 0) 4) (
.op (.call F.spec_l4Node [(.x 0)] false) (
.op (.un .not (.x 1)) (
.ite (.x 2)
 (.ret [(.c (.v (.bool false)))])
 (.bind 0 (
  .loop [(.c (.v (.int .i64 0)))] (
   .op (.lenL (.cell 0 3)) (
   .op (.bin .lss (.x 3) (.x 4)) (
   .ite (.x 5)
    (.op (.elem 4 (.cell 0 3) (.x 3)) (
    .chk (.cells (.x 6) 4) (
    .op (.call F.spec_TyOk [(.x 6)] false) (
    .op (.un .not (.x 7)) (
    .ite (.x 8)
     (.esc (.esc (.ret [(.c (.v (.bool false)))])))
     (.op (.bin .add (.x 3) (.c (.v (.int .i64 1)))) (
     .jump [(.x 9)])))))))
    (.esc (.jump [])))))) (
 .ret [(.c (.v (.bool true)))]))))))

theorem T.spec_TyOk_l : leftF Try.prog [] FL Try.f26 = some (1, T.spec_TyOk) := by kernel_rfl

theorem T.spec_TyOk_con {args : List AV} {res : AV} (hl : args.length = 1) (hn : AV.norefs args = true) (hw : wpT Try.prog (fun _ _ _ => False) (fun a => a = res) T.spec_TyOk args []) : PCon Try.prog F.spec_TyOk args res :=
  con_auto Try.func26 T.spec_TyOk_l hl hn hw

def T.laws_toTy : T :=
.chk (.cells (.x 0) 4) (
.chk (.one (.cell 0 0)) (
.chk (.one (.cell 0 1)) (
.chk (.one (.cell 0 2)) (
.op (.call F.laws_toTyS [(.cell 0 3)] false) (
.chk (.one (.x 1)) (
.chk (.cells (.agg [(.cell 0 0), (.cell 0 1), (.cell 0 2), (.x 1)]) 4) (
.ret [(.agg [(.cell 0 0), (.cell 0 1), (.cell 0 2), (.x 1)])])))))))

theorem T.laws_toTy_l : leftF Try.prog [] FL Try.f27 = some (1, T.laws_toTy) := by kernel_rfl

theorem T.laws_toTy_con {args : List AV} {res : AV} (hl : args.length = 1) (hn : AV.norefs args = true) (hw : wpT Try.prog (fun _ _ _ => False) (fun a => a = res) T.laws_toTy args []) : PCon Try.prog F.laws_toTy args res :=
  con_auto Try.func27 T.laws_toTy_l hl hn hw

def T.impl_TyOk : T :=
.chk (.cells (.x 0) 4) (
.bind 1 (
 .chk (.cells (.x 0) 4) (
 .op (.call F.impl_tyHeadOk [(.x 0)] false) (
 .ite (.x 1)
  (.op (.call F.slices_ContainsFunc__impl_Ty_impl_Ty [(.cell 0 3), (.c (.fn F.impl_TyOk_1 []))] false) (
  .op (.un .not (.x 2)) (
  .jump [(.x 3)])))
  (.jump [(.c (.v (.bool false)))])))) (
.ret [(.x 1)]))

theorem T.impl_TyOk_l : leftF Try.prog [] FL Try.f28 = some (1, T.impl_TyOk) := by kernel_rfl

theorem T.impl_TyOk_con {args : List AV} {res : AV} (hl : args.length = 1) (hn : AV.norefs args = true) (hw : wpT Try.prog (fun _ _ _ => False) (fun a => a = res) T.impl_TyOk args []) : PCon Try.prog F.impl_TyOk args res :=
  con_auto Try.func28 T.impl_TyOk_l hl hn hw

def T.laws_eqTy : T :=
.chk (.cells (.x 0) 4) (
.chk (.cells (.x 1) 4) (
.op (.bin .neq (.cell 0 0) (.cell 1 0)) (
.ite (.x 2)
 (.ret [(.c (.v (.bool false)))])
 (.op (.bin .neq (.cell 0 1) (.cell 1 1)) (
 .ite (.x 3)
  (.ret [(.c (.v (.bool false)))])
  (.op (.bin .neq (.cell 0 2) (.cell 1 2)) (
  .ite (.x 4)
   (.ret [(.c (.v (.bool false)))])
   (.op (.call F.laws_eqTyS [(.cell 0 3), (.cell 1 3)] false) (
   .op (.un .not (.x 5)) (
   .ite (.x 6)
    (.ret [(.c (.v (.bool false)))])
    (.ret [(.c (.v (.bool true)))])))))))))))

theorem T.laws_eqTy_l : leftF Try.prog [] FL Try.f29 = some (2, T.laws_eqTy) := by kernel_rfl

theorem T.laws_eqTy_con {args : List AV} {res : AV} (hl : args.length = 2) (hn : AV.norefs args = true) (hw : wpT Try.prog (fun _ _ _ => False) (fun a => a = res) T.laws_eqTy args []) : PCon Try.prog F.laws_eqTy args res :=
  con_auto Try.func29 T.laws_eqTy_l hl hn hw

def T.laws_szDataInfoS : T :=
.op (.lenL (.x 0)) (
.op (.bin .sub (.x 1) (.x 2)) (
.op (.bin .lss (.x 3) (.c (.v (.int .i64 0)))) (
.ite (.x 4)
 (.ret [(.c (.v (.int .i64 (-1))))])
 (.bind 1 (
  .loop [(.x 3), (.c (.v (.int .i64 0)))] (
   .op (.lenL (.x 0)) (
   .op (.bin .lss (.x 6) (.x 7)) (
   .ite (.x 8)
    (.op (.elem 3 (.x 0) (.x 6)) (
    .chk (.cells (.x 9) 3) (
    .op (.call F.laws_szDataInfo [(.x 9), (.x 5)] false) (
    .op (.bin .lss (.x 10) (.c (.v (.int .i64 0)))) (
    .ite (.x 11)
     (.esc (.esc (.ret [(.c (.v (.int .i64 (-1))))])))
     (.op (.bin .add (.x 6) (.c (.v (.int .i64 1)))) (
     .jump [(.x 10), (.x 12)])))))))
    (.esc (.jump [(.x 5)])))))) (
 .ret [(.x 5)])))))

theorem T.laws_szDataInfoS_l : leftF Try.prog [] FL Try.f30 = some (2, T.laws_szDataInfoS) := by kernel_rfl

theorem T.laws_szDataInfoS_con {args : List AV} {res : AV} (hl : args.length = 2) (hn : AV.norefs args = true) (hw : wpT Try.prog (fun _ _ _ => False) (fun a => a = res) T.laws_szDataInfoS args []) : PCon Try.prog F.laws_szDataInfoS args res :=
  con_auto Try.func30 T.laws_szDataInfoS_l hl hn hw

def T.spec_FindCtor : T :=
.bind 0 (
 .loop [(.c (.v (.int .i64 0)))] (
  .op (.lenL (.x 0)) (
  .op (.bin .lss (.x 2) (.x 3)) (
  .ite (.x 4)
   (.bind 0 (
    .loop [(.c (.v (.int .i64 0)))] (
     .op (.elem 3 (.x 0) (.x 2)) (
     .chk (.lt (.x 6) 2) (
     .op (.lenL (.cell 6 2)) (
     .op (.bin .lss (.x 5) (.x 7)) (
     .ite (.x 8)
      (.op (.elem 3 (.x 0) (.x 2)) (
      .chk (.lt (.x 9) 2) (
      .op (.elem 6 (.cell 9 2) (.x 5)) (
      .chk (.lt (.x 10) 0) (
      .op (.bin .eql (.cell 10 0) (.x 1)) (
      .ite (.x 11)
       (.esc (.esc (.esc (.esc (.ret [(.x 2), (.x 5)])))))
       (.op (.bin .add (.x 5) (.c (.v (.int .i64 1)))) (
       .jump [(.x 12)]))))))))
      (.esc (.jump [])))))))) (
   .op (.bin .add (.x 2) (.c (.v (.int .i64 1)))) (
   .jump [(.x 5)])))
   (.esc (.jump [])))))) (
.ret [(.c (.v (.int .i64 (-1)))), (.c (.v (.int .i64 (-1))))])

theorem T.spec_FindCtor_l : leftF Try.prog [] FL Try.f31 = some (2, T.spec_FindCtor) := by kernel_rfl

theorem T.spec_FindCtor_con {args : List AV} {res : AV} (hl : args.length = 2) (hn : AV.norefs args = true) (hw : wpT Try.prog (fun _ _ _ => False) (fun a => a = res) T.spec_FindCtor args []) : PCon Try.prog F.spec_FindCtor args res :=
  con_auto Try.func31 T.spec_FindCtor_l hl hn hw

def T.laws_toDataInfoS : T :=
.op (.lenL (.x 0)) (
.op (.rep 48 (.agg [(.v (.string ⟨#[]⟩)), (.v (.int .i64 0)), .nils]) (.x 1) (.x 1)) (
.bind 1 (
 .loop [(.x 2), (.c (.v (.int .i64 0)))] (
  .op (.lenL (.x 0)) (
  .op (.bin .lss (.x 4) (.x 5)) (
  .ite (.x 6)
   (.op (.elem 3 (.x 0) (.x 4)) (
   .chk (.cells (.x 7) 3) (
   .op (.call F.laws_toDataInfo [(.x 7)] false) (
   .chk (.idx (.x 3) (.x 4)) (
   .chk (.cells (.x 8) 3) (
   .op (.set (.x 3) (.x 4) 0 3 (.x 8)) (
   .op (.bin .add (.x 4) (.c (.v (.int .i64 1)))) (
   .jump [(.x 9), (.x 10)]))))))))
   (.esc (.jump [(.x 3)])))))) (
.ret [(.sl (.x 3))])))

theorem T.laws_toDataInfoS_l : leftF Try.prog [] FL Try.f32 = some (1, T.laws_toDataInfoS) := by kernel_rfl

theorem T.laws_toDataInfoS_con {args : List AV} {res : AV} (hl : args.length = 1) (hn : AV.norefs args = true) (hw : wpT Try.prog (fun _ _ _ => False) (fun a => a = res) T.laws_toDataInfoS args []) : PCon Try.prog F.laws_toDataInfoS args res :=
  con_auto Try.func32 T.laws_toDataInfoS_l hl hn hw

def T.impl_FindCtor : T :=
.chk (.one (.x 1)) (
.bind 0 (
 .op (.lenL (.x 0)) (
 .loop [(.c (.v (.int .i64 0)))] (
  .op (.bin .lss (.x 3) (.x 2)) (
  .ite (.x 4)
   (.op (.elem 3 (.x 0) (.x 3)) (
   .chk (.cells (.x 5) 3) (
   .chk (.cells (.x 5) 3) (
   .op (.call F.slices_IndexFunc__impl_CtorInfo_impl_CtorInfo [(.cell 5 2), (.fn F.impl_FindCtor_1 [(.ip (.x 1) 0)])] false) (
   .op (.bin .geq (.x 6) (.c (.v (.int .i64 0)))) (
   .ite (.x 7)
    (.esc (.esc (.ret [(.x 3), (.x 6)])))
    (.op (.bin .add (.x 3) (.c (.v (.int .i64 1)))) (
    .jump [(.x 8)]))))))))
   (.esc (.jump [])))))) (
.ret [(.c (.v (.int .i64 (-1)))), (.c (.v (.int .i64 (-1))))]))

theorem T.impl_FindCtor_l : leftF Try.prog [] FL Try.f33 = some (2, T.impl_FindCtor) := by kernel_rfl

theorem T.impl_FindCtor_con {args : List AV} {res : AV} (hl : args.length = 2) (hn : AV.norefs args = true) (hw : wpT Try.prog (fun _ _ _ => False) (fun a => a = res) T.impl_FindCtor args []) : PCon Try.prog F.impl_FindCtor args res :=
  con_auto Try.func33 T.impl_FindCtor_l hl hn hw

def T.laws_eqDataInfoS : T :=
.op (.lenL (.x 0)) (
.op (.lenL (.x 1)) (
.op (.bin .neq (.x 2) (.x 3)) (
.ite (.x 4)
 (.ret [(.c (.v (.bool false)))])
 (.bind 0 (
  .loop [(.c (.v (.int .i64 0)))] (
   .op (.lenL (.x 0)) (
   .op (.bin .lss (.x 5) (.x 6)) (
   .ite (.x 7)
    (.op (.elem 3 (.x 0) (.x 5)) (
    .chk (.cells (.x 8) 3) (
    .op (.elem 3 (.x 1) (.x 5)) (
    .chk (.cells (.x 9) 3) (
    .op (.call F.laws_eqDataInfo [(.x 8), (.x 9)] false) (
    .op (.un .not (.x 10)) (
    .ite (.x 11)
     (.esc (.esc (.ret [(.c (.v (.bool false)))])))
     (.op (.bin .add (.x 5) (.c (.v (.int .i64 1)))) (
     .jump [(.x 12)])))))))))
    (.esc (.jump [])))))) (
 .ret [(.c (.v (.bool true)))])))))

theorem T.laws_eqDataInfoS_l : leftF Try.prog [] FL Try.f34 = some (2, T.laws_eqDataInfoS) := by kernel_rfl

theorem T.laws_eqDataInfoS_con {args : List AV} {res : AV} (hl : args.length = 2) (hn : AV.norefs args = true) (hw : wpT Try.prog (fun _ _ _ => False) (fun a => a = res) T.laws_eqDataInfoS args []) : PCon Try.prog F.laws_eqDataInfoS args res :=
  con_auto Try.func34 T.laws_eqDataInfoS_l hl hn hw

def T.laws_szKTerm : T :=
.chk (.cells (.x 0) 11) (
.op (.lenS (.cell 0 1)) (
.op (.bin .sub (.x 1) (.x 2)) (
.op (.bin .lss (.x 3) (.c (.v (.int .i64 0)))) (
.ite (.x 4)
 (.ret [(.c (.v (.int .i64 (-1))))])
 (.op (.call F.laws_szTy [(.agg [(.cell 0 4), (.cell 0 5), (.cell 0 6), (.cell 0 7)]), (.x 3)] false) (
 .op (.bin .lss (.x 5) (.c (.v (.int .i64 0)))) (
 .ite (.x 6)
  (.ret [(.c (.v (.int .i64 (-1))))])
  (.op (.call F.laws_szTyS [(.cell 0 8), (.x 5)] false) (
  .op (.bin .lss (.x 7) (.c (.v (.int .i64 0)))) (
  .ite (.x 8)
   (.ret [(.c (.v (.int .i64 (-1))))])
   (.op (.call F.laws_szKValS [(.cell 0 9), (.x 7)] false) (
   .op (.bin .lss (.x 9) (.c (.v (.int .i64 0)))) (
   .ite (.x 10)
    (.ret [(.c (.v (.int .i64 (-1))))])
    (.op (.call F.laws_szKTermS [(.cell 0 10), (.x 9)] false) (
    .op (.bin .lss (.x 11) (.c (.v (.int .i64 0)))) (
    .ite (.x 12)
     (.ret [(.c (.v (.int .i64 (-1))))])
     (.ret [(.x 11)])))))))))))))))))

theorem T.laws_szKTerm_l : leftF Try.prog [] FL Try.f35 = some (2, T.laws_szKTerm) := by kernel_rfl

theorem T.laws_szKTerm_con {args : List AV} {res : AV} (hl : args.length = 2) (hn : AV.norefs args = true) (hw : wpT Try.prog (fun _ _ _ => False) (fun a => a = res) T.laws_szKTerm args []) : PCon Try.prog F.laws_szKTerm args res :=
  con_auto Try.func35 T.laws_szKTerm_l hl hn hw

def T.spec_KSize : T :=
.chk (.cells (.x 0) 11) (
.bind 1 (
 .loop [(.c (.v (.int .i64 1))), (.c (.v (.int .i64 0)))] (
  .op (.lenL (.cell 0 10)) (
  .op (.bin .lss (.x 2) (.x 3)) (
  .ite (.x 4)
   (.op (.elem 11 (.cell 0 10) (.x 2)) (
   .chk (.cells (.x 5) 11) (
   .op (.call F.spec_KSize [(.x 5)] false) (
   .op (.bin .add (.x 1) (.x 6)) (
   .op (.bin .add (.x 2) (.c (.v (.int .i64 1)))) (
   .jump [(.x 7), (.x 8)]))))))
   (.esc (.jump [(.x 1)])))))) (
.ret [(.x 1)]))

theorem T.spec_KSize_l : leftF Try.prog [] FL Try.f36 = some (1, T.spec_KSize) := by kernel_rfl

theorem T.spec_KSize_con {args : List AV} {res : AV} (hl : args.length = 1) (hn : AV.norefs args = true) (hw : wpT Try.prog (fun _ _ _ => False) (fun a => a = res) T.spec_KSize args []) : PCon Try.prog F.spec_KSize args res :=
  con_auto Try.func36 T.spec_KSize_l hl hn hw

def T.laws_toKTerm : T :=
.chk (.cells (.x 0) 11) (
.chk (.one (.cell 0 0)) (
.chk (.one (.cell 0 1)) (
.chk (.one (.cell 0 2)) (
.chk (.one (.cell 0 3)) (
.op (.call F.laws_toTy [(.agg [(.cell 0 4), (.cell 0 5), (.cell 0 6), (.cell 0 7)])] false) (
.chk (.cells (.x 1) 4) (
.op (.call F.laws_toTyS [(.cell 0 8)] false) (
.chk (.one (.x 2)) (
.op (.call F.laws_toKValS [(.cell 0 9)] false) (
.chk (.one (.x 3)) (
.op (.call F.laws_toKTermS [(.cell 0 10)] false) (
.chk (.one (.x 4)) (
.chk (.cells (.agg [(.cell 0 0), (.cell 0 1), (.cell 0 2), (.cell 0 3), (.cell 1 0), (.cell 1 1), (.cell 1 2), (.cell 1 3), (.x 2), (.x 3), (.x 4)]) 11) (
.ret [(.agg [(.cell 0 0), (.cell 0 1), (.cell 0 2), (.cell 0 3), (.cell 1 0), (.cell 1 1), (.cell 1 2), (.cell 1 3), (.x 2), (.x 3), (.x 4)])]))))))))))))))

theorem T.laws_toKTerm_l : leftF Try.prog [] FL Try.f37 = some (1, T.laws_toKTerm) := by kernel_rfl

theorem T.laws_toKTerm_con {args : List AV} {res : AV} (hl : args.length = 1) (hn : AV.norefs args = true) (hw : wpT Try.prog (fun _ _ _ => False) (fun a => a = res) T.laws_toKTerm args []) : PCon Try.prog F.laws_toKTerm args res :=
  con_auto Try.func37 T.laws_toKTerm_l hl hn hw

def T.impl_KSize : T :=
.chk (.cells (.x 0) 11) (
.bind 1 (
 .op (.lenL (.cell 0 10)) (
 .loop [(.c (.v (.int .i64 1))), (.c (.v (.int .i64 0)))] (
  .op (.bin .lss (.x 3) (.x 1)) (
  .ite (.x 4)
   (.op (.elem 11 (.cell 0 10) (.x 3)) (
   .chk (.cells (.x 5) 11) (
   .chk (.cells (.x 5) 11) (
   .chk (.cells (.x 5) 11) (
   .op (.call F.impl_KSize [(.x 5)] false) (
   .op (.bin .add (.x 2) (.x 6)) (
   .op (.bin .add (.x 3) (.c (.v (.int .i64 1)))) (
   .jump [(.x 7), (.x 8)]))))))))
   (.esc (.jump [(.x 2)])))))) (
.ret [(.x 1)]))

theorem T.impl_KSize_l : leftF Try.prog [] FL Try.f38 = some (1, T.impl_KSize) := by kernel_rfl

theorem T.impl_KSize_con {args : List AV} {res : AV} (hl : args.length = 1) (hn : AV.norefs args = true) (hw : wpT Try.prog (fun _ _ _ => False) (fun a => a = res) T.impl_KSize args []) : PCon Try.prog F.impl_KSize args res :=
  con_auto Try.func38 T.impl_KSize_l hl hn hw

def T.laws_eqKTerm : T :=
.chk (.cells (.x 0) 11) (
.chk (.cells (.x 1) 11) (
.op (.bin .neq (.cell 0 0) (.cell 1 0)) (
.ite (.x 2)
 (.ret [(.c (.v (.bool false)))])
 (.op (.bin .neq (.cell 0 1) (.cell 1 1)) (
 .ite (.x 3)
  (.ret [(.c (.v (.bool false)))])
  (.op (.bin .neq (.cell 0 2) (.cell 1 2)) (
  .ite (.x 4)
   (.ret [(.c (.v (.bool false)))])
   (.op (.bin .neq (.cell 0 3) (.cell 1 3)) (
   .ite (.x 5)
    (.ret [(.c (.v (.bool false)))])
    (.op (.call F.laws_eqTy [(.agg [(.cell 0 4), (.cell 0 5), (.cell 0 6), (.cell 0 7)]), (.agg [(.cell 1 4), (.cell 1 5), (.cell 1 6), (.cell 1 7)])] false) (
    .op (.un .not (.x 6)) (
    .ite (.x 7)
     (.ret [(.c (.v (.bool false)))])
     (.op (.call F.laws_eqTyS [(.cell 0 8), (.cell 1 8)] false) (
     .op (.un .not (.x 8)) (
     .ite (.x 9)
      (.ret [(.c (.v (.bool false)))])
      (.op (.call F.laws_eqKValS [(.cell 0 9), (.cell 1 9)] false) (
      .op (.un .not (.x 10)) (
      .ite (.x 11)
       (.ret [(.c (.v (.bool false)))])
       (.op (.call F.laws_eqKTermS [(.cell 0 10), (.cell 1 10)] false) (
       .op (.un .not (.x 12)) (
       .ite (.x 13)
        (.ret [(.c (.v (.bool false)))])
        (.ret [(.c (.v (.bool true)))]))))))))))))))))))))))

theorem T.laws_eqKTerm_l : leftF Try.prog [] FL Try.f39 = some (2, T.laws_eqKTerm) := by kernel_rfl

theorem T.laws_eqKTerm_con {args : List AV} {res : AV} (hl : args.length = 2) (hn : AV.norefs args = true) (hw : wpT Try.prog (fun _ _ _ => False) (fun a => a = res) T.laws_eqKTerm args []) : PCon Try.prog F.laws_eqKTerm args res :=
  con_auto Try.func39 T.laws_eqKTerm_l hl hn hw

def T.laws_big : T :=
.op (.lenL (.x 0)) (
.op (.bin .gtr (.x 1) (.c (.v (.int .i64 1048576)))) (
.ret [(.x 2)]))

theorem T.laws_big_l : leftF Try.prog [] FL Try.f40 = some (1, T.laws_big) := by kernel_rfl

theorem T.laws_big_con {args : List AV} {res : AV} (hl : args.length = 1) (hn : AV.norefs args = true) (hw : wpT Try.prog (fun _ _ _ => False) (fun a => a = res) T.laws_big args []) : PCon Try.prog F.laws_big args res :=
  con_auto Try.func40 T.laws_big_l hl hn hw

def T.laws_at : T :=
.op (.lenL (.x 0)) (
.op (.bin .lss (.x 1) (.x 2)) (
.ite (.x 3)
 (.op (.elem 1 (.x 0) (.x 1)) (
 .chk (.lt (.x 4) 0) (
 .op (.conv .i64 (.cell 4 0)) (
 .ret [(.x 5)]))))
 (.op (.bin .mul (.x 1) (.c (.v (.int .i64 31)))) (
 .op (.lenL (.x 0)) (
 .op (.bin .mul (.x 5) (.c (.v (.int .i64 7)))) (
 .op (.bin .add (.x 4) (.x 6)) (
 .op (.bin .rem (.x 7) (.c (.v (.int .i64 256)))) (
 .ret [(.x 8)]))))))))

theorem T.laws_at_l : leftF Try.prog [] FL Try.f41 = some (2, T.laws_at) := by kernel_rfl

theorem T.laws_at_con {args : List AV} {res : AV} (hl : args.length = 2) (hn : AV.norefs args = true) (hw : wpT Try.prog (fun _ _ _ => False) (fun a => a = res) T.laws_at args []) : PCon Try.prog F.laws_at args res :=
  con_auto Try.func41 T.laws_at_l hl hn hw

def T.impl_Alpha : T :=
.chk (.cells (.x 0) 7) (
.chk (.cells (.x 1) 7) (
.bind 1 (
 .chk (.cells (.x 0) 7) (
 .op (.call F.impl_ExpOk [(.x 0)] false) (
 .ite (.x 2)
  (.chk (.cells (.x 1) 7) (
  .op (.call F.impl_ExpOk [(.x 1)] false) (
  .ite (.x 3)
   (.chk (.cells (.x 0) 7) (
   .chk (.cells (.x 1) 7) (
   .op (.call F.impl_alpha [(.x 0), (.x 1), (.c .nils), (.c .nils)] false) (
   .jump [(.x 4)]))))
   (.jump [(.c (.v (.bool false)))]))))
  (.jump [(.c (.v (.bool false)))])))) (
.ret [(.x 2)])))

theorem T.impl_Alpha_l : leftF Try.prog [] FL Try.f42 = some (2, T.impl_Alpha) := by kernel_rfl

theorem T.impl_Alpha_con {args : List AV} {res : AV} (hl : args.length = 2) (hn : AV.norefs args = true) (hw : wpT Try.prog (fun _ _ _ => False) (fun a => a = res) T.impl_Alpha args []) : PCon Try.prog F.impl_Alpha args res :=
  con_auto Try.func42 T.impl_Alpha_l hl hn hw

def T.laws_szExp : T :=
.chk (.cells (.x 0) 7) (
.op (.lenS (.cell 0 1)) (
.op (.bin .sub (.x 1) (.x 2)) (
.op (.bin .lss (.x 3) (.c (.v (.int .i64 0)))) (
.ite (.x 4)
 (.ret [(.c (.v (.int .i64 (-1))))])
 (.op (.lenS (.cell 0 3)) (
 .op (.bin .sub (.x 3) (.x 5)) (
 .op (.bin .lss (.x 6) (.c (.v (.int .i64 0)))) (
 .ite (.x 7)
  (.ret [(.c (.v (.int .i64 (-1))))])
  (.op (.call F.laws_szExpS [(.cell 0 5), (.x 6)] false) (
  .op (.bin .lss (.x 8) (.c (.v (.int .i64 0)))) (
  .ite (.x 9)
   (.ret [(.c (.v (.int .i64 (-1))))])
   (.op (.call F.laws_szArmS [(.cell 0 6), (.x 8)] false) (
   .op (.bin .lss (.x 10) (.c (.v (.int .i64 0)))) (
   .ite (.x 11)
    (.ret [(.c (.v (.int .i64 (-1))))])
    (.ret [(.x 10)])))))))))))))))

theorem T.laws_szExp_l : leftF Try.prog [] FL Try.f43 = some (2, T.laws_szExp) := by kernel_rfl

theorem T.laws_szExp_con {args : List AV} {res : AV} (hl : args.length = 2) (hn : AV.norefs args = true) (hw : wpT Try.prog (fun _ _ _ => False) (fun a => a = res) T.laws_szExp args []) : PCon Try.prog F.laws_szExp args res :=
  con_auto Try.func43 T.laws_szExp_l hl hn hw

def T.spec_ExpSize : T :=
.chk (.cells (.x 0) 7) (
.bind 1 (
 .loop [(.c (.v (.int .i64 1))), (.c (.v (.int .i64 0)))] (
  .op (.lenL (.cell 0 5)) (
  .op (.bin .lss (.x 2) (.x 3)) (
  .ite (.x 4)
   (.op (.elem 7 (.cell 0 5) (.x 2)) (
   .chk (.cells (.x 5) 7) (
   .op (.call F.spec_ExpSize [(.x 5)] false) (
   .op (.bin .add (.x 1) (.x 6)) (
   .op (.bin .add (.x 2) (.c (.v (.int .i64 1)))) (
   .jump [(.x 7), (.x 8)]))))))
   (.esc (.jump [(.x 1)])))))) (
.bind 1 (
 .loop [(.x 1), (.c (.v (.int .i64 0)))] (
  .op (.lenL (.cell 0 6)) (
  .op (.bin .lss (.x 3) (.x 4)) (
  .ite (.x 5)
   (.op (.elem 12 (.cell 0 6) (.x 3)) (
   .op (.loadc 0 5 (.x 6)) (
   .op (.call F.spec_l2PatSize [(.x 7)] false) (
   .op (.bin .add (.x 2) (.x 8)) (
   .op (.elem 12 (.cell 0 6) (.x 3)) (
   .op (.loadc 5 7 (.x 10)) (
   .op (.call F.spec_ExpSize [(.x 11)] false) (
   .op (.bin .add (.x 9) (.x 12)) (
   .op (.bin .add (.x 3) (.c (.v (.int .i64 1)))) (
   .jump [(.x 13), (.x 14)]))))))))))
   (.esc (.jump [(.x 2)])))))) (
.ret [(.x 2)])))

theorem T.spec_ExpSize_l : leftF Try.prog [] FL Try.f44 = some (1, T.spec_ExpSize) := by kernel_rfl

theorem T.spec_ExpSize_con {args : List AV} {res : AV} (hl : args.length = 1) (hn : AV.norefs args = true) (hw : wpT Try.prog (fun _ _ _ => False) (fun a => a = res) T.spec_ExpSize args []) : PCon Try.prog F.spec_ExpSize args res :=
  con_auto Try.func44 T.spec_ExpSize_l hl hn hw

def T.laws_toExp : T :=
.chk (.cells (.x 0) 7) (
.chk (.one (.cell 0 0)) (
.chk (.one (.cell 0 1)) (
.chk (.one (.cell 0 2)) (
.chk (.one (.cell 0 3)) (
.chk (.one (.cell 0 4)) (
.op (.call F.laws_toExpS [(.cell 0 5)] false) (
.chk (.one (.x 1)) (
.op (.call F.laws_toArmS [(.cell 0 6)] false) (
.chk (.one (.x 2)) (
.chk (.cells (.agg [(.cell 0 0), (.cell 0 1), (.cell 0 2), (.cell 0 3), (.cell 0 4), (.x 1), (.x 2)]) 7) (
.ret [(.agg [(.cell 0 0), (.cell 0 1), (.cell 0 2), (.cell 0 3), (.cell 0 4), (.x 1), (.x 2)])])))))))))))

theorem T.laws_toExp_l : leftF Try.prog [] FL Try.f45 = some (1, T.laws_toExp) := by kernel_rfl

theorem T.laws_toExp_con {args : List AV} {res : AV} (hl : args.length = 1) (hn : AV.norefs args = true) (hw : wpT Try.prog (fun _ _ _ => False) (fun a => a = res) T.laws_toExp args []) : PCon Try.prog F.laws_toExp args res :=
  con_auto Try.func45 T.laws_toExp_l hl hn hw

def T.impl_ExpSize : T :=
.chk (.cells (.x 0) 7) (
.bind 1 (
 .op (.lenL (.cell 0 5)) (
 .loop [(.c (.v (.int .i64 1))), (.c (.v (.int .i64 0)))] (
  .op (.bin .lss (.x 3) (.x 1)) (
  .ite (.x 4)
   (.op (.elem 7 (.cell 0 5) (.x 3)) (
   .chk (.cells (.x 5) 7) (
   .chk (.cells (.x 5) 7) (
   .chk (.cells (.x 5) 7) (
   .op (.call F.impl_ExpSize [(.x 5)] false) (
   .op (.bin .add (.x 2) (.x 6)) (
   .op (.bin .add (.x 3) (.c (.v (.int .i64 1)))) (
   .jump [(.x 7), (.x 8)]))))))))
   (.esc (.jump [(.x 2)])))))) (
.bind 1 (
 .op (.lenL (.cell 0 6)) (
 .loop [(.x 1), (.c (.v (.int .i64 0)))] (
  .op (.bin .lss (.x 4) (.x 2)) (
  .ite (.x 5)
   (.op (.elem 12 (.cell 0 6) (.x 4)) (
   .chk (.cells (.x 6) 12) (
   .chk (.cells (.x 6) 12) (
   .op (.call F.impl_patSize [(.agg [(.cell 6 0), (.cell 6 1), (.cell 6 2), (.cell 6 3), (.cell 6 4)])] false) (
   .op (.call F.impl_ExpSize [(.agg [(.cell 6 5), (.cell 6 6), (.cell 6 7), (.cell 6 8), (.cell 6 9), (.cell 6 10), (.cell 6 11)])] false) (
   .op (.bin .add (.x 7) (.x 8)) (
   .op (.bin .add (.x 3) (.x 9)) (
   .op (.bin .add (.x 4) (.c (.v (.int .i64 1)))) (
   .jump [(.x 10), (.x 11)])))))))))
   (.esc (.jump [(.x 3)])))))) (
.ret [(.x 2)])))

theorem T.impl_ExpSize_l : leftF Try.prog [] FL Try.f46 = some (1, T.impl_ExpSize) := by kernel_rfl

theorem T.impl_ExpSize_con {args : List AV} {res : AV} (hl : args.length = 1) (hn : AV.norefs args = true) (hw : wpT Try.prog (fun _ _ _ => False) (fun a => a = res) T.impl_ExpSize args []) : PCon Try.prog F.impl_ExpSize args res :=
  con_auto Try.func46 T.impl_ExpSize_l hl hn hw

def T.laws_eqExp : T :=
.chk (.cells (.x 0) 7) (
.chk (.cells (.x 1) 7) (
.op (.bin .neq (.cell 0 0) (.cell 1 0)) (
.ite (.x 2)
 (.ret [(.c (.v (.bool false)))])
 (.op (.bin .neq (.cell 0 1) (.cell 1 1)) (
 .ite (.x 3)
  (.ret [(.c (.v (.bool false)))])
  (.op (.bin .neq (.cell 0 2) (.cell 1 2)) (
  .ite (.x 4)
   (.ret [(.c (.v (.bool false)))])
   (.op (.bin .neq (.cell 0 3) (.cell 1 3)) (
   .ite (.x 5)
    (.ret [(.c (.v (.bool false)))])
    (.op (.bin .neq (.cell 0 4) (.cell 1 4)) (
    .ite (.x 6)
     (.ret [(.c (.v (.bool false)))])
     (.op (.call F.laws_eqExpS [(.cell 0 5), (.cell 1 5)] false) (
     .op (.un .not (.x 7)) (
     .ite (.x 8)
      (.ret [(.c (.v (.bool false)))])
      (.op (.call F.laws_eqArmS [(.cell 0 6), (.cell 1 6)] false) (
      .op (.un .not (.x 9)) (
      .ite (.x 10)
       (.ret [(.c (.v (.bool false)))])
       (.ret [(.c (.v (.bool true)))]))))))))))))))))))

theorem T.laws_eqExp_l : leftF Try.prog [] FL Try.f47 = some (2, T.laws_eqExp) := by kernel_rfl

theorem T.laws_eqExp_con {args : List AV} {res : AV} (hl : args.length = 2) (hn : AV.norefs args = true) (hw : wpT Try.prog (fun _ _ _ => False) (fun a => a = res) T.laws_eqExp args []) : PCon Try.prog F.laws_eqExp args res :=
  con_auto Try.func47 T.laws_eqExp_l hl hn hw

def T.spec_Free : T :=
.chk (.cells (.x 0) 4) (
.bind 0 (
 .bind 1 (
  .chk (.cells (.x 0) 4) (
  .op (.call F.spec_TyOk [(.x 0)] false) (
  .op (.un .not (.x 2)) (
  .ite (.x 3)
   (.jump [(.c (.v (.bool true)))])
   (.op (.call F.spec_l1In [(.x 1), (.c (.v (.int .i64 9))), (.c (.v (.int .i64 11)))] false) (
   .op (.un .not (.x 4)) (
   .jump [(.x 5)]))))))) (
 .ite (.x 2)
  (.op (.mkl (.v (.int .i64 0)) 0 []) (
  .esc (.ret [(.sl (.x 3))])))
  (.jump []))) (
.chk (.cells (.x 0) 4) (
.op (.mkl (.v (.int .i64 0)) 0 []) (
.op (.call F.spec_l4Free [(.x 0), (.x 1), (.sl (.x 2))] false) (
.ret [(.x 3)])))))

theorem T.spec_Free_l : leftF Try.prog [] FL Try.f48 = some (2, T.spec_Free) := by kernel_rfl

theorem T.spec_Free_con {args : List AV} {res : AV} (hl : args.length = 2) (hn : AV.norefs args = true) (hw : wpT Try.prog (fun _ _ _ => False) (fun a => a = res) T.spec_Free args []) : PCon Try.prog F.spec_Free args res :=
  con_auto Try.func48 T.spec_Free_l hl hn hw

def T.impl_Free : T :=
.chk (.cells (.x 0) 4) (
.bind 0 (
 .bind 1 (
  .op (.call F.impl_isVarKind [(.x 1)] false) (
  .op (.un .not (.x 2)) (
  .ite (.x 3)
   (.jump [(.c (.v (.bool true)))])
   (.chk (.cells (.x 0) 4) (
   .op (.call F.impl_TyOk [(.x 0)] false) (
   .op (.un .not (.x 4)) (
   .jump [(.x 5)]))))))) (
 .ite (.x 2)
  (.esc (.ret [(.c .nils)]))
  (.jump []))) (
.chk (.cells (.x 0) 4) (
.op (.call F.impl_frees [(.x 0), (.x 1)] false) (
.ret [(.x 2)]))))

theorem T.impl_Free_l : leftF Try.prog [] FL Try.f49 = some (2, T.impl_Free) := by kernel_rfl

theorem T.impl_Free_con {args : List AV} {res : AV} (hl : args.length = 2) (hn : AV.norefs args = true) (hw : wpT Try.prog (fun _ _ _ => False) (fun a => a = res) T.impl_Free args []) : PCon Try.prog F.impl_Free args res :=
  con_auto Try.func49 T.impl_Free_l hl hn hw

def T.laws_eqIntS : T :=
.op (.lenL (.x 0)) (
.op (.lenL (.x 1)) (
.op (.bin .neq (.x 2) (.x 3)) (
.ite (.x 4)
 (.ret [(.c (.v (.bool false)))])
 (.bind 0 (
  .loop [(.c (.v (.int .i64 0)))] (
   .op (.lenL (.x 0)) (
   .op (.bin .lss (.x 5) (.x 6)) (
   .ite (.x 7)
    (.op (.elem 1 (.x 0) (.x 5)) (
    .chk (.lt (.x 8) 0) (
    .op (.elem 1 (.x 1) (.x 5)) (
    .chk (.lt (.x 9) 0) (
    .op (.bin .neq (.cell 8 0) (.cell 9 0)) (
    .ite (.x 10)
     (.esc (.esc (.ret [(.c (.v (.bool false)))])))
     (.op (.bin .add (.x 5) (.c (.v (.int .i64 1)))) (
     .jump [(.x 11)]))))))))
    (.esc (.jump [])))))) (
 .ret [(.c (.v (.bool true)))])))))

theorem T.laws_eqIntS_l : leftF Try.prog [] FL Try.f50 = some (2, T.laws_eqIntS) := by kernel_rfl

theorem T.laws_eqIntS_con {args : List AV} {res : AV} (hl : args.length = 2) (hn : AV.norefs args = true) (hw : wpT Try.prog (fun _ _ _ => False) (fun a => a = res) T.laws_eqIntS args []) : PCon Try.prog F.laws_eqIntS args res :=
  con_auto Try.func50 T.laws_eqIntS_l hl hn hw

def T.laws_markTy : T :=
.chk (.cells (.x 0) 4) (
.op (.call F.laws_markTyS [(.cell 0 3), (.x 1)] false) (
.ret [(.x 2)]))

theorem T.laws_markTy_l : leftF Try.prog [] FL Try.f51 = some (2, T.laws_markTy) := by kernel_rfl

theorem T.laws_markTy_con {args : List AV} {res : AV} (hl : args.length = 2) (hn : AV.norefs args = true) (hw : wpT Try.prog (fun _ _ _ => False) (fun a => a = res) T.laws_markTy args []) : PCon Try.prog F.laws_markTy args res :=
  con_auto Try.func51 T.laws_markTy_l hl hn hw

-- laws_markIntS: no walk
def T.laws_heldIntS : T :=
.bind 1 (
 .loop [(.x 1), (.c (.v (.int .i64 0)))] (
  .op (.lenL (.x 0)) (
  .op (.bin .lss (.x 3) (.x 4)) (
  .ite (.x 5)
   (.op (.elem 1 (.x 0) (.x 3)) (
   .chk (.lt (.x 6) 0) (
   .op (.bin .neq (.cell 6 0) (.x 2)) (
   .ite (.x 7)
    (.esc (.esc (.ret [(.c (.v (.int .i64 (-1))))])))
    (.op (.bin .add (.x 2) (.c (.v (.int .i64 1)))) (
    .op (.bin .add (.x 3) (.c (.v (.int .i64 1)))) (
    .jump [(.x 8), (.x 9)])))))))
   (.esc (.jump [(.x 2)])))))) (
.ret [(.x 2)])

theorem T.laws_heldIntS_l : leftF Try.prog [] FL Try.f53 = some (2, T.laws_heldIntS) := by kernel_rfl

theorem T.laws_heldIntS_con {args : List AV} {res : AV} (hl : args.length = 2) (hn : AV.norefs args = true) (hw : wpT Try.prog (fun _ _ _ => False) (fun a => a = res) T.laws_heldIntS args []) : PCon Try.prog F.laws_heldIntS args res :=
  con_auto Try.func53 T.laws_heldIntS_l hl hn hw

def T.laws_szTyS : T :=
.op (.lenL (.x 0)) (
.op (.bin .sub (.x 1) (.x 2)) (
.op (.bin .lss (.x 3) (.c (.v (.int .i64 0)))) (
.ite (.x 4)
 (.ret [(.c (.v (.int .i64 (-1))))])
 (.bind 1 (
  .loop [(.x 3), (.c (.v (.int .i64 0)))] (
   .op (.lenL (.x 0)) (
   .op (.bin .lss (.x 6) (.x 7)) (
   .ite (.x 8)
    (.op (.elem 4 (.x 0) (.x 6)) (
    .chk (.cells (.x 9) 4) (
    .op (.call F.laws_szTy [(.x 9), (.x 5)] false) (
    .op (.bin .lss (.x 10) (.c (.v (.int .i64 0)))) (
    .ite (.x 11)
     (.esc (.esc (.ret [(.c (.v (.int .i64 (-1))))])))
     (.op (.bin .add (.x 6) (.c (.v (.int .i64 1)))) (
     .jump [(.x 10), (.x 12)])))))))
    (.esc (.jump [(.x 5)])))))) (
 .ret [(.x 5)])))))

theorem T.laws_szTyS_l : leftF Try.prog [] FL Try.f54 = some (2, T.laws_szTyS) := by kernel_rfl

theorem T.laws_szTyS_con {args : List AV} {res : AV} (hl : args.length = 2) (hn : AV.norefs args = true) (hw : wpT Try.prog (fun _ _ _ => False) (fun a => a = res) T.laws_szTyS args []) : PCon Try.prog F.laws_szTyS args res :=
  con_auto Try.func54 T.laws_szTyS_l hl hn hw

def T.spec_Put : T :=
.chk (.cells (.x 0) 4) (
.bind 0 (
 .bind 1 (
  .chk (.cells (.x 0) 4) (
  .op (.call F.spec_TyOk [(.x 0)] false) (
  .op (.un .not (.x 3)) (
  .ite (.x 4)
   (.jump [(.c (.v (.bool true)))])
   (.op (.call F.spec_l1In [(.x 1), (.c (.v (.int .i64 9))), (.c (.v (.int .i64 11)))] false) (
   .op (.un .not (.x 5)) (
   .jump [(.x 6)]))))))) (
 .ite (.x 3)
  (.chk (.cells (.x 0) 4) (
  .op (.call F.spec_l4Copy [(.x 0)] false) (
  .chk (.cells (.x 4) 4) (
  .esc (.ret [(.agg [(.cell 4 0), (.cell 4 1), (.cell 4 2), (.cell 4 3)])])))))
  (.jump []))) (
.chk (.cells (.x 0) 4) (
.op (.call F.spec_l4Put [(.x 0), (.x 1), (.x 2)] false) (
.chk (.cells (.x 3) 4) (
.ret [(.agg [(.cell 3 0), (.cell 3 1), (.cell 3 2), (.cell 3 3)])])))))

theorem T.spec_Put_l : leftF Try.prog [] FL Try.f55 = some (3, T.spec_Put) := by kernel_rfl

theorem T.spec_Put_con {args : List AV} {res : AV} (hl : args.length = 3) (hn : AV.norefs args = true) (hw : wpT Try.prog (fun _ _ _ => False) (fun a => a = res) T.spec_Put args []) : PCon Try.prog F.spec_Put args res :=
  con_auto Try.func55 T.spec_Put_l hl hn hw

def T.laws_toTyS : T :=
.op (.lenL (.x 0)) (
.op (.rep 56 (.agg [(.v (.int .i64 0)), (.v (.int .i64 0)), (.v (.string ⟨#[]⟩)), .nils]) (.x 1) (.x 1)) (
.bind 1 (
 .loop [(.x 2), (.c (.v (.int .i64 0)))] (
  .op (.lenL (.x 0)) (
  .op (.bin .lss (.x 4) (.x 5)) (
  .ite (.x 6)
   (.op (.elem 4 (.x 0) (.x 4)) (
   .chk (.cells (.x 7) 4) (
   .op (.call F.laws_toTy [(.x 7)] false) (
   .chk (.idx (.x 3) (.x 4)) (
   .chk (.cells (.x 8) 4) (
   .op (.set (.x 3) (.x 4) 0 4 (.x 8)) (
   .op (.bin .add (.x 4) (.c (.v (.int .i64 1)))) (
   .jump [(.x 9), (.x 10)]))))))))
   (.esc (.jump [(.x 3)])))))) (
.ret [(.sl (.x 3))])))

theorem T.laws_toTyS_l : leftF Try.prog [] FL Try.f56 = some (1, T.laws_toTyS) := by kernel_rfl

theorem T.laws_toTyS_con {args : List AV} {res : AV} (hl : args.length = 1) (hn : AV.norefs args = true) (hw : wpT Try.prog (fun _ _ _ => False) (fun a => a = res) T.laws_toTyS args []) : PCon Try.prog F.laws_toTyS args res :=
  con_auto Try.func56 T.laws_toTyS_l hl hn hw

def T.impl_Put : T :=
.chk (.cells (.x 0) 4) (
.bind 0 (
 .bind 1 (
  .op (.call F.impl_isVarKind [(.x 1)] false) (
  .op (.un .not (.x 3)) (
  .ite (.x 4)
   (.jump [(.c (.v (.bool true)))])
   (.chk (.cells (.x 0) 4) (
   .op (.call F.impl_TyOk [(.x 0)] false) (
   .op (.un .not (.x 5)) (
   .jump [(.x 6)]))))))) (
 .ite (.x 3)
  (.chk (.cells (.x 0) 4) (
  .op (.call F.impl_copyTy [(.x 0)] false) (
  .chk (.cells (.x 4) 4) (
  .esc (.ret [(.agg [(.cell 4 0), (.cell 4 1), (.cell 4 2), (.cell 4 3)])])))))
  (.jump []))) (
.chk (.cells (.x 0) 4) (
.op (.call F.impl_put [(.x 0), (.x 1), (.x 2)] false) (
.chk (.cells (.x 3) 4) (
.ret [(.agg [(.cell 3 0), (.cell 3 1), (.cell 3 2), (.cell 3 3)])])))))

theorem T.impl_Put_l : leftF Try.prog [] FL Try.f57 = some (3, T.impl_Put) := by kernel_rfl

theorem T.impl_Put_con {args : List AV} {res : AV} (hl : args.length = 3) (hn : AV.norefs args = true) (hw : wpT Try.prog (fun _ _ _ => False) (fun a => a = res) T.impl_Put args []) : PCon Try.prog F.impl_Put args res :=
  con_auto Try.func57 T.impl_Put_l hl hn hw

def T.laws_eqTyS : T :=
.op (.lenL (.x 0)) (
.op (.lenL (.x 1)) (
.op (.bin .neq (.x 2) (.x 3)) (
.ite (.x 4)
 (.ret [(.c (.v (.bool false)))])
 (.bind 0 (
  .loop [(.c (.v (.int .i64 0)))] (
   .op (.lenL (.x 0)) (
   .op (.bin .lss (.x 5) (.x 6)) (
   .ite (.x 7)
    (.op (.elem 4 (.x 0) (.x 5)) (
    .chk (.cells (.x 8) 4) (
    .op (.elem 4 (.x 1) (.x 5)) (
    .chk (.cells (.x 9) 4) (
    .op (.call F.laws_eqTy [(.x 8), (.x 9)] false) (
    .op (.un .not (.x 10)) (
    .ite (.x 11)
     (.esc (.esc (.ret [(.c (.v (.bool false)))])))
     (.op (.bin .add (.x 5) (.c (.v (.int .i64 1)))) (
     .jump [(.x 12)])))))))))
    (.esc (.jump [])))))) (
 .ret [(.c (.v (.bool true)))])))))

theorem T.laws_eqTyS_l : leftF Try.prog [] FL Try.f58 = some (2, T.laws_eqTyS) := by kernel_rfl

theorem T.laws_eqTyS_con {args : List AV} {res : AV} (hl : args.length = 2) (hn : AV.norefs args = true) (hw : wpT Try.prog (fun _ _ _ => False) (fun a => a = res) T.laws_eqTyS args []) : PCon Try.prog F.laws_eqTyS args res :=
  con_auto Try.func58 T.laws_eqTyS_l hl hn hw

-- laws_markTyS: no walk
def T.laws_heldTy : T :=
.chk (.cells (.x 0) 4) (
.op (.call F.laws_heldTyS [(.cell 0 3), (.x 1)] false) (
.op (.bin .lss (.x 2) (.c (.v (.int .i64 0)))) (
.ite (.x 3)
 (.ret [(.c (.v (.int .i64 (-1))))])
 (.ret [(.x 2)]))))

theorem T.laws_heldTy_l : leftF Try.prog [] FL Try.f60 = some (2, T.laws_heldTy) := by kernel_rfl

theorem T.laws_heldTy_con {args : List AV} {res : AV} (hl : args.length = 2) (hn : AV.norefs args = true) (hw : wpT Try.prog (fun _ _ _ => False) (fun a => a = res) T.laws_heldTy args []) : PCon Try.prog F.laws_heldTy args res :=
  con_auto Try.func60 T.laws_heldTy_l hl hn hw

-- spec_Principal: no walk
-- impl_Principal: code not covered
def T.laws_szCore : T :=
.chk (.cells (.x 0) 12) (
.op (.lenS (.cell 0 3)) (
.op (.bin .sub (.x 1) (.x 2)) (
.op (.bin .lss (.x 3) (.c (.v (.int .i64 0)))) (
.ite (.x 4)
 (.ret [(.c (.v (.int .i64 (-1))))])
 (.op (.lenS (.cell 0 4)) (
 .op (.bin .sub (.x 3) (.x 5)) (
 .op (.bin .lss (.x 6) (.c (.v (.int .i64 0)))) (
 .ite (.x 7)
  (.ret [(.c (.v (.int .i64 (-1))))])
  (.op (.call F.laws_szTy [(.agg [(.cell 0 5), (.cell 0 6), (.cell 0 7), (.cell 0 8)]), (.x 6)] false) (
  .op (.bin .lss (.x 8) (.c (.v (.int .i64 0)))) (
  .ite (.x 9)
   (.ret [(.c (.v (.int .i64 (-1))))])
   (.op (.call F.laws_szTyS [(.cell 0 9), (.x 8)] false) (
   .op (.bin .lss (.x 10) (.c (.v (.int .i64 0)))) (
   .ite (.x 11)
    (.ret [(.c (.v (.int .i64 (-1))))])
    (.op (.call F.laws_szCoreS [(.cell 0 10), (.x 10)] false) (
    .op (.bin .lss (.x 12) (.c (.v (.int .i64 0)))) (
    .ite (.x 13)
     (.ret [(.c (.v (.int .i64 (-1))))])
     (.op (.call F.laws_szCArmS [(.cell 0 11), (.x 12)] false) (
     .op (.bin .lss (.x 14) (.c (.v (.int .i64 0)))) (
     .ite (.x 15)
      (.ret [(.c (.v (.int .i64 (-1))))])
      (.ret [(.x 14)])))))))))))))))))))))

theorem T.laws_szCore_l : leftF Try.prog [] FL Try.f63 = some (2, T.laws_szCore) := by kernel_rfl

theorem T.laws_szCore_con {args : List AV} {res : AV} (hl : args.length = 2) (hn : AV.norefs args = true) (hw : wpT Try.prog (fun _ _ _ => False) (fun a => a = res) T.laws_szCore args []) : PCon Try.prog F.laws_szCore args res :=
  con_auto Try.func63 T.laws_szCore_l hl hn hw

def T.spec_CoreSize : T :=
.chk (.cells (.x 0) 12) (
.bind 1 (
 .loop [(.c (.v (.int .i64 1))), (.c (.v (.int .i64 0)))] (
  .op (.lenL (.cell 0 10)) (
  .op (.bin .lss (.x 2) (.x 3)) (
  .ite (.x 4)
   (.op (.elem 12 (.cell 0 10) (.x 2)) (
   .chk (.cells (.x 5) 12) (
   .op (.call F.spec_CoreSize [(.x 5)] false) (
   .op (.bin .add (.x 1) (.x 6)) (
   .op (.bin .add (.x 2) (.c (.v (.int .i64 1)))) (
   .jump [(.x 7), (.x 8)]))))))
   (.esc (.jump [(.x 1)])))))) (
.bind 1 (
 .loop [(.x 1), (.c (.v (.int .i64 0)))] (
  .op (.lenL (.cell 0 11)) (
  .op (.bin .lss (.x 3) (.x 4)) (
  .ite (.x 5)
   (.op (.elem 20 (.cell 0 11) (.x 3)) (
   .op (.loadc 0 8 (.x 6)) (
   .op (.call F.spec_l7PatSize [(.x 7)] false) (
   .op (.bin .add (.x 2) (.x 8)) (
   .op (.elem 20 (.cell 0 11) (.x 3)) (
   .op (.loadc 8 12 (.x 10)) (
   .op (.call F.spec_CoreSize [(.x 11)] false) (
   .op (.bin .add (.x 9) (.x 12)) (
   .op (.bin .add (.x 3) (.c (.v (.int .i64 1)))) (
   .jump [(.x 13), (.x 14)]))))))))))
   (.esc (.jump [(.x 2)])))))) (
.ret [(.x 2)])))

theorem T.spec_CoreSize_l : leftF Try.prog [] FL Try.f64 = some (1, T.spec_CoreSize) := by kernel_rfl

theorem T.spec_CoreSize_con {args : List AV} {res : AV} (hl : args.length = 1) (hn : AV.norefs args = true) (hw : wpT Try.prog (fun _ _ _ => False) (fun a => a = res) T.spec_CoreSize args []) : PCon Try.prog F.spec_CoreSize args res :=
  con_auto Try.func64 T.spec_CoreSize_l hl hn hw

def T.laws_toCore : T :=
.chk (.cells (.x 0) 12) (
.chk (.one (.cell 0 0)) (
.chk (.one (.cell 0 1)) (
.chk (.one (.cell 0 2)) (
.chk (.one (.cell 0 3)) (
.chk (.one (.cell 0 4)) (
.op (.call F.laws_toTy [(.agg [(.cell 0 5), (.cell 0 6), (.cell 0 7), (.cell 0 8)])] false) (
.chk (.cells (.x 1) 4) (
.op (.call F.laws_toTyS [(.cell 0 9)] false) (
.chk (.one (.x 2)) (
.op (.call F.laws_toCoreS [(.cell 0 10)] false) (
.chk (.one (.x 3)) (
.op (.call F.laws_toCArmS [(.cell 0 11)] false) (
.chk (.one (.x 4)) (
.chk (.cells (.agg [(.cell 0 0), (.cell 0 1), (.cell 0 2), (.cell 0 3), (.cell 0 4), (.cell 1 0), (.cell 1 1), (.cell 1 2), (.cell 1 3), (.x 2), (.x 3), (.x 4)]) 12) (
.ret [(.agg [(.cell 0 0), (.cell 0 1), (.cell 0 2), (.cell 0 3), (.cell 0 4), (.cell 1 0), (.cell 1 1), (.cell 1 2), (.cell 1 3), (.x 2), (.x 3), (.x 4)])])))))))))))))))

theorem T.laws_toCore_l : leftF Try.prog [] FL Try.f65 = some (1, T.laws_toCore) := by kernel_rfl

theorem T.laws_toCore_con {args : List AV} {res : AV} (hl : args.length = 1) (hn : AV.norefs args = true) (hw : wpT Try.prog (fun _ _ _ => False) (fun a => a = res) T.laws_toCore args []) : PCon Try.prog F.laws_toCore args res :=
  con_auto Try.func65 T.laws_toCore_l hl hn hw

def T.impl_CoreSize : T :=
.chk (.cells (.x 0) 12) (
.bind 1 (
 .op (.lenL (.cell 0 10)) (
 .loop [(.c (.v (.int .i64 1))), (.c (.v (.int .i64 0)))] (
  .op (.bin .lss (.x 3) (.x 1)) (
  .ite (.x 4)
   (.op (.elem 12 (.cell 0 10) (.x 3)) (
   .chk (.cells (.x 5) 12) (
   .chk (.cells (.x 5) 12) (
   .chk (.cells (.x 5) 12) (
   .op (.call F.impl_CoreSize [(.x 5)] false) (
   .op (.bin .add (.x 2) (.x 6)) (
   .op (.bin .add (.x 3) (.c (.v (.int .i64 1)))) (
   .jump [(.x 7), (.x 8)]))))))))
   (.esc (.jump [(.x 2)])))))) (
.bind 1 (
 .op (.lenL (.cell 0 11)) (
 .loop [(.x 1), (.c (.v (.int .i64 0)))] (
  .op (.bin .lss (.x 4) (.x 2)) (
  .ite (.x 5)
   (.op (.elem 20 (.cell 0 11) (.x 4)) (
   .chk (.cells (.x 6) 20) (
   .chk (.cells (.x 6) 20) (
   .op (.call F.impl_cpatSize [(.agg [(.cell 6 0), (.cell 6 1), (.cell 6 2), (.cell 6 3), (.cell 6 4), (.cell 6 5), (.cell 6 6), (.cell 6 7)])] false) (
   .op (.call F.impl_CoreSize [(.agg [(.cell 6 8), (.cell 6 9), (.cell 6 10), (.cell 6 11), (.cell 6 12), (.cell 6 13), (.cell 6 14), (.cell 6 15), (.cell 6 16), (.cell 6 17), (.cell 6 18), (.cell 6 19)])] false) (
   .op (.bin .add (.x 7) (.x 8)) (
   .op (.bin .add (.x 3) (.x 9)) (
   .op (.bin .add (.x 4) (.c (.v (.int .i64 1)))) (
   .jump [(.x 10), (.x 11)])))))))))
   (.esc (.jump [(.x 3)])))))) (
.ret [(.x 2)])))

theorem T.impl_CoreSize_l : leftF Try.prog [] FL Try.f66 = some (1, T.impl_CoreSize) := by kernel_rfl

theorem T.impl_CoreSize_con {args : List AV} {res : AV} (hl : args.length = 1) (hn : AV.norefs args = true) (hw : wpT Try.prog (fun _ _ _ => False) (fun a => a = res) T.impl_CoreSize args []) : PCon Try.prog F.impl_CoreSize args res :=
  con_auto Try.func66 T.impl_CoreSize_l hl hn hw

def T.laws_eqCore : T :=
.chk (.cells (.x 0) 12) (
.chk (.cells (.x 1) 12) (
.op (.bin .neq (.cell 0 0) (.cell 1 0)) (
.ite (.x 2)
 (.ret [(.c (.v (.bool false)))])
 (.op (.bin .neq (.cell 0 1) (.cell 1 1)) (
 .ite (.x 3)
  (.ret [(.c (.v (.bool false)))])
  (.op (.bin .neq (.cell 0 2) (.cell 1 2)) (
  .ite (.x 4)
   (.ret [(.c (.v (.bool false)))])
   (.op (.bin .neq (.cell 0 3) (.cell 1 3)) (
   .ite (.x 5)
    (.ret [(.c (.v (.bool false)))])
    (.op (.bin .neq (.cell 0 4) (.cell 1 4)) (
    .ite (.x 6)
     (.ret [(.c (.v (.bool false)))])
     (.op (.call F.laws_eqTy [(.agg [(.cell 0 5), (.cell 0 6), (.cell 0 7), (.cell 0 8)]), (.agg [(.cell 1 5), (.cell 1 6), (.cell 1 7), (.cell 1 8)])] false) (
     .op (.un .not (.x 7)) (
     .ite (.x 8)
      (.ret [(.c (.v (.bool false)))])
      (.op (.call F.laws_eqTyS [(.cell 0 9), (.cell 1 9)] false) (
      .op (.un .not (.x 9)) (
      .ite (.x 10)
       (.ret [(.c (.v (.bool false)))])
       (.op (.call F.laws_eqCoreS [(.cell 0 10), (.cell 1 10)] false) (
       .op (.un .not (.x 11)) (
       .ite (.x 12)
        (.ret [(.c (.v (.bool false)))])
        (.op (.call F.laws_eqCArmS [(.cell 0 11), (.cell 1 11)] false) (
        .op (.un .not (.x 13)) (
        .ite (.x 14)
         (.ret [(.c (.v (.bool false)))])
         (.ret [(.c (.v (.bool true)))]))))))))))))))))))))))))

theorem T.laws_eqCore_l : leftF Try.prog [] FL Try.f67 = some (2, T.laws_eqCore) := by kernel_rfl

theorem T.laws_eqCore_con {args : List AV} {res : AV} (hl : args.length = 2) (hn : AV.norefs args = true) (hw : wpT Try.prog (fun _ _ _ => False) (fun a => a = res) T.laws_eqCore args []) : PCon Try.prog F.laws_eqCore args res :=
  con_auto Try.func67 T.laws_eqCore_l hl hn hw

def T.spec_CoreValue : T :=
.chk (.cells (.x 0) 12) (
.bind 0 (
 .bind 1 (
  .op (.bin .eql (.cell 0 0) (.c (.v (.int .i64 1)))) (
  .ite (.x 1)
   (.jump [(.x 1)])
   (.op (.bin .eql (.cell 0 0) (.c (.v (.int .i64 2)))) (
   .ite (.x 2)
    (.jump [(.x 2)])
    (.op (.bin .eql (.cell 0 0) (.c (.v (.int .i64 3)))) (
    .ite (.x 3)
     (.jump [(.x 3)])
     (.op (.bin .eql (.cell 0 0) (.c (.v (.int .i64 4)))) (
     .ite (.x 4)
      (.jump [(.x 4)])
      (.op (.bin .eql (.cell 0 0) (.c (.v (.int .i64 5)))) (
      .ite (.x 5)
       (.jump [(.x 5)])
       (.op (.bin .eql (.cell 0 0) (.c (.v (.int .i64 8)))) (
       .ite (.x 6)
        (.jump [(.x 6)])
        (.op (.bin .eql (.cell 0 0) (.c (.v (.int .i64 9)))) (
        .jump [(.x 7)])))))))))))))) (
 .ite (.x 1)
  (.esc (.ret [(.c (.v (.bool true)))]))
  (.bind 1 (
   .op (.bin .eql (.cell 0 0) (.c (.v (.int .i64 6)))) (
   .ite (.x 2)
    (.jump [(.x 2)])
    (.op (.bin .eql (.cell 0 0) (.c (.v (.int .i64 7)))) (
    .jump [(.x 3)])))) (
  .ite (.x 2)
   (.bind 0 (
    .loop [(.c (.v (.int .i64 0)))] (
     .op (.lenL (.cell 0 10)) (
     .op (.bin .lss (.x 3) (.x 4)) (
     .ite (.x 5)
      (.op (.elem 12 (.cell 0 10) (.x 3)) (
      .chk (.cells (.x 6) 12) (
      .op (.call F.spec_CoreValue [(.x 6)] false) (
      .op (.un .not (.x 7)) (
      .ite (.x 8)
       (.esc (.esc (.esc (.ret [(.c (.v (.bool false)))]))))
       (.op (.bin .add (.x 3) (.c (.v (.int .i64 1)))) (
       .jump [(.x 9)])))))))
      (.esc (.jump [])))))) (
   .esc (.ret [(.c (.v (.bool true)))])))
   (.jump []))))) (
.ret [(.c (.v (.bool false)))]))

theorem T.spec_CoreValue_l : leftF Try.prog [] FL Try.f68 = some (1, T.spec_CoreValue) := by kernel_rfl

theorem T.spec_CoreValue_con {args : List AV} {res : AV} (hl : args.length = 1) (hn : AV.norefs args = true) (hw : wpT Try.prog (fun _ _ _ => False) (fun a => a = res) T.spec_CoreValue args []) : PCon Try.prog F.spec_CoreValue args res :=
  con_auto Try.func68 T.spec_CoreValue_l hl hn hw

def T.impl_CoreValue : T :=
.chk (.cells (.x 0) 12) (
.bind 0 (
 .bind 1 (
  .op (.bin .eql (.cell 0 0) (.c (.v (.int .i64 1)))) (
  .ite (.x 1)
   (.jump [(.x 1)])
   (.op (.bin .eql (.cell 0 0) (.c (.v (.int .i64 2)))) (
   .ite (.x 2)
    (.jump [(.x 2)])
    (.op (.bin .eql (.cell 0 0) (.c (.v (.int .i64 3)))) (
    .ite (.x 3)
     (.jump [(.x 3)])
     (.op (.bin .eql (.cell 0 0) (.c (.v (.int .i64 4)))) (
     .ite (.x 4)
      (.jump [(.x 4)])
      (.op (.bin .eql (.cell 0 0) (.c (.v (.int .i64 5)))) (
      .ite (.x 5)
       (.jump [(.x 5)])
       (.op (.bin .eql (.cell 0 0) (.c (.v (.int .i64 8)))) (
       .ite (.x 6)
        (.jump [(.x 6)])
        (.op (.bin .eql (.cell 0 0) (.c (.v (.int .i64 9)))) (
        .jump [(.x 7)])))))))))))))) (
 .ite (.x 1)
  (.esc (.ret [(.c (.v (.bool true)))]))
  (.bind 1 (
   .op (.bin .eql (.cell 0 0) (.c (.v (.int .i64 6)))) (
   .ite (.x 2)
    (.jump [(.x 2)])
    (.op (.bin .eql (.cell 0 0) (.c (.v (.int .i64 7)))) (
    .jump [(.x 3)])))) (
  .ite (.x 2)
   (.op (.call F.slices_ContainsFunc__impl_Core_impl_Core [(.cell 0 10), (.c (.fn F.impl_CoreValue_1 []))] false) (
   .op (.un .not (.x 3)) (
   .esc (.ret [(.x 4)]))))
   (.jump []))))) (
.ret [(.c (.v (.bool false)))]))

theorem T.impl_CoreValue_l : leftF Try.prog [] FL Try.f69 = some (1, T.impl_CoreValue) := by kernel_rfl

theorem T.impl_CoreValue_con {args : List AV} {res : AV} (hl : args.length = 1) (hn : AV.norefs args = true) (hw : wpT Try.prog (fun _ _ _ => False) (fun a => a = res) T.impl_CoreValue args []) : PCon Try.prog F.impl_CoreValue args res :=
  con_auto Try.func69 T.impl_CoreValue_l hl hn hw

def T.spec_l1Chars : T :=
.bind 0 (
 .loop [(.c (.v (.int .i64 0)))] (
  .op (.lenS (.x 0)) (
  .op (.bin .lss (.x 1) (.x 2)) (
  .ite (.x 3)
   (.bind 0 (
    .bind 1 (
     .op (.idxS (.x 0) (.x 1)) (
     .op (.bin .neq (.x 4) (.c (.v (.int .u8 10)))) (
     .ite (.x 5)
      (.op (.idxS (.x 0) (.x 1)) (
      .op (.conv .i64 (.x 6)) (
      .op (.call F.spec_l1In [(.x 7), (.c (.v (.int .i64 32))), (.c (.v (.int .i64 126)))] false) (
      .op (.un .not (.x 8)) (
      .jump [(.x 9)])))))
      (.jump [(.c (.v (.bool false)))])))) (
    .ite (.x 4)
     (.esc (.esc (.esc (.ret [(.c (.v (.bool false)))]))))
     (.jump []))) (
   .op (.bin .add (.x 1) (.c (.v (.int .i64 1)))) (
   .jump [(.x 4)])))
   (.esc (.jump [])))))) (
.ret [(.c (.v (.bool true)))])

theorem T.spec_l1Chars_l : leftF Try.prog [] FL Try.f70 = some (1, T.spec_l1Chars) := by kernel_rfl

theorem T.spec_l1Chars_con {args : List AV} {res : AV} (hl : args.length = 1) (hn : AV.norefs args = true) (hw : wpT Try.prog (fun _ _ _ => False) (fun a => a = res) T.spec_l1Chars args []) : PCon Try.prog F.spec_l1Chars args res :=
  con_auto Try.func70 T.spec_l1Chars_l hl hn hw

def T.spec_l1Low : T :=
.bind 1 (
 .op (.call F.spec_l1Name [(.x 0), (.c (.v (.bool false)))] false) (
 .ite (.x 1)
  (.op (.call F.spec_l1Key [(.x 0)] false) (
  .op (.un .not (.x 2)) (
  .jump [(.x 3)])))
  (.jump [(.c (.v (.bool false)))]))) (
.ret [(.x 1)])

theorem T.spec_l1Low_l : leftF Try.prog [] FL Try.f71 = some (1, T.spec_l1Low) := by kernel_rfl

theorem T.spec_l1Low_con {args : List AV} {res : AV} (hl : args.length = 1) (hn : AV.norefs args = true) (hw : wpT Try.prog (fun _ _ _ => False) (fun a => a = res) T.spec_l1Low args []) : PCon Try.prog F.spec_l1Low args res :=
  con_auto Try.func71 T.spec_l1Low_l hl hn hw

def T.spec_l1Name : T :=
.bind 0 (
 .bind 1 (
  .op (.lenS (.x 0)) (
  .op (.call F.spec_l1In [(.x 2), (.c (.v (.int .i64 1))), (.c (.v (.int .i64 12)))] false) (
  .op (.un .not (.x 3)) (
  .ite (.x 4)
   (.jump [(.c (.v (.bool true)))])
   (.op (.idxS (.x 0) (.c (.v (.int .i64 0)))) (
   .op (.conv .i64 (.x 5)) (
   .op (.call F.spec_l1Upper [(.x 6)] false) (
   .op (.beq true (.x 1) (.x 7)) (
   .ite (.x 8)
    (.jump [(.c (.v (.bool true)))])
    (.op (.un .not (.x 1)) (
    .ite (.x 9)
     (.op (.idxS (.x 0) (.c (.v (.int .i64 0)))) (
     .op (.conv .i64 (.x 10)) (
     .op (.call F.spec_l1Lower [(.x 11)] false) (
     .op (.un .not (.x 12)) (
     .jump [(.x 13)])))))
     (.jump [(.c (.v (.bool false)))])))))))))))) (
 .ite (.x 2)
  (.esc (.ret [(.c (.v (.bool false)))]))
  (.jump []))) (
.bind 0 (
 .loop [(.c (.v (.int .i64 0)))] (
  .op (.lenS (.x 0)) (
  .op (.bin .lss (.x 2) (.x 3)) (
  .ite (.x 4)
   (.op (.idxS (.x 0) (.x 2)) (
   .op (.conv .i64 (.x 5)) (
   .op (.call F.spec_l1NameByte [(.x 6)] false) (
   .op (.un .not (.x 7)) (
   .ite (.x 8)
    (.esc (.esc (.ret [(.c (.v (.bool false)))])))
    (.op (.bin .add (.x 2) (.c (.v (.int .i64 1)))) (
    .jump [(.x 9)])))))))
   (.esc (.jump [])))))) (
.ret [(.c (.v (.bool true)))]))

theorem T.spec_l1Name_l : leftF Try.prog [] FL Try.f72 = some (2, T.spec_l1Name) := by kernel_rfl

theorem T.spec_l1Name_con {args : List AV} {res : AV} (hl : args.length = 2) (hn : AV.norefs args = true) (hw : wpT Try.prog (fun _ _ _ => False) (fun a => a = res) T.spec_l1Name args []) : PCon Try.prog F.spec_l1Name args res :=
  con_auto Try.func72 T.spec_l1Name_l hl hn hw

def T.spec_l1Key : T :=
.chk (.one (.c (.v (.string ⟨#[116, 121, 112, 101]⟩)))) (
.chk (.one (.c (.v (.string ⟨#[111, 102]⟩)))) (
.chk (.one (.c (.v (.string ⟨#[108, 101, 116]⟩)))) (
.chk (.one (.c (.v (.string ⟨#[114, 101, 99]⟩)))) (
.chk (.one (.c (.v (.string ⟨#[105, 110]⟩)))) (
.chk (.one (.c (.v (.string ⟨#[102, 117, 110]⟩)))) (
.chk (.one (.c (.v (.string ⟨#[105, 102]⟩)))) (
.chk (.one (.c (.v (.string ⟨#[116, 104, 101, 110]⟩)))) (
.chk (.one (.c (.v (.string ⟨#[101, 108, 115, 101]⟩)))) (
.chk (.one (.c (.v (.string ⟨#[109, 97, 116, 99, 104]⟩)))) (
.chk (.one (.c (.v (.string ⟨#[119, 105, 116, 104]⟩)))) (
.chk (.one (.c (.v (.string ⟨#[101, 110, 100]⟩)))) (
.chk (.one (.c (.v (.string ⟨#[116, 114, 117, 101]⟩)))) (
.chk (.one (.c (.v (.string ⟨#[102, 97, 108, 115, 101]⟩)))) (
.chk (.one (.c (.v (.string ⟨#[114, 101, 102]⟩)))) (
.chk (.one (.c (.v (.string ⟨#[114, 101, 97, 100]⟩)))) (
.chk (.one (.c (.v (.string ⟨#[112, 114, 105, 110, 116]⟩)))) (
.chk (.one (.c (.v (.string ⟨#[101, 120, 105, 116]⟩)))) (
.chk (.one (.c (.v (.string ⟨#[115, 105, 122, 101]⟩)))) (
.op (.mkl (.v (.string ⟨#[]⟩)) 19 [(0, (.c (.v (.string ⟨#[116, 121, 112, 101]⟩)))), (1, (.c (.v (.string ⟨#[111, 102]⟩)))), (2, (.c (.v (.string ⟨#[108, 101, 116]⟩)))), (3, (.c (.v (.string ⟨#[114, 101, 99]⟩)))), (4, (.c (.v (.string ⟨#[105, 110]⟩)))), (5, (.c (.v (.string ⟨#[102, 117, 110]⟩)))), (6, (.c (.v (.string ⟨#[105, 102]⟩)))), (7, (.c (.v (.string ⟨#[116, 104, 101, 110]⟩)))), (8, (.c (.v (.string ⟨#[101, 108, 115, 101]⟩)))), (9, (.c (.v (.string ⟨#[109, 97, 116, 99, 104]⟩)))), (10, (.c (.v (.string ⟨#[119, 105, 116, 104]⟩)))), (11, (.c (.v (.string ⟨#[101, 110, 100]⟩)))), (12, (.c (.v (.string ⟨#[116, 114, 117, 101]⟩)))), (13, (.c (.v (.string ⟨#[102, 97, 108, 115, 101]⟩)))), (14, (.c (.v (.string ⟨#[114, 101, 102]⟩)))), (15, (.c (.v (.string ⟨#[114, 101, 97, 100]⟩)))), (16, (.c (.v (.string ⟨#[112, 114, 105, 110, 116]⟩)))), (17, (.c (.v (.string ⟨#[101, 120, 105, 116]⟩)))), (18, (.c (.v (.string ⟨#[115, 105, 122, 101]⟩))))]) (
.bind 0 (
 .loop [(.c (.v (.int .i64 0)))] (
  .op (.lenL (.sl (.x 1))) (
  .op (.bin .lss (.x 2) (.x 3)) (
  .ite (.x 4)
   (.chk (.idx (.x 1) (.x 2)) (
   .op (.get (.x 1) (.x 2) 0 none) (
   .op (.bin .eql (.x 5) (.x 0)) (
   .ite (.x 6)
    (.esc (.esc (.ret [(.c (.v (.bool true)))])))
    (.op (.bin .add (.x 2) (.c (.v (.int .i64 1)))) (
    .jump [(.x 7)]))))))
   (.esc (.jump [])))))) (
.ret [(.c (.v (.bool false)))])))))))))))))))))))))

theorem T.spec_l1Key_l : leftF Try.prog [] FL Try.f73 = some (1, T.spec_l1Key) := by kernel_rfl

theorem T.spec_l1Key_con {args : List AV} {res : AV} (hl : args.length = 1) (hn : AV.norefs args = true) (hw : wpT Try.prog (fun _ _ _ => False) (fun a => a = res) T.spec_l1Key args []) : PCon Try.prog F.spec_l1Key args res :=
  con_auto Try.func73 T.spec_l1Key_l hl hn hw

def T.spec_l1Sign : T :=
.op (.call F.spec_l1Signs [] false) (
.bind 0 (
 .loop [(.c (.v (.int .i64 0)))] (
  .op (.lenL (.x 1)) (
  .op (.bin .lss (.x 2) (.x 3)) (
  .ite (.x 4)
   (.op (.elem 1 (.x 1) (.x 2)) (
   .chk (.lt (.x 5) 0) (
   .op (.bin .eql (.cell 5 0) (.x 0)) (
   .ite (.x 6)
    (.esc (.esc (.ret [(.c (.v (.bool true)))])))
    (.op (.bin .add (.x 2) (.c (.v (.int .i64 1)))) (
    .jump [(.x 7)]))))))
   (.esc (.jump [])))))) (
.ret [(.c (.v (.bool false)))]))

theorem T.spec_l1Sign_l : leftF Try.prog [] FL Try.f74 = some (1, T.spec_l1Sign) := by kernel_rfl

theorem T.spec_l1Sign_con {args : List AV} {res : AV} (hl : args.length = 1) (hn : AV.norefs args = true) (hw : wpT Try.prog (fun _ _ _ => False) (fun a => a = res) T.spec_l1Sign args []) : PCon Try.prog F.spec_l1Sign args res :=
  con_auto Try.func74 T.spec_l1Sign_l hl hn hw

def T.impl_plain : T :=
.bind 0 (
 .loop [(.c (.v (.int .i64 0)))] (
  .op (.lenS (.x 0)) (
  .op (.bin .lss (.x 1) (.x 2)) (
  .ite (.x 3)
   (.bind 0 (
    .bind 1 (
     .op (.idxS (.x 0) (.x 1)) (
     .op (.conv .i64 (.x 4)) (
     .op (.call F.impl_within [(.x 5), (.c (.v (.int .i64 32))), (.c (.v (.int .i64 126)))] false) (
     .op (.un .not (.x 6)) (
     .ite (.x 7)
      (.op (.idxS (.x 0) (.x 1)) (
      .op (.bin .neq (.x 8) (.c (.v (.int .u8 10)))) (
      .jump [(.x 9)])))
      (.jump [(.c (.v (.bool false)))])))))) (
    .ite (.x 4)
     (.esc (.esc (.esc (.ret [(.c (.v (.bool false)))]))))
     (.jump []))) (
   .op (.bin .add (.x 1) (.c (.v (.int .i64 1)))) (
   .jump [(.x 4)])))
   (.esc (.jump [])))))) (
.ret [(.c (.v (.bool true)))])

theorem T.impl_plain_l : leftF Try.prog [] FL Try.f75 = some (1, T.impl_plain) := by kernel_rfl

theorem T.impl_plain_con {args : List AV} {res : AV} (hl : args.length = 1) (hn : AV.norefs args = true) (hw : wpT Try.prog (fun _ _ _ => False) (fun a => a = res) T.impl_plain args []) : PCon Try.prog F.impl_plain args res :=
  con_auto Try.func75 T.impl_plain_l hl hn hw

def T.impl_lowOk : T :=
.bind 1 (
 .op (.call F.impl_isName [(.x 0), (.c (.fn F.impl_small []))] false) (
 .ite (.x 1)
  (.op (.call F.impl_isKey [(.x 0)] false) (
  .op (.un .not (.x 2)) (
  .jump [(.x 3)])))
  (.jump [(.c (.v (.bool false)))]))) (
.ret [(.x 1)])

theorem T.impl_lowOk_l : leftF Try.prog [] FL Try.f76 = some (1, T.impl_lowOk) := by kernel_rfl

theorem T.impl_lowOk_con {args : List AV} {res : AV} (hl : args.length = 1) (hn : AV.norefs args = true) (hw : wpT Try.prog (fun _ _ _ => False) (fun a => a = res) T.impl_lowOk args []) : PCon Try.prog F.impl_lowOk args res :=
  con_auto Try.func76 T.impl_lowOk_l hl hn hw

def T.impl_upOk : T :=
.op (.call F.impl_isName [(.x 0), (.c (.fn F.impl_great []))] false) (
.ret [(.x 1)])

theorem T.impl_upOk_l : leftF Try.prog [] FL Try.f77 = some (1, T.impl_upOk) := by kernel_rfl

theorem T.impl_upOk_con {args : List AV} {res : AV} (hl : args.length = 1) (hn : AV.norefs args = true) (hw : wpT Try.prog (fun _ _ _ => False) (fun a => a = res) T.impl_upOk args []) : PCon Try.prog F.impl_upOk args res :=
  con_auto Try.func77 T.impl_upOk_l hl hn hw

def T.impl_isName : T :=
.bind 1 (
 .op (.lenS (.x 0)) (
 .op (.call F.impl_within [(.x 2), (.c (.v (.int .i64 1))), (.c (.v (.int .i64 12)))] false) (
 .ite (.x 3)
  (.op (.idxS (.x 0) (.c (.v (.int .i64 0)))) (
  .op (.callv (.x 1) [(.x 4)] false) (
  .ite (.x 5)
   (.op (.call F.impl_run [(.x 0), (.c (.v (.int .i64 0))), (.c (.fn F.impl_nameByte []))] false) (
   .op (.lenS (.x 0)) (
   .op (.bin .eql (.x 6) (.x 7)) (
   .jump [(.x 8)]))))
   (.jump [(.c (.v (.bool false)))]))))
  (.jump [(.c (.v (.bool false)))])))) (
.ret [(.x 2)])

theorem T.impl_isName_l : leftF Try.prog [] FL Try.f78 = some (2, T.impl_isName) := by kernel_rfl

theorem T.impl_isName_con {args : List AV} {res : AV} (hl : args.length = 2) (hn : AV.norefs args = true) (hw : wpT Try.prog (fun _ _ _ => False) (fun a => a = res) T.impl_isName args []) : PCon Try.prog F.impl_isName args res :=
  con_auto Try.func78 T.impl_isName_l hl hn hw

def T.impl_small : T :=
.bind 1 (
 .op (.bin .geq (.x 0) (.c (.v (.int .u8 97)))) (
 .ite (.x 1)
  (.op (.bin .leq (.x 0) (.c (.v (.int .u8 122)))) (
  .jump [(.x 2)]))
  (.jump [(.c (.v (.bool false)))]))) (
.ret [(.x 1)])

theorem T.impl_small_l : leftF Try.prog [] FL Try.f79 = some (1, T.impl_small) := by kernel_rfl

theorem T.impl_small_con {args : List AV} {res : AV} (hl : args.length = 1) (hn : AV.norefs args = true) (hw : wpT Try.prog (fun _ _ _ => False) (fun a => a = res) T.impl_small args []) : PCon Try.prog F.impl_small args res :=
  con_auto Try.func79 T.impl_small_l hl hn hw

def T.impl_isKey : T :=
.chk (.one (.c (.v (.string ⟨#[116, 121, 112, 101]⟩)))) (
.chk (.one (.c (.v (.string ⟨#[111, 102]⟩)))) (
.chk (.one (.c (.v (.string ⟨#[108, 101, 116]⟩)))) (
.chk (.one (.c (.v (.string ⟨#[114, 101, 99]⟩)))) (
.chk (.one (.c (.v (.string ⟨#[105, 110]⟩)))) (
.chk (.one (.c (.v (.string ⟨#[102, 117, 110]⟩)))) (
.chk (.one (.c (.v (.string ⟨#[105, 102]⟩)))) (
.chk (.one (.c (.v (.string ⟨#[116, 104, 101, 110]⟩)))) (
.chk (.one (.c (.v (.string ⟨#[101, 108, 115, 101]⟩)))) (
.chk (.one (.c (.v (.string ⟨#[109, 97, 116, 99, 104]⟩)))) (
.chk (.one (.c (.v (.string ⟨#[119, 105, 116, 104]⟩)))) (
.chk (.one (.c (.v (.string ⟨#[101, 110, 100]⟩)))) (
.chk (.one (.c (.v (.string ⟨#[116, 114, 117, 101]⟩)))) (
.chk (.one (.c (.v (.string ⟨#[102, 97, 108, 115, 101]⟩)))) (
.chk (.one (.c (.v (.string ⟨#[114, 101, 102]⟩)))) (
.chk (.one (.c (.v (.string ⟨#[114, 101, 97, 100]⟩)))) (
.chk (.one (.c (.v (.string ⟨#[112, 114, 105, 110, 116]⟩)))) (
.chk (.one (.c (.v (.string ⟨#[101, 120, 105, 116]⟩)))) (
.chk (.one (.c (.v (.string ⟨#[115, 105, 122, 101]⟩)))) (
.op (.mkl (.v (.string ⟨#[]⟩)) 19 [(0, (.c (.v (.string ⟨#[116, 121, 112, 101]⟩)))), (1, (.c (.v (.string ⟨#[111, 102]⟩)))), (2, (.c (.v (.string ⟨#[108, 101, 116]⟩)))), (3, (.c (.v (.string ⟨#[114, 101, 99]⟩)))), (4, (.c (.v (.string ⟨#[105, 110]⟩)))), (5, (.c (.v (.string ⟨#[102, 117, 110]⟩)))), (6, (.c (.v (.string ⟨#[105, 102]⟩)))), (7, (.c (.v (.string ⟨#[116, 104, 101, 110]⟩)))), (8, (.c (.v (.string ⟨#[101, 108, 115, 101]⟩)))), (9, (.c (.v (.string ⟨#[109, 97, 116, 99, 104]⟩)))), (10, (.c (.v (.string ⟨#[119, 105, 116, 104]⟩)))), (11, (.c (.v (.string ⟨#[101, 110, 100]⟩)))), (12, (.c (.v (.string ⟨#[116, 114, 117, 101]⟩)))), (13, (.c (.v (.string ⟨#[102, 97, 108, 115, 101]⟩)))), (14, (.c (.v (.string ⟨#[114, 101, 102]⟩)))), (15, (.c (.v (.string ⟨#[114, 101, 97, 100]⟩)))), (16, (.c (.v (.string ⟨#[112, 114, 105, 110, 116]⟩)))), (17, (.c (.v (.string ⟨#[101, 120, 105, 116]⟩)))), (18, (.c (.v (.string ⟨#[115, 105, 122, 101]⟩))))]) (
.op (.call F.slices_Contains__string_string [(.sl (.x 1)), (.x 0)] true) (
.ret [(.x 2)])))))))))))))))))))))

theorem T.impl_isKey_l : leftF Try.prog [] FL Try.f80 = some (1, T.impl_isKey) := by kernel_rfl

theorem T.impl_isKey_con {args : List AV} {res : AV} (hl : args.length = 1) (hn : AV.norefs args = true) (hw : wpT Try.prog (fun _ _ _ => False) (fun a => a = res) T.impl_isKey args []) : PCon Try.prog F.impl_isKey args res :=
  con_auto Try.func80 T.impl_isKey_l hl hn hw

def T.slices_Contains__string_string : T :=
.op (.call F.slices_Index__string_string [(.x 0), (.x 1)] false) (
.op (.bin .geq (.x 2) (.c (.v (.int .i64 0)))) (
.ret [(.x 3)]))

theorem T.slices_Contains__string_string_l : leftF Try.prog [] FL Try.f81 = some (2, T.slices_Contains__string_string) := by kernel_rfl

theorem T.slices_Contains__string_string_con {args : List AV} {res : AV} (hl : args.length = 2) (hn : AV.norefs args = true) (hw : wpT Try.prog (fun _ _ _ => False) (fun a => a = res) T.slices_Contains__string_string args []) : PCon Try.prog F.slices_Contains__string_string args res :=
  con_auto Try.func81 T.slices_Contains__string_string_l hl hn hw

def T.impl_signs : T :=
.chk (.one (.c (.v (.string ⟨#[45, 62]⟩)))) (
.chk (.one (.c (.v (.string ⟨#[58, 61]⟩)))) (
.chk (.one (.c (.v (.string ⟨#[61]⟩)))) (
.chk (.one (.c (.v (.string ⟨#[60]⟩)))) (
.chk (.one (.c (.v (.string ⟨#[43]⟩)))) (
.chk (.one (.c (.v (.string ⟨#[45]⟩)))) (
.chk (.one (.c (.v (.string ⟨#[42]⟩)))) (
.chk (.one (.c (.v (.string ⟨#[94]⟩)))) (
.chk (.one (.c (.v (.string ⟨#[59]⟩)))) (
.chk (.one (.c (.v (.string ⟨#[124]⟩)))) (
.chk (.one (.c (.v (.string ⟨#[40]⟩)))) (
.chk (.one (.c (.v (.string ⟨#[41]⟩)))) (
.chk (.one (.c (.v (.string ⟨#[44]⟩)))) (
.chk (.one (.c (.v (.string ⟨#[95]⟩)))) (
.chk (.one (.c (.v (.string ⟨#[33]⟩)))) (
.op (.mkl (.v (.string ⟨#[]⟩)) 15 [(0, (.c (.v (.string ⟨#[45, 62]⟩)))), (1, (.c (.v (.string ⟨#[58, 61]⟩)))), (2, (.c (.v (.string ⟨#[61]⟩)))), (3, (.c (.v (.string ⟨#[60]⟩)))), (4, (.c (.v (.string ⟨#[43]⟩)))), (5, (.c (.v (.string ⟨#[45]⟩)))), (6, (.c (.v (.string ⟨#[42]⟩)))), (7, (.c (.v (.string ⟨#[94]⟩)))), (8, (.c (.v (.string ⟨#[59]⟩)))), (9, (.c (.v (.string ⟨#[124]⟩)))), (10, (.c (.v (.string ⟨#[40]⟩)))), (11, (.c (.v (.string ⟨#[41]⟩)))), (12, (.c (.v (.string ⟨#[44]⟩)))), (13, (.c (.v (.string ⟨#[95]⟩)))), (14, (.c (.v (.string ⟨#[33]⟩))))]) (
.ret [(.sl (.x 0))]))))))))))))))))

theorem T.impl_signs_l : leftF Try.prog [] FL Try.f82 = some (0, T.impl_signs) := by kernel_rfl

theorem T.impl_signs_con {args : List AV} {res : AV} (hl : args.length = 0) (hn : AV.norefs args = true) (hw : wpT Try.prog (fun _ _ _ => False) (fun a => a = res) T.impl_signs args []) : PCon Try.prog F.impl_signs args res :=
  con_auto Try.func82 T.impl_signs_l hl hn hw

def T.laws_szInstrS : T :=
.op (.lenL (.x 0)) (
.op (.bin .sub (.x 1) (.x 2)) (
.op (.bin .lss (.x 3) (.c (.v (.int .i64 0)))) (
.ite (.x 4)
 (.ret [(.c (.v (.int .i64 (-1))))])
 (.bind 1 (
  .loop [(.x 3), (.c (.v (.int .i64 0)))] (
   .op (.lenL (.x 0)) (
   .op (.bin .lss (.x 6) (.x 7)) (
   .ite (.x 8)
    (.op (.elem 6 (.x 0) (.x 6)) (
    .chk (.cells (.x 9) 6) (
    .op (.call F.laws_szInstr [(.x 9), (.x 5)] false) (
    .op (.bin .lss (.x 10) (.c (.v (.int .i64 0)))) (
    .ite (.x 11)
     (.esc (.esc (.ret [(.c (.v (.int .i64 (-1))))])))
     (.op (.bin .add (.x 6) (.c (.v (.int .i64 1)))) (
     .jump [(.x 10), (.x 12)])))))))
    (.esc (.jump [(.x 5)])))))) (
 .ret [(.x 5)])))))

theorem T.laws_szInstrS_l : leftF Try.prog [] FL Try.f83 = some (2, T.laws_szInstrS) := by kernel_rfl

theorem T.laws_szInstrS_con {args : List AV} {res : AV} (hl : args.length = 2) (hn : AV.norefs args = true) (hw : wpT Try.prog (fun _ _ _ => False) (fun a => a = res) T.laws_szInstrS args []) : PCon Try.prog F.laws_szInstrS args res :=
  con_auto Try.func83 T.laws_szInstrS_l hl hn hw

def T.laws_szIntS : T :=
.op (.lenL (.x 0)) (
.op (.bin .sub (.x 1) (.x 2)) (
.op (.bin .lss (.x 3) (.c (.v (.int .i64 0)))) (
.ite (.x 4)
 (.ret [(.c (.v (.int .i64 (-1))))])
 (.ret [(.x 3)]))))

theorem T.laws_szIntS_l : leftF Try.prog [] FL Try.f84 = some (2, T.laws_szIntS) := by kernel_rfl

theorem T.laws_szIntS_con {args : List AV} {res : AV} (hl : args.length = 2) (hn : AV.norefs args = true) (hw : wpT Try.prog (fun _ _ _ => False) (fun a => a = res) T.laws_szIntS args []) : PCon Try.prog F.laws_szIntS args res :=
  con_auto Try.func84 T.laws_szIntS_l hl hn hw

def T.spec_l1In : T :=
.bind 1 (
 .op (.bin .geq (.x 0) (.x 1)) (
 .ite (.x 3)
  (.op (.bin .leq (.x 0) (.x 2)) (
  .jump [(.x 4)]))
  (.jump [(.c (.v (.bool false)))]))) (
.ret [(.x 3)])

theorem T.spec_l1In_l : leftF Try.prog [] FL Try.f85 = some (3, T.spec_l1In) := by kernel_rfl

theorem T.spec_l1In_con {args : List AV} {res : AV} (hl : args.length = 3) (hn : AV.norefs args = true) (hw : wpT Try.prog (fun _ _ _ => False) (fun a => a = res) T.spec_l1In args []) : PCon Try.prog F.spec_l1In args res :=
  con_auto Try.func85 T.spec_l1In_l hl hn hw

def T.laws_toInstrS : T :=
.op (.lenL (.x 0)) (
.op (.rep 56 (.agg [(.v (.int .i64 0)), (.v (.int .i64 0)), (.v (.int .i64 0)), (.v (.int .i64 0)), (.v (.int .i64 0)), (.v (.string ⟨#[]⟩))]) (.x 1) (.x 1)) (
.bind 1 (
 .loop [(.x 2), (.c (.v (.int .i64 0)))] (
  .op (.lenL (.x 0)) (
  .op (.bin .lss (.x 4) (.x 5)) (
  .ite (.x 6)
   (.op (.elem 6 (.x 0) (.x 4)) (
   .chk (.cells (.x 7) 6) (
   .op (.call F.laws_toInstr [(.x 7)] false) (
   .chk (.idx (.x 3) (.x 4)) (
   .chk (.cells (.x 8) 6) (
   .op (.set (.x 3) (.x 4) 0 6 (.x 8)) (
   .op (.bin .add (.x 4) (.c (.v (.int .i64 1)))) (
   .jump [(.x 9), (.x 10)]))))))))
   (.esc (.jump [(.x 3)])))))) (
.ret [(.sl (.x 3))])))

theorem T.laws_toInstrS_l : leftF Try.prog [] FL Try.f86 = some (1, T.laws_toInstrS) := by kernel_rfl

theorem T.laws_toInstrS_con {args : List AV} {res : AV} (hl : args.length = 1) (hn : AV.norefs args = true) (hw : wpT Try.prog (fun _ _ _ => False) (fun a => a = res) T.laws_toInstrS args []) : PCon Try.prog F.laws_toInstrS args res :=
  con_auto Try.func86 T.laws_toInstrS_l hl hn hw

def T.laws_toIntS : T :=
.op (.lenL (.x 0)) (
.op (.rep 8 (.v (.int .i64 0)) (.x 1) (.x 1)) (
.bind 1 (
 .loop [(.x 2), (.c (.v (.int .i64 0)))] (
  .op (.lenL (.x 0)) (
  .op (.bin .lss (.x 4) (.x 5)) (
  .ite (.x 6)
   (.op (.elem 1 (.x 0) (.x 4)) (
   .chk (.lt (.x 7) 0) (
   .chk (.idx (.x 3) (.x 4)) (
   .chk (.one (.cell 7 0)) (
   .op (.set (.x 3) (.x 4) 0 1 (.cell 7 0)) (
   .op (.bin .add (.x 4) (.c (.v (.int .i64 1)))) (
   .jump [(.x 8), (.x 9)])))))))
   (.esc (.jump [(.x 3)])))))) (
.ret [(.sl (.x 3))])))

theorem T.laws_toIntS_l : leftF Try.prog [] FL Try.f87 = some (1, T.laws_toIntS) := by kernel_rfl

theorem T.laws_toIntS_con {args : List AV} {res : AV} (hl : args.length = 1) (hn : AV.norefs args = true) (hw : wpT Try.prog (fun _ _ _ => False) (fun a => a = res) T.laws_toIntS args []) : PCon Try.prog F.laws_toIntS args res :=
  con_auto Try.func87 T.laws_toIntS_l hl hn hw

def T.impl_within : T :=
.bind 1 (
 .op (.bin .geq (.x 0) (.x 1)) (
 .ite (.x 3)
  (.op (.bin .leq (.x 0) (.x 2)) (
  .jump [(.x 4)]))
  (.jump [(.c (.v (.bool false)))]))) (
.ret [(.x 3)])

theorem T.impl_within_l : leftF Try.prog [] FL Try.f88 = some (3, T.impl_within) := by kernel_rfl

theorem T.impl_within_con {args : List AV} {res : AV} (hl : args.length = 3) (hn : AV.norefs args = true) (hw : wpT Try.prog (fun _ _ _ => False) (fun a => a = res) T.impl_within args []) : PCon Try.prog F.impl_within args res :=
  con_auto Try.func88 T.impl_within_l hl hn hw

def T.laws_eqInstrS : T :=
.op (.lenL (.x 0)) (
.op (.lenL (.x 1)) (
.op (.bin .neq (.x 2) (.x 3)) (
.ite (.x 4)
 (.ret [(.c (.v (.bool false)))])
 (.bind 0 (
  .loop [(.c (.v (.int .i64 0)))] (
   .op (.lenL (.x 0)) (
   .op (.bin .lss (.x 5) (.x 6)) (
   .ite (.x 7)
    (.op (.elem 6 (.x 0) (.x 5)) (
    .chk (.cells (.x 8) 6) (
    .op (.elem 6 (.x 1) (.x 5)) (
    .chk (.cells (.x 9) 6) (
    .op (.call F.laws_eqInstr [(.x 8), (.x 9)] false) (
    .op (.un .not (.x 10)) (
    .ite (.x 11)
     (.esc (.esc (.ret [(.c (.v (.bool false)))])))
     (.op (.bin .add (.x 5) (.c (.v (.int .i64 1)))) (
     .jump [(.x 12)])))))))))
    (.esc (.jump [])))))) (
 .ret [(.c (.v (.bool true)))])))))

theorem T.laws_eqInstrS_l : leftF Try.prog [] FL Try.f89 = some (2, T.laws_eqInstrS) := by kernel_rfl

theorem T.laws_eqInstrS_con {args : List AV} {res : AV} (hl : args.length = 2) (hn : AV.norefs args = true) (hw : wpT Try.prog (fun _ _ _ => False) (fun a => a = res) T.laws_eqInstrS args []) : PCon Try.prog F.laws_eqInstrS args res :=
  con_auto Try.func89 T.laws_eqInstrS_l hl hn hw

def T.spec_l4Node : T :=
.chk (.cells (.x 0) 4) (
.op (.lenL (.cell 0 3)) (
.bind 0 (
 .bind 1 (
  .op (.bin .neq (.cell 0 0) (.c (.v (.int .i64 7)))) (
  .ite (.x 2)
   (.op (.bin .neq (.cell 0 2) (.c (.v (.string ⟨#[]⟩)))) (
   .ite (.x 3)
    (.jump [(.c (.v (.bool true)))])
    (.op (.bin .lss (.cell 0 0) (.c (.v (.int .i64 9)))) (
    .ite (.x 4)
     (.op (.bin .neq (.cell 0 1) (.c (.v (.int .i64 0)))) (
     .jump [(.x 5)]))
     (.jump [(.c (.v (.bool false)))])))))
   (.op (.bin .lss (.cell 0 0) (.c (.v (.int .i64 9)))) (
   .ite (.x 3)
    (.op (.bin .neq (.cell 0 1) (.c (.v (.int .i64 0)))) (
    .jump [(.x 4)]))
    (.jump [(.c (.v (.bool false)))]))))) (
 .ite (.x 2)
  (.esc (.ret [(.c (.v (.bool false)))]))
  (.jump []))) (
.bind 0 (
 .bind 1 (
  .op (.bin .eql (.cell 0 0) (.c (.v (.int .i64 1)))) (
  .ite (.x 2)
   (.jump [(.x 2)])
   (.op (.bin .eql (.cell 0 0) (.c (.v (.int .i64 2)))) (
   .ite (.x 3)
    (.jump [(.x 3)])
    (.op (.bin .eql (.cell 0 0) (.c (.v (.int .i64 3)))) (
    .ite (.x 4)
     (.jump [(.x 4)])
     (.op (.bin .eql (.cell 0 0) (.c (.v (.int .i64 4)))) (
     .jump [(.x 5)])))))))) (
 .ite (.x 2)
  (.op (.bin .eql (.x 1) (.c (.v (.int .i64 0)))) (
  .esc (.ret [(.x 3)])))
  (.op (.bin .eql (.cell 0 0) (.c (.v (.int .i64 5)))) (
  .ite (.x 3)
   (.op (.bin .eql (.x 1) (.c (.v (.int .i64 2)))) (
   .esc (.ret [(.x 4)])))
   (.op (.bin .eql (.cell 0 0) (.c (.v (.int .i64 6)))) (
   .ite (.x 4)
    (.op (.bin .geq (.x 1) (.c (.v (.int .i64 2)))) (
    .esc (.ret [(.x 5)])))
    (.op (.bin .eql (.cell 0 0) (.c (.v (.int .i64 7)))) (
    .ite (.x 5)
     (.op (.call F.spec_l1Low [(.cell 0 2)] false) (
     .esc (.ret [(.x 6)])))
     (.op (.bin .eql (.cell 0 0) (.c (.v (.int .i64 8)))) (
     .ite (.x 6)
      (.op (.bin .eql (.x 1) (.c (.v (.int .i64 1)))) (
      .esc (.ret [(.x 7)])))
      (.bind 1 (
       .op (.bin .eql (.cell 0 0) (.c (.v (.int .i64 9)))) (
       .ite (.x 7)
        (.jump [(.x 7)])
        (.op (.bin .eql (.cell 0 0) (.c (.v (.int .i64 10)))) (
        .ite (.x 8)
         (.jump [(.x 8)])
         (.op (.bin .eql (.cell 0 0) (.c (.v (.int .i64 11)))) (
         .jump [(.x 9)])))))) (
      .ite (.x 7)
       (.bind 1 (
        .op (.bin .eql (.x 1) (.c (.v (.int .i64 0)))) (
        .ite (.x 8)
         (.op (.bin .geq (.cell 0 1) (.c (.v (.int .i64 0)))) (
         .jump [(.x 9)]))
         (.jump [(.c (.v (.bool false)))]))) (
       .esc (.ret [(.x 8)])))
       (.jump []))))))))))))) (
.ret [(.c (.v (.bool false)))]))))

theorem T.spec_l4Node_l : leftF Try.prog [] FL Try.f90 = some (1, T.spec_l4Node) := by kernel_rfl

theorem T.spec_l4Node_con {args : List AV} {res : AV} (hl : args.length = 1) (hn : AV.norefs args = true) (hw : wpT Try.prog (fun _ _ _ => False) (fun a => a = res) T.spec_l4Node args []) : PCon Try.prog F.spec_l4Node args res :=
  con_auto Try.func90 T.spec_l4Node_l hl hn hw

def T.impl_tyHeadOk : T :=
.chk (.cells (.x 0) 4) (
.op (.lenL (.cell 0 3)) (
.op (.bin .eql (.x 1) (.c (.v (.int .i64 0)))) (
.op (.bin .eql (.cell 0 2) (.c (.v (.string ⟨#[]⟩)))) (
.op (.bin .eql (.cell 0 1) (.c (.v (.int .i64 0)))) (
.bind 3 (
 .bind 1 (
  .op (.bin .eql (.cell 0 0) (.c (.v (.int .i64 1)))) (
  .ite (.x 5)
   (.jump [(.x 5)])
   (.op (.bin .eql (.cell 0 0) (.c (.v (.int .i64 2)))) (
   .ite (.x 6)
    (.jump [(.x 6)])
    (.op (.bin .eql (.cell 0 0) (.c (.v (.int .i64 3)))) (
    .ite (.x 7)
     (.jump [(.x 7)])
     (.op (.bin .eql (.cell 0 0) (.c (.v (.int .i64 4)))) (
     .jump [(.x 8)])))))))) (
 .ite (.x 5)
  (.jump [(.x 2), (.x 3), (.x 4)])
  (.op (.bin .eql (.cell 0 0) (.c (.v (.int .i64 5)))) (
  .ite (.x 6)
   (.op (.lenL (.cell 0 3)) (
   .op (.bin .eql (.x 7) (.c (.v (.int .i64 2)))) (
   .jump [(.x 8), (.x 3), (.x 4)])))
   (.op (.bin .eql (.cell 0 0) (.c (.v (.int .i64 6)))) (
   .ite (.x 7)
    (.op (.lenL (.cell 0 3)) (
    .op (.bin .geq (.x 8) (.c (.v (.int .i64 2)))) (
    .jump [(.x 9), (.x 3), (.x 4)])))
    (.op (.bin .eql (.cell 0 0) (.c (.v (.int .i64 7)))) (
    .ite (.x 8)
     (.op (.call F.impl_lowOk [(.cell 0 2)] false) (
     .jump [(.c (.v (.bool true))), (.x 9), (.x 4)]))
     (.op (.bin .eql (.cell 0 0) (.c (.v (.int .i64 8)))) (
     .ite (.x 9)
      (.op (.lenL (.cell 0 3)) (
      .op (.bin .eql (.x 10) (.c (.v (.int .i64 1)))) (
      .jump [(.x 11), (.x 3), (.x 4)])))
      (.bind 1 (
       .op (.bin .eql (.cell 0 0) (.c (.v (.int .i64 9)))) (
       .ite (.x 10)
        (.jump [(.x 10)])
        (.op (.bin .eql (.cell 0 0) (.c (.v (.int .i64 10)))) (
        .ite (.x 11)
         (.jump [(.x 11)])
         (.op (.bin .eql (.cell 0 0) (.c (.v (.int .i64 11)))) (
         .jump [(.x 12)])))))) (
      .ite (.x 10)
       (.op (.bin .geq (.cell 0 1) (.c (.v (.int .i64 0)))) (
       .jump [(.x 2), (.x 3), (.x 11)]))
       (.esc (.ret [(.c (.v (.bool false)))])))))))))))))) (
.bind 1 (
 .ite (.x 5)
  (.ite (.x 6)
   (.jump [(.x 7)])
   (.jump [(.c (.v (.bool false)))]))
  (.jump [(.c (.v (.bool false)))])) (
.ret [(.x 8)])))))))

theorem T.impl_tyHeadOk_l : leftF Try.prog [] FL Try.f91 = some (1, T.impl_tyHeadOk) := by kernel_rfl

theorem T.impl_tyHeadOk_con {args : List AV} {res : AV} (hl : args.length = 1) (hn : AV.norefs args = true) (hw : wpT Try.prog (fun _ _ _ => False) (fun a => a = res) T.impl_tyHeadOk args []) : PCon Try.prog F.impl_tyHeadOk args res :=
  con_auto Try.func91 T.impl_tyHeadOk_l hl hn hw

def T.slices_ContainsFunc__impl_Ty_impl_Ty : T :=
.op (.call F.slices_IndexFunc__impl_Ty_impl_Ty [(.x 0), (.x 1)] false) (
.op (.bin .geq (.x 2) (.c (.v (.int .i64 0)))) (
.ret [(.x 3)]))

theorem T.slices_ContainsFunc__impl_Ty_impl_Ty_l : leftF Try.prog [] FL Try.f92 = some (2, T.slices_ContainsFunc__impl_Ty_impl_Ty) := by kernel_rfl

theorem T.slices_ContainsFunc__impl_Ty_impl_Ty_con {args : List AV} {res : AV} (hl : args.length = 2) (hn : AV.norefs args = true) (hw : wpT Try.prog (fun _ _ _ => False) (fun a => a = res) T.slices_ContainsFunc__impl_Ty_impl_Ty args []) : PCon Try.prog F.slices_ContainsFunc__impl_Ty_impl_Ty args res :=
  con_auto Try.func92 T.slices_ContainsFunc__impl_Ty_impl_Ty_l hl hn hw

def T.impl_TyOk_1 : T :=
.chk (.cells (.x 0) 4) (
.chk (.cells (.x 0) 4) (
.op (.call F.impl_TyOk [(.x 0)] false) (
.op (.un .not (.x 1)) (
.ret [(.x 2)]))))

theorem T.impl_TyOk_1_l : leftF Try.prog [] FL Try.f93 = some (1, T.impl_TyOk_1) := by kernel_rfl

theorem T.impl_TyOk_1_con {args : List AV} {res : AV} (hl : args.length = 1) (hn : AV.norefs args = true) (hw : wpT Try.prog (fun _ _ _ => False) (fun a => a = res) T.impl_TyOk_1 args []) : PCon Try.prog F.impl_TyOk_1 args res :=
  con_auto Try.func93 T.impl_TyOk_1_l hl hn hw

def T.laws_szDataInfo : T :=
.chk (.cells (.x 0) 3) (
.op (.lenS (.cell 0 0)) (
.op (.bin .sub (.x 1) (.x 2)) (
.op (.bin .lss (.x 3) (.c (.v (.int .i64 0)))) (
.ite (.x 4)
 (.ret [(.c (.v (.int .i64 (-1))))])
 (.op (.call F.laws_szCtorInfoS [(.cell 0 2), (.x 3)] false) (
 .op (.bin .lss (.x 5) (.c (.v (.int .i64 0)))) (
 .ite (.x 6)
  (.ret [(.c (.v (.int .i64 (-1))))])
  (.ret [(.x 5)]))))))))

theorem T.laws_szDataInfo_l : leftF Try.prog [] FL Try.f94 = some (2, T.laws_szDataInfo) := by kernel_rfl

theorem T.laws_szDataInfo_con {args : List AV} {res : AV} (hl : args.length = 2) (hn : AV.norefs args = true) (hw : wpT Try.prog (fun _ _ _ => False) (fun a => a = res) T.laws_szDataInfo args []) : PCon Try.prog F.laws_szDataInfo args res :=
  con_auto Try.func94 T.laws_szDataInfo_l hl hn hw

def T.laws_toDataInfo : T :=
.chk (.cells (.x 0) 3) (
.chk (.one (.cell 0 0)) (
.chk (.one (.cell 0 1)) (
.op (.call F.laws_toCtorInfoS [(.cell 0 2)] false) (
.chk (.one (.x 1)) (
.chk (.cells (.agg [(.cell 0 0), (.cell 0 1), (.x 1)]) 3) (
.ret [(.agg [(.cell 0 0), (.cell 0 1), (.x 1)])]))))))

theorem T.laws_toDataInfo_l : leftF Try.prog [] FL Try.f95 = some (1, T.laws_toDataInfo) := by kernel_rfl

theorem T.laws_toDataInfo_con {args : List AV} {res : AV} (hl : args.length = 1) (hn : AV.norefs args = true) (hw : wpT Try.prog (fun _ _ _ => False) (fun a => a = res) T.laws_toDataInfo args []) : PCon Try.prog F.laws_toDataInfo args res :=
  con_auto Try.func95 T.laws_toDataInfo_l hl hn hw

def T.slices_IndexFunc__impl_CtorInfo_impl_CtorInfo : T :=
.bind 0 (
 .op (.lenL (.x 0)) (
 .loop [(.c (.v (.int .i64 0)))] (
  .op (.bin .lss (.x 3) (.x 2)) (
  .ite (.x 4)
   (.op (.elem 6 (.x 0) (.x 3)) (
   .chk (.cells (.x 5) 6) (
   .op (.callv (.x 1) [(.x 5)] false) (
   .ite (.x 6)
    (.esc (.esc (.ret [(.x 3)])))
    (.op (.bin .add (.x 3) (.c (.v (.int .i64 1)))) (
    .jump [(.x 7)]))))))
   (.esc (.jump [])))))) (
.ret [(.c (.v (.int .i64 (-1))))])

theorem T.slices_IndexFunc__impl_CtorInfo_impl_CtorInfo_l : leftF Try.prog [] FL Try.f96 = some (2, T.slices_IndexFunc__impl_CtorInfo_impl_CtorInfo) := by kernel_rfl

theorem T.slices_IndexFunc__impl_CtorInfo_impl_CtorInfo_con {args : List AV} {res : AV} (hl : args.length = 2) (hn : AV.norefs args = true) (hw : wpT Try.prog (fun _ _ _ => False) (fun a => a = res) T.slices_IndexFunc__impl_CtorInfo_impl_CtorInfo args []) : PCon Try.prog F.slices_IndexFunc__impl_CtorInfo_impl_CtorInfo args res :=
  con_auto Try.func96 T.slices_IndexFunc__impl_CtorInfo_impl_CtorInfo_l hl hn hw

def T.impl_FindCtor_1 : T :=
.chk (.cells (.x 0) 6) (
.op (.ldp none (.x 1)) (
.op (.bin .eql (.cell 0 0) (.x 2)) (
.ret [(.x 3)])))

theorem T.impl_FindCtor_1_l : leftF Try.prog [] FL Try.f97 = some (2, T.impl_FindCtor_1) := by kernel_rfl

theorem T.impl_FindCtor_1_con {args : List AV} {res : AV} (hl : args.length = 2) (hn : AV.norefs args = true) (hw : wpT Try.prog (fun _ _ _ => False) (fun a => a = res) T.impl_FindCtor_1 args []) : PCon Try.prog F.impl_FindCtor_1 args res :=
  con_auto Try.func97 T.impl_FindCtor_1_l hl hn hw

def T.laws_eqDataInfo : T :=
.chk (.cells (.x 0) 3) (
.chk (.cells (.x 1) 3) (
.op (.bin .neq (.cell 0 0) (.cell 1 0)) (
.ite (.x 2)
 (.ret [(.c (.v (.bool false)))])
 (.op (.bin .neq (.cell 0 1) (.cell 1 1)) (
 .ite (.x 3)
  (.ret [(.c (.v (.bool false)))])
  (.op (.call F.laws_eqCtorInfoS [(.cell 0 2), (.cell 1 2)] false) (
  .op (.un .not (.x 4)) (
  .ite (.x 5)
   (.ret [(.c (.v (.bool false)))])
   (.ret [(.c (.v (.bool true)))])))))))))

theorem T.laws_eqDataInfo_l : leftF Try.prog [] FL Try.f98 = some (2, T.laws_eqDataInfo) := by kernel_rfl

theorem T.laws_eqDataInfo_con {args : List AV} {res : AV} (hl : args.length = 2) (hn : AV.norefs args = true) (hw : wpT Try.prog (fun _ _ _ => False) (fun a => a = res) T.laws_eqDataInfo args []) : PCon Try.prog F.laws_eqDataInfo args res :=
  con_auto Try.func98 T.laws_eqDataInfo_l hl hn hw

def T.laws_szKValS : T :=
.op (.lenL (.x 0)) (
.op (.bin .sub (.x 1) (.x 2)) (
.op (.bin .lss (.x 3) (.c (.v (.int .i64 0)))) (
.ite (.x 4)
 (.ret [(.c (.v (.int .i64 (-1))))])
 (.bind 1 (
  .loop [(.x 3), (.c (.v (.int .i64 0)))] (
   .op (.lenL (.x 0)) (
   .op (.bin .lss (.x 6) (.x 7)) (
   .ite (.x 8)
    (.op (.elem 4 (.x 0) (.x 6)) (
    .chk (.cells (.x 9) 4) (
    .op (.call F.laws_szKVal [(.x 9), (.x 5)] false) (
    .op (.bin .lss (.x 10) (.c (.v (.int .i64 0)))) (
    .ite (.x 11)
     (.esc (.esc (.ret [(.c (.v (.int .i64 (-1))))])))
     (.op (.bin .add (.x 6) (.c (.v (.int .i64 1)))) (
     .jump [(.x 10), (.x 12)])))))))
    (.esc (.jump [(.x 5)])))))) (
 .ret [(.x 5)])))))

theorem T.laws_szKValS_l : leftF Try.prog [] FL Try.f99 = some (2, T.laws_szKValS) := by kernel_rfl

theorem T.laws_szKValS_con {args : List AV} {res : AV} (hl : args.length = 2) (hn : AV.norefs args = true) (hw : wpT Try.prog (fun _ _ _ => False) (fun a => a = res) T.laws_szKValS args []) : PCon Try.prog F.laws_szKValS args res :=
  con_auto Try.func99 T.laws_szKValS_l hl hn hw

def T.laws_szKTermS : T :=
.op (.lenL (.x 0)) (
.op (.bin .sub (.x 1) (.x 2)) (
.op (.bin .lss (.x 3) (.c (.v (.int .i64 0)))) (
.ite (.x 4)
 (.ret [(.c (.v (.int .i64 (-1))))])
 (.bind 1 (
  .loop [(.x 3), (.c (.v (.int .i64 0)))] (
   .op (.lenL (.x 0)) (
   .op (.bin .lss (.x 6) (.x 7)) (
   .ite (.x 8)
    (.op (.elem 11 (.x 0) (.x 6)) (
    .chk (.cells (.x 9) 11) (
    .op (.call F.laws_szKTerm [(.x 9), (.x 5)] false) (
    .op (.bin .lss (.x 10) (.c (.v (.int .i64 0)))) (
    .ite (.x 11)
     (.esc (.esc (.ret [(.c (.v (.int .i64 (-1))))])))
     (.op (.bin .add (.x 6) (.c (.v (.int .i64 1)))) (
     .jump [(.x 10), (.x 12)])))))))
    (.esc (.jump [(.x 5)])))))) (
 .ret [(.x 5)])))))

theorem T.laws_szKTermS_l : leftF Try.prog [] FL Try.f100 = some (2, T.laws_szKTermS) := by kernel_rfl

theorem T.laws_szKTermS_con {args : List AV} {res : AV} (hl : args.length = 2) (hn : AV.norefs args = true) (hw : wpT Try.prog (fun _ _ _ => False) (fun a => a = res) T.laws_szKTermS args []) : PCon Try.prog F.laws_szKTermS args res :=
  con_auto Try.func100 T.laws_szKTermS_l hl hn hw

def T.laws_toKValS : T :=
.op (.lenL (.x 0)) (
.op (.rep 40 (.agg [(.v (.int .i64 0)), (.v (.int .i64 0)), (.v (.int .i64 0)), (.v (.string ⟨#[]⟩))]) (.x 1) (.x 1)) (
.bind 1 (
 .loop [(.x 2), (.c (.v (.int .i64 0)))] (
  .op (.lenL (.x 0)) (
  .op (.bin .lss (.x 4) (.x 5)) (
  .ite (.x 6)
   (.op (.elem 4 (.x 0) (.x 4)) (
   .chk (.cells (.x 7) 4) (
   .op (.call F.laws_toKVal [(.x 7)] false) (
   .chk (.idx (.x 3) (.x 4)) (
   .chk (.cells (.x 8) 4) (
   .op (.set (.x 3) (.x 4) 0 4 (.x 8)) (
   .op (.bin .add (.x 4) (.c (.v (.int .i64 1)))) (
   .jump [(.x 9), (.x 10)]))))))))
   (.esc (.jump [(.x 3)])))))) (
.ret [(.sl (.x 3))])))

theorem T.laws_toKValS_l : leftF Try.prog [] FL Try.f101 = some (1, T.laws_toKValS) := by kernel_rfl

theorem T.laws_toKValS_con {args : List AV} {res : AV} (hl : args.length = 1) (hn : AV.norefs args = true) (hw : wpT Try.prog (fun _ _ _ => False) (fun a => a = res) T.laws_toKValS args []) : PCon Try.prog F.laws_toKValS args res :=
  con_auto Try.func101 T.laws_toKValS_l hl hn hw

def T.laws_toKTermS : T :=
.op (.lenL (.x 0)) (
.op (.rep 168 (.agg [(.v (.int .i64 0)), (.v (.string ⟨#[]⟩)), (.v (.int .i64 0)), (.v (.int .i64 0)), (.v (.int .i64 0)), (.v (.int .i64 0)), (.v (.string ⟨#[]⟩)), .nils, .nils, .nils, .nils]) (.x 1) (.x 1)) (
.bind 1 (
 .loop [(.x 2), (.c (.v (.int .i64 0)))] (
  .op (.lenL (.x 0)) (
  .op (.bin .lss (.x 4) (.x 5)) (
  .ite (.x 6)
   (.op (.elem 11 (.x 0) (.x 4)) (
   .chk (.cells (.x 7) 11) (
   .op (.call F.laws_toKTerm [(.x 7)] false) (
   .chk (.idx (.x 3) (.x 4)) (
   .chk (.cells (.x 8) 11) (
   .op (.set (.x 3) (.x 4) 0 11 (.x 8)) (
   .op (.bin .add (.x 4) (.c (.v (.int .i64 1)))) (
   .jump [(.x 9), (.x 10)]))))))))
   (.esc (.jump [(.x 3)])))))) (
.ret [(.sl (.x 3))])))

theorem T.laws_toKTermS_l : leftF Try.prog [] FL Try.f102 = some (1, T.laws_toKTermS) := by kernel_rfl

theorem T.laws_toKTermS_con {args : List AV} {res : AV} (hl : args.length = 1) (hn : AV.norefs args = true) (hw : wpT Try.prog (fun _ _ _ => False) (fun a => a = res) T.laws_toKTermS args []) : PCon Try.prog F.laws_toKTermS args res :=
  con_auto Try.func102 T.laws_toKTermS_l hl hn hw

def T.laws_eqKValS : T :=
.op (.lenL (.x 0)) (
.op (.lenL (.x 1)) (
.op (.bin .neq (.x 2) (.x 3)) (
.ite (.x 4)
 (.ret [(.c (.v (.bool false)))])
 (.bind 0 (
  .loop [(.c (.v (.int .i64 0)))] (
   .op (.lenL (.x 0)) (
   .op (.bin .lss (.x 5) (.x 6)) (
   .ite (.x 7)
    (.op (.elem 4 (.x 0) (.x 5)) (
    .chk (.cells (.x 8) 4) (
    .op (.elem 4 (.x 1) (.x 5)) (
    .chk (.cells (.x 9) 4) (
    .op (.call F.laws_eqKVal [(.x 8), (.x 9)] false) (
    .op (.un .not (.x 10)) (
    .ite (.x 11)
     (.esc (.esc (.ret [(.c (.v (.bool false)))])))
     (.op (.bin .add (.x 5) (.c (.v (.int .i64 1)))) (
     .jump [(.x 12)])))))))))
    (.esc (.jump [])))))) (
 .ret [(.c (.v (.bool true)))])))))

theorem T.laws_eqKValS_l : leftF Try.prog [] FL Try.f103 = some (2, T.laws_eqKValS) := by kernel_rfl

theorem T.laws_eqKValS_con {args : List AV} {res : AV} (hl : args.length = 2) (hn : AV.norefs args = true) (hw : wpT Try.prog (fun _ _ _ => False) (fun a => a = res) T.laws_eqKValS args []) : PCon Try.prog F.laws_eqKValS args res :=
  con_auto Try.func103 T.laws_eqKValS_l hl hn hw

def T.laws_eqKTermS : T :=
.op (.lenL (.x 0)) (
.op (.lenL (.x 1)) (
.op (.bin .neq (.x 2) (.x 3)) (
.ite (.x 4)
 (.ret [(.c (.v (.bool false)))])
 (.bind 0 (
  .loop [(.c (.v (.int .i64 0)))] (
   .op (.lenL (.x 0)) (
   .op (.bin .lss (.x 5) (.x 6)) (
   .ite (.x 7)
    (.op (.elem 11 (.x 0) (.x 5)) (
    .chk (.cells (.x 8) 11) (
    .op (.elem 11 (.x 1) (.x 5)) (
    .chk (.cells (.x 9) 11) (
    .op (.call F.laws_eqKTerm [(.x 8), (.x 9)] false) (
    .op (.un .not (.x 10)) (
    .ite (.x 11)
     (.esc (.esc (.ret [(.c (.v (.bool false)))])))
     (.op (.bin .add (.x 5) (.c (.v (.int .i64 1)))) (
     .jump [(.x 12)])))))))))
    (.esc (.jump [])))))) (
 .ret [(.c (.v (.bool true)))])))))

theorem T.laws_eqKTermS_l : leftF Try.prog [] FL Try.f104 = some (2, T.laws_eqKTermS) := by kernel_rfl

theorem T.laws_eqKTermS_con {args : List AV} {res : AV} (hl : args.length = 2) (hn : AV.norefs args = true) (hw : wpT Try.prog (fun _ _ _ => False) (fun a => a = res) T.laws_eqKTermS args []) : PCon Try.prog F.laws_eqKTermS args res :=
  con_auto Try.func104 T.laws_eqKTermS_l hl hn hw

def T.impl_ExpOk : T :=
.chk (.cells (.x 0) 7) (
.chk (.cells (.x 0) 7) (
.op (.call F.impl_headOk [(.x 0)] false) (
.op (.un .not (.x 1)) (
.ite (.x 2)
 (.ret [(.c (.v (.bool false)))])
 (.bind 0 (
  .op (.lenL (.cell 0 5)) (
  .loop [(.c (.v (.int .i64 0)))] (
   .op (.bin .lss (.x 4) (.x 3)) (
   .ite (.x 5)
    (.op (.elem 7 (.cell 0 5) (.x 4)) (
    .chk (.cells (.x 6) 7) (
    .chk (.cells (.x 6) 7) (
    .chk (.cells (.x 6) 7) (
    .op (.call F.impl_ExpOk [(.x 6)] false) (
    .op (.un .not (.x 7)) (
    .ite (.x 8)
     (.esc (.esc (.ret [(.c (.v (.bool false)))])))
     (.op (.bin .add (.x 4) (.c (.v (.int .i64 1)))) (
     .jump [(.x 9)])))))))))
    (.esc (.jump [])))))) (
 .bind 0 (
  .op (.lenL (.cell 0 6)) (
  .loop [(.c (.v (.int .i64 0)))] (
   .op (.bin .lss (.x 4) (.x 3)) (
   .ite (.x 5)
    (.bind 12 (
     .op (.elem 12 (.cell 0 6) (.x 4)) (
     .chk (.cells (.x 6) 12) (
     .chk (.cells (.x 6) 12) (
     .bind 1 (
      .op (.call F.impl_patOk [(.agg [(.cell 6 0), (.cell 6 1), (.cell 6 2), (.cell 6 3), (.cell 6 4)])] false) (
      .op (.un .not (.x 7)) (
      .ite (.x 8)
       (.jump [(.c (.v (.bool true)))])
       (.op (.call F.impl_ExpOk [(.agg [(.cell 6 5), (.cell 6 6), (.cell 6 7), (.cell 6 8), (.cell 6 9), (.cell 6 10), (.cell 6 11)])] false) (
       .op (.un .not (.x 9)) (
       .jump [(.x 10)])))))) (
     .ite (.x 7)
      (.esc (.esc (.esc (.ret [(.c (.v (.bool false)))]))))
      (.jump [(.cell 6 0), (.cell 6 1), (.cell 6 2), (.cell 6 3), (.cell 6 4), (.cell 6 5), (.cell 6 6), (.cell 6 7), (.cell 6 8), (.cell 6 9), (.cell 6 10), (.cell 6 11)])))))) (
    .op (.bin .add (.x 4) (.c (.v (.int .i64 1)))) (
    .jump [(.x 18)])))
    (.esc (.jump [])))))) (
 .ret [(.c (.v (.bool true)))])))))))

theorem T.impl_ExpOk_l : leftF Try.prog [] FL Try.f105 = some (1, T.impl_ExpOk) := by kernel_rfl

theorem T.impl_ExpOk_con {args : List AV} {res : AV} (hl : args.length = 1) (hn : AV.norefs args = true) (hw : wpT Try.prog (fun _ _ _ => False) (fun a => a = res) T.impl_ExpOk args []) : PCon Try.prog F.impl_ExpOk args res :=
  con_auto Try.func105 T.impl_ExpOk_l hl hn hw

-- impl_alpha: no walk
def T.laws_szExpS : T :=
.op (.lenL (.x 0)) (
.op (.bin .sub (.x 1) (.x 2)) (
.op (.bin .lss (.x 3) (.c (.v (.int .i64 0)))) (
.ite (.x 4)
 (.ret [(.c (.v (.int .i64 (-1))))])
 (.bind 1 (
  .loop [(.x 3), (.c (.v (.int .i64 0)))] (
   .op (.lenL (.x 0)) (
   .op (.bin .lss (.x 6) (.x 7)) (
   .ite (.x 8)
    (.op (.elem 7 (.x 0) (.x 6)) (
    .chk (.cells (.x 9) 7) (
    .op (.call F.laws_szExp [(.x 9), (.x 5)] false) (
    .op (.bin .lss (.x 10) (.c (.v (.int .i64 0)))) (
    .ite (.x 11)
     (.esc (.esc (.ret [(.c (.v (.int .i64 (-1))))])))
     (.op (.bin .add (.x 6) (.c (.v (.int .i64 1)))) (
     .jump [(.x 10), (.x 12)])))))))
    (.esc (.jump [(.x 5)])))))) (
 .ret [(.x 5)])))))

theorem T.laws_szExpS_l : leftF Try.prog [] FL Try.f107 = some (2, T.laws_szExpS) := by kernel_rfl

theorem T.laws_szExpS_con {args : List AV} {res : AV} (hl : args.length = 2) (hn : AV.norefs args = true) (hw : wpT Try.prog (fun _ _ _ => False) (fun a => a = res) T.laws_szExpS args []) : PCon Try.prog F.laws_szExpS args res :=
  con_auto Try.func107 T.laws_szExpS_l hl hn hw

def T.laws_szArmS : T :=
.op (.lenL (.x 0)) (
.op (.bin .sub (.x 1) (.x 2)) (
.op (.bin .lss (.x 3) (.c (.v (.int .i64 0)))) (
.ite (.x 4)
 (.ret [(.c (.v (.int .i64 (-1))))])
 (.bind 1 (
  .loop [(.x 3), (.c (.v (.int .i64 0)))] (
   .op (.lenL (.x 0)) (
   .op (.bin .lss (.x 6) (.x 7)) (
   .ite (.x 8)
    (.op (.elem 12 (.x 0) (.x 6)) (
    .chk (.cells (.x 9) 12) (
    .op (.call F.laws_szArm [(.x 9), (.x 5)] false) (
    .op (.bin .lss (.x 10) (.c (.v (.int .i64 0)))) (
    .ite (.x 11)
     (.esc (.esc (.ret [(.c (.v (.int .i64 (-1))))])))
     (.op (.bin .add (.x 6) (.c (.v (.int .i64 1)))) (
     .jump [(.x 10), (.x 12)])))))))
    (.esc (.jump [(.x 5)])))))) (
 .ret [(.x 5)])))))

theorem T.laws_szArmS_l : leftF Try.prog [] FL Try.f108 = some (2, T.laws_szArmS) := by kernel_rfl

theorem T.laws_szArmS_con {args : List AV} {res : AV} (hl : args.length = 2) (hn : AV.norefs args = true) (hw : wpT Try.prog (fun _ _ _ => False) (fun a => a = res) T.laws_szArmS args []) : PCon Try.prog F.laws_szArmS args res :=
  con_auto Try.func108 T.laws_szArmS_l hl hn hw

def T.spec_l2PatSize : T :=
.chk (.cells (.x 0) 5) (
.bind 1 (
 .loop [(.c (.v (.int .i64 1))), (.c (.v (.int .i64 0)))] (
  .op (.lenL (.cell 0 4)) (
  .op (.bin .lss (.x 2) (.x 3)) (
  .ite (.x 4)
   (.op (.elem 5 (.cell 0 4) (.x 2)) (
   .chk (.cells (.x 5) 5) (
   .op (.call F.spec_l2PatSize [(.x 5)] false) (
   .op (.bin .add (.x 1) (.x 6)) (
   .op (.bin .add (.x 2) (.c (.v (.int .i64 1)))) (
   .jump [(.x 7), (.x 8)]))))))
   (.esc (.jump [(.x 1)])))))) (
.ret [(.x 1)]))

theorem T.spec_l2PatSize_l : leftF Try.prog [] FL Try.f109 = some (1, T.spec_l2PatSize) := by kernel_rfl

theorem T.spec_l2PatSize_con {args : List AV} {res : AV} (hl : args.length = 1) (hn : AV.norefs args = true) (hw : wpT Try.prog (fun _ _ _ => False) (fun a => a = res) T.spec_l2PatSize args []) : PCon Try.prog F.spec_l2PatSize args res :=
  con_auto Try.func109 T.spec_l2PatSize_l hl hn hw

def T.laws_toExpS : T :=
.op (.lenL (.x 0)) (
.op (.rep 104 (.agg [(.v (.int .i64 0)), (.v (.string ⟨#[]⟩)), (.v (.int .i64 0)), (.v (.string ⟨#[]⟩)), (.v (.int .i64 0)), .nils, .nils]) (.x 1) (.x 1)) (
.bind 1 (
 .loop [(.x 2), (.c (.v (.int .i64 0)))] (
  .op (.lenL (.x 0)) (
  .op (.bin .lss (.x 4) (.x 5)) (
  .ite (.x 6)
   (.op (.elem 7 (.x 0) (.x 4)) (
   .chk (.cells (.x 7) 7) (
   .op (.call F.laws_toExp [(.x 7)] false) (
   .chk (.idx (.x 3) (.x 4)) (
   .chk (.cells (.x 8) 7) (
   .op (.set (.x 3) (.x 4) 0 7 (.x 8)) (
   .op (.bin .add (.x 4) (.c (.v (.int .i64 1)))) (
   .jump [(.x 9), (.x 10)]))))))))
   (.esc (.jump [(.x 3)])))))) (
.ret [(.sl (.x 3))])))

theorem T.laws_toExpS_l : leftF Try.prog [] FL Try.f110 = some (1, T.laws_toExpS) := by kernel_rfl

theorem T.laws_toExpS_con {args : List AV} {res : AV} (hl : args.length = 1) (hn : AV.norefs args = true) (hw : wpT Try.prog (fun _ _ _ => False) (fun a => a = res) T.laws_toExpS args []) : PCon Try.prog F.laws_toExpS args res :=
  con_auto Try.func110 T.laws_toExpS_l hl hn hw

def T.laws_toArmS : T :=
.op (.lenL (.x 0)) (
.op (.rep 168 (.agg [(.v (.int .i64 0)), (.v (.string ⟨#[]⟩)), (.v (.int .i64 0)), (.v (.int .i64 0)), .nils, (.v (.int .i64 0)), (.v (.string ⟨#[]⟩)), (.v (.int .i64 0)), (.v (.string ⟨#[]⟩)), (.v (.int .i64 0)), .nils, .nils]) (.x 1) (.x 1)) (
.bind 1 (
 .loop [(.x 2), (.c (.v (.int .i64 0)))] (
  .op (.lenL (.x 0)) (
  .op (.bin .lss (.x 4) (.x 5)) (
  .ite (.x 6)
   (.op (.elem 12 (.x 0) (.x 4)) (
   .chk (.cells (.x 7) 12) (
   .op (.call F.laws_toArm [(.x 7)] false) (
   .chk (.idx (.x 3) (.x 4)) (
   .chk (.cells (.x 8) 12) (
   .op (.set (.x 3) (.x 4) 0 12 (.x 8)) (
   .op (.bin .add (.x 4) (.c (.v (.int .i64 1)))) (
   .jump [(.x 9), (.x 10)]))))))))
   (.esc (.jump [(.x 3)])))))) (
.ret [(.sl (.x 3))])))

theorem T.laws_toArmS_l : leftF Try.prog [] FL Try.f111 = some (1, T.laws_toArmS) := by kernel_rfl

theorem T.laws_toArmS_con {args : List AV} {res : AV} (hl : args.length = 1) (hn : AV.norefs args = true) (hw : wpT Try.prog (fun _ _ _ => False) (fun a => a = res) T.laws_toArmS args []) : PCon Try.prog F.laws_toArmS args res :=
  con_auto Try.func111 T.laws_toArmS_l hl hn hw

def T.impl_patSize : T :=
.chk (.cells (.x 0) 5) (
.bind 1 (
 .op (.lenL (.cell 0 4)) (
 .loop [(.c (.v (.int .i64 1))), (.c (.v (.int .i64 0)))] (
  .op (.bin .lss (.x 3) (.x 1)) (
  .ite (.x 4)
   (.op (.elem 5 (.cell 0 4) (.x 3)) (
   .chk (.cells (.x 5) 5) (
   .chk (.cells (.x 5) 5) (
   .chk (.cells (.x 5) 5) (
   .op (.call F.impl_patSize [(.x 5)] false) (
   .op (.bin .add (.x 2) (.x 6)) (
   .op (.bin .add (.x 3) (.c (.v (.int .i64 1)))) (
   .jump [(.x 7), (.x 8)]))))))))
   (.esc (.jump [(.x 2)])))))) (
.ret [(.x 1)]))

theorem T.impl_patSize_l : leftF Try.prog [] FL Try.f112 = some (1, T.impl_patSize) := by kernel_rfl

theorem T.impl_patSize_con {args : List AV} {res : AV} (hl : args.length = 1) (hn : AV.norefs args = true) (hw : wpT Try.prog (fun _ _ _ => False) (fun a => a = res) T.impl_patSize args []) : PCon Try.prog F.impl_patSize args res :=
  con_auto Try.func112 T.impl_patSize_l hl hn hw

def T.laws_eqExpS : T :=
.op (.lenL (.x 0)) (
.op (.lenL (.x 1)) (
.op (.bin .neq (.x 2) (.x 3)) (
.ite (.x 4)
 (.ret [(.c (.v (.bool false)))])
 (.bind 0 (
  .loop [(.c (.v (.int .i64 0)))] (
   .op (.lenL (.x 0)) (
   .op (.bin .lss (.x 5) (.x 6)) (
   .ite (.x 7)
    (.op (.elem 7 (.x 0) (.x 5)) (
    .chk (.cells (.x 8) 7) (
    .op (.elem 7 (.x 1) (.x 5)) (
    .chk (.cells (.x 9) 7) (
    .op (.call F.laws_eqExp [(.x 8), (.x 9)] false) (
    .op (.un .not (.x 10)) (
    .ite (.x 11)
     (.esc (.esc (.ret [(.c (.v (.bool false)))])))
     (.op (.bin .add (.x 5) (.c (.v (.int .i64 1)))) (
     .jump [(.x 12)])))))))))
    (.esc (.jump [])))))) (
 .ret [(.c (.v (.bool true)))])))))

theorem T.laws_eqExpS_l : leftF Try.prog [] FL Try.f113 = some (2, T.laws_eqExpS) := by kernel_rfl

theorem T.laws_eqExpS_con {args : List AV} {res : AV} (hl : args.length = 2) (hn : AV.norefs args = true) (hw : wpT Try.prog (fun _ _ _ => False) (fun a => a = res) T.laws_eqExpS args []) : PCon Try.prog F.laws_eqExpS args res :=
  con_auto Try.func113 T.laws_eqExpS_l hl hn hw

def T.laws_eqArmS : T :=
.op (.lenL (.x 0)) (
.op (.lenL (.x 1)) (
.op (.bin .neq (.x 2) (.x 3)) (
.ite (.x 4)
 (.ret [(.c (.v (.bool false)))])
 (.bind 0 (
  .loop [(.c (.v (.int .i64 0)))] (
   .op (.lenL (.x 0)) (
   .op (.bin .lss (.x 5) (.x 6)) (
   .ite (.x 7)
    (.op (.elem 12 (.x 0) (.x 5)) (
    .chk (.cells (.x 8) 12) (
    .op (.elem 12 (.x 1) (.x 5)) (
    .chk (.cells (.x 9) 12) (
    .op (.call F.laws_eqArm [(.x 8), (.x 9)] false) (
    .op (.un .not (.x 10)) (
    .ite (.x 11)
     (.esc (.esc (.ret [(.c (.v (.bool false)))])))
     (.op (.bin .add (.x 5) (.c (.v (.int .i64 1)))) (
     .jump [(.x 12)])))))))))
    (.esc (.jump [])))))) (
 .ret [(.c (.v (.bool true)))])))))

theorem T.laws_eqArmS_l : leftF Try.prog [] FL Try.f114 = some (2, T.laws_eqArmS) := by kernel_rfl

theorem T.laws_eqArmS_con {args : List AV} {res : AV} (hl : args.length = 2) (hn : AV.norefs args = true) (hw : wpT Try.prog (fun _ _ _ => False) (fun a => a = res) T.laws_eqArmS args []) : PCon Try.prog F.laws_eqArmS args res :=
  con_auto Try.func114 T.laws_eqArmS_l hl hn hw

-- spec_l4Free: no walk
def T.impl_isVarKind : T :=
.op (.call F.impl_within [(.x 0), (.c (.v (.int .i64 9))), (.c (.v (.int .i64 11)))] false) (
.ret [(.x 1)])

theorem T.impl_isVarKind_l : leftF Try.prog [] FL Try.f116 = some (1, T.impl_isVarKind) := by kernel_rfl

theorem T.impl_isVarKind_con {args : List AV} {res : AV} (hl : args.length = 1) (hn : AV.norefs args = true) (hw : wpT Try.prog (fun _ _ _ => False) (fun a => a = res) T.impl_isVarKind args []) : PCon Try.prog F.impl_isVarKind args res :=
  con_auto Try.func116 T.impl_isVarKind_l hl hn hw

def T.impl_frees : T :=
.chk (.cells (.x 0) 4) (
.bind 1 (
 .op (.bin .eql (.cell 0 0) (.x 1)) (
 .ite (.x 2)
  (.chk (.one (.cell 0 1)) (
  .op (.mkl (.v (.int .i64 0)) 1 [(0, (.cell 0 1))]) (
  .op (.app 1 8 (.c (.sl [])) (.sl (.x 3))) (
  .jump [(.x 4)]))))
  (.jump [(.c (.sl []))]))) (
.bind 1 (
 .op (.lenL (.cell 0 3)) (
 .loop [(.x 2), (.c (.v (.int .i64 0)))] (
  .op (.bin .lss (.x 5) (.x 3)) (
  .ite (.x 6)
   (.bind 5 (
    .op (.elem 4 (.cell 0 3) (.x 5)) (
    .chk (.cells (.x 7) 4) (
    .chk (.cells (.x 7) 4) (
    .chk (.cells (.x 7) 4) (
    .op (.call F.impl_frees [(.x 7), (.x 1)] false) (
    .op (.lenL (.x 8)) (
    .loop [(.x 4), (.c (.v (.int .i64 0)))] (
     .op (.bin .lss (.x 11) (.x 9)) (
     .ite (.x 12)
      (.bind 1 (
       .op (.elem 1 (.x 8) (.x 11)) (
       .chk (.lt (.x 13) 0) (
       .op (.call F.slices_Contains__int_int [(.sl (.x 10)), (.cell 13 0)] true) (
       .op (.un .not (.x 14)) (
       .ite (.x 15)
        (.chk (.one (.cell 13 0)) (
        .op (.mkl (.v (.int .i64 0)) 1 [(0, (.cell 13 0))]) (
        .op (.app 1 8 (.x 10) (.sl (.x 16))) (
        .jump [(.x 17)]))))
        (.jump [(.x 10)])))))) (
      .op (.bin .add (.x 11) (.c (.v (.int .i64 1)))) (
      .jump [(.x 13), (.x 14)])))
      (.esc (.jump [(.x 10), (.cell 7 0), (.cell 7 1), (.cell 7 2), (.cell 7 3)]))))))))))) (
   .op (.bin .add (.x 5) (.c (.v (.int .i64 1)))) (
   .jump [(.x 7), (.x 12)])))
   (.esc (.jump [(.x 4)])))))) (
.ret [(.sl (.x 3))])))

theorem T.impl_frees_l : leftF Try.prog [] FL Try.f117 = some (2, T.impl_frees) := by kernel_rfl

theorem T.impl_frees_con {args : List AV} {res : AV} (hl : args.length = 2) (hn : AV.norefs args = true) (hw : wpT Try.prog (fun _ _ _ => False) (fun a => a = res) T.impl_frees args []) : PCon Try.prog F.impl_frees args res :=
  con_auto Try.func117 T.impl_frees_l hl hn hw

def T.spec_l4Copy : T :=
.chk (.cells (.x 0) 4) (
.chk (.cells (.x 0) 4) (
.chk (.cells (.x 0) 4) (
.op (.mkl (.agg [(.v (.int .i64 0)), (.v (.int .i64 0)), (.v (.string ⟨#[]⟩)), .nils]) 0 []) (
.bind 1 (
 .loop [(.x 1), (.c (.v (.int .i64 0)))] (
  .op (.lenL (.cell 0 3)) (
  .op (.bin .lss (.x 3) (.x 4)) (
  .ite (.x 5)
   (.op (.elem 4 (.cell 0 3) (.x 3)) (
   .chk (.cells (.x 6) 4) (
   .op (.call F.spec_l4Copy [(.x 6)] false) (
   .chk (.cells (.x 7) 4) (
   .op (.mkl (.agg [(.v (.int .i64 0)), (.v (.int .i64 0)), (.v (.string ⟨#[]⟩)), .nils]) 1 [(0, (.x 7))]) (
   .op (.app 4 56 (.x 2) (.sl (.x 8))) (
   .op (.bin .add (.x 3) (.c (.v (.int .i64 1)))) (
   .jump [(.x 9), (.x 10)]))))))))
   (.esc (.jump [(.x 2)])))))) (
.chk (.one (.cell 0 0)) (
.chk (.one (.cell 0 1)) (
.chk (.one (.cell 0 2)) (
.ret [(.agg [(.cell 0 0), (.cell 0 1), (.cell 0 2), (.sl (.x 2))])]))))))))

theorem T.spec_l4Copy_l : leftF Try.prog [] FL Try.f118 = some (1, T.spec_l4Copy) := by kernel_rfl

theorem T.spec_l4Copy_con {args : List AV} {res : AV} (hl : args.length = 1) (hn : AV.norefs args = true) (hw : wpT Try.prog (fun _ _ _ => False) (fun a => a = res) T.spec_l4Copy args []) : PCon Try.prog F.spec_l4Copy args res :=
  con_auto Try.func118 T.spec_l4Copy_l hl hn hw

def T.spec_l4Put : T :=
.chk (.cells (.x 0) 4) (
.bind 0 (
 .bind 1 (
  .op (.bin .eql (.cell 0 0) (.x 1)) (
  .ite (.x 3)
   (.op (.lenL (.x 2)) (
   .op (.bin .lss (.cell 0 1) (.x 4)) (
   .jump [(.x 5)])))
   (.jump [(.c (.v (.bool false)))]))) (
 .ite (.x 3)
  (.op (.elem 4 (.x 2) (.cell 0 1)) (
  .chk (.cells (.x 4) 4) (
  .op (.call F.spec_l4Copy [(.x 4)] false) (
  .chk (.cells (.x 5) 4) (
  .esc (.ret [(.agg [(.cell 5 0), (.cell 5 1), (.cell 5 2), (.cell 5 3)])]))))))
  (.jump []))) (
.chk (.cells (.x 0) 4) (
.chk (.cells (.x 0) 4) (
.op (.mkl (.agg [(.v (.int .i64 0)), (.v (.int .i64 0)), (.v (.string ⟨#[]⟩)), .nils]) 0 []) (
.bind 1 (
 .loop [(.x 3), (.c (.v (.int .i64 0)))] (
  .op (.lenL (.cell 0 3)) (
  .op (.bin .lss (.x 5) (.x 6)) (
  .ite (.x 7)
   (.op (.elem 4 (.cell 0 3) (.x 5)) (
   .chk (.cells (.x 8) 4) (
   .op (.call F.spec_l4Put [(.x 8), (.x 1), (.x 2)] false) (
   .chk (.cells (.x 9) 4) (
   .op (.mkl (.agg [(.v (.int .i64 0)), (.v (.int .i64 0)), (.v (.string ⟨#[]⟩)), .nils]) 1 [(0, (.x 9))]) (
   .op (.app 4 56 (.x 4) (.sl (.x 10))) (
   .op (.bin .add (.x 5) (.c (.v (.int .i64 1)))) (
   .jump [(.x 11), (.x 12)]))))))))
   (.esc (.jump [(.x 4)])))))) (
.chk (.one (.cell 0 0)) (
.chk (.one (.cell 0 1)) (
.chk (.one (.cell 0 2)) (
.ret [(.agg [(.cell 0 0), (.cell 0 1), (.cell 0 2), (.sl (.x 4))])])))))))))

theorem T.spec_l4Put_l : leftF Try.prog [] FL Try.f119 = some (3, T.spec_l4Put) := by kernel_rfl

theorem T.spec_l4Put_con {args : List AV} {res : AV} (hl : args.length = 3) (hn : AV.norefs args = true) (hw : wpT Try.prog (fun _ _ _ => False) (fun a => a = res) T.spec_l4Put args []) : PCon Try.prog F.spec_l4Put args res :=
  con_auto Try.func119 T.spec_l4Put_l hl hn hw

def T.impl_copyTy : T :=
.chk (.cells (.x 0) 4) (
.chk (.one (.c .nils)) (
.bind 1 (
 .op (.lenL (.cell 0 3)) (
 .loop [(.c (.sl [])), (.c (.v (.int .i64 0)))] (
  .op (.bin .lss (.x 3) (.x 1)) (
  .ite (.x 4)
   (.op (.elem 4 (.cell 0 3) (.x 3)) (
   .chk (.cells (.x 5) 4) (
   .chk (.cells (.x 5) 4) (
   .chk (.cells (.x 5) 4) (
   .op (.call F.impl_copyTy [(.x 5)] false) (
   .chk (.cells (.x 6) 4) (
   .op (.mkl (.agg [(.v (.int .i64 0)), (.v (.int .i64 0)), (.v (.string ⟨#[]⟩)), .nils]) 1 [(0, (.x 6))]) (
   .op (.app 4 56 (.x 2) (.sl (.x 7))) (
   .op (.bin .add (.x 3) (.c (.v (.int .i64 1)))) (
   .jump [(.x 8), (.x 9)]))))))))))
   (.esc (.jump [(.x 2)])))))) (
.chk (.one (.cell 0 0)) (
.chk (.one (.cell 0 1)) (
.chk (.one (.cell 0 2)) (
.ret [(.agg [(.cell 0 0), (.cell 0 1), (.cell 0 2), (.sl (.x 1))])]))))))

theorem T.impl_copyTy_l : leftF Try.prog [] FL Try.f120 = some (1, T.impl_copyTy) := by kernel_rfl

theorem T.impl_copyTy_con {args : List AV} {res : AV} (hl : args.length = 1) (hn : AV.norefs args = true) (hw : wpT Try.prog (fun _ _ _ => False) (fun a => a = res) T.impl_copyTy args []) : PCon Try.prog F.impl_copyTy args res :=
  con_auto Try.func120 T.impl_copyTy_l hl hn hw

def T.impl_put : T :=
.chk (.cells (.x 0) 4) (
.bind 0 (
 .bind 1 (
  .op (.bin .eql (.cell 0 0) (.x 1)) (
  .ite (.x 3)
   (.op (.lenL (.x 2)) (
   .op (.bin .lss (.cell 0 1) (.x 4)) (
   .jump [(.x 5)])))
   (.jump [(.c (.v (.bool false)))]))) (
 .ite (.x 3)
  (.op (.elem 4 (.x 2) (.cell 0 1)) (
  .chk (.cells (.x 4) 4) (
  .op (.call F.impl_copyTy [(.x 4)] false) (
  .chk (.cells (.x 5) 4) (
  .esc (.ret [(.agg [(.cell 5 0), (.cell 5 1), (.cell 5 2), (.cell 5 3)])]))))))
  (.jump []))) (
.chk (.cells (.x 0) 4) (
.chk (.cells (.x 0) 4) (
.chk (.one (.c .nils)) (
.bind 1 (
 .op (.lenL (.cell 0 3)) (
 .loop [(.c (.sl [])), (.c (.v (.int .i64 0)))] (
  .op (.bin .lss (.x 5) (.x 3)) (
  .ite (.x 6)
   (.op (.elem 4 (.cell 0 3) (.x 5)) (
   .chk (.cells (.x 7) 4) (
   .chk (.cells (.x 7) 4) (
   .chk (.cells (.x 7) 4) (
   .op (.call F.impl_put [(.x 7), (.x 1), (.x 2)] false) (
   .chk (.cells (.x 8) 4) (
   .op (.mkl (.agg [(.v (.int .i64 0)), (.v (.int .i64 0)), (.v (.string ⟨#[]⟩)), .nils]) 1 [(0, (.x 8))]) (
   .op (.app 4 56 (.x 4) (.sl (.x 9))) (
   .op (.bin .add (.x 5) (.c (.v (.int .i64 1)))) (
   .jump [(.x 10), (.x 11)]))))))))))
   (.esc (.jump [(.x 4)])))))) (
.chk (.one (.cell 0 0)) (
.chk (.one (.cell 0 1)) (
.chk (.one (.cell 0 2)) (
.ret [(.agg [(.cell 0 0), (.cell 0 1), (.cell 0 2), (.sl (.x 3))])])))))))))

theorem T.impl_put_l : leftF Try.prog [] FL Try.f121 = some (3, T.impl_put) := by kernel_rfl

theorem T.impl_put_con {args : List AV} {res : AV} (hl : args.length = 3) (hn : AV.norefs args = true) (hw : wpT Try.prog (fun _ _ _ => False) (fun a => a = res) T.impl_put args []) : PCon Try.prog F.impl_put args res :=
  con_auto Try.func121 T.impl_put_l hl hn hw

-- laws_markText: code not covered
def T.laws_heldTyS : T :=
.bind 1 (
 .loop [(.x 1), (.c (.v (.int .i64 0)))] (
  .op (.lenL (.x 0)) (
  .op (.bin .lss (.x 3) (.x 4)) (
  .ite (.x 5)
   (.op (.elem 4 (.x 0) (.x 3)) (
   .chk (.lt (.x 6) 0) (
   .op (.bin .neq (.cell 6 0) (.x 2)) (
   .ite (.x 7)
    (.esc (.esc (.ret [(.c (.v (.int .i64 (-1))))])))
    (.op (.bin .add (.x 2) (.c (.v (.int .i64 1)))) (
    .op (.elem 4 (.x 0) (.x 3)) (
    .chk (.lt (.x 9) 1) (
    .op (.bin .neq (.cell 9 1) (.x 8)) (
    .ite (.x 10)
     (.esc (.esc (.ret [(.c (.v (.int .i64 (-1))))])))
     (.op (.bin .add (.x 8) (.c (.v (.int .i64 1)))) (
     .op (.elem 4 (.x 0) (.x 3)) (
     .chk (.lt (.x 12) 2) (
     .op (.call F.laws_markText [(.x 11)] false) (
     .op (.bin .neq (.cell 12 2) (.x 13)) (
     .ite (.x 14)
      (.esc (.esc (.ret [(.c (.v (.int .i64 (-1))))])))
      (.op (.bin .add (.x 11) (.c (.v (.int .i64 1)))) (
      .op (.elem 4 (.x 0) (.x 3)) (
      .chk (.lt (.x 16) 3) (
      .op (.call F.laws_heldTyS [(.cell 16 3), (.x 15)] false) (
      .op (.bin .lss (.x 17) (.c (.v (.int .i64 0)))) (
      .ite (.x 18)
       (.esc (.esc (.ret [(.c (.v (.int .i64 (-1))))])))
       (.op (.bin .add (.x 3) (.c (.v (.int .i64 1)))) (
       .jump [(.x 17), (.x 19)])))))))))))))))))))))))
   (.esc (.jump [(.x 2)])))))) (
.ret [(.x 2)])

theorem T.laws_heldTyS_l : leftF Try.prog [] FL Try.f123 = some (2, T.laws_heldTyS) := by kernel_rfl

theorem T.laws_heldTyS_con {args : List AV} {res : AV} (hl : args.length = 2) (hn : AV.norefs args = true) (hw : wpT Try.prog (fun _ _ _ => False) (fun a => a = res) T.laws_heldTyS args []) : PCon Try.prog F.laws_heldTyS args res :=
  con_auto Try.func123 T.laws_heldTyS_l hl hn hw

def T.spec_l7Small : T :=
.chk (.cells (.x 0) 4) (
.chk (.cells (.x 0) 4) (
.chk (.cells (.x 0) 4) (
.bind 1 (
 .op (.bin .eql (.cell 0 0) (.c (.v (.int .i64 9)))) (
 .ite (.x 2)
  (.loop [(.cell 0 1), (.c (.v (.int .i64 0)))] (
   .op (.lenL (.x 1)) (
   .op (.bin .lss (.x 4) (.x 5)) (
   .ite (.x 6)
    (.bind 1 (
     .op (.elem 1 (.x 1) (.x 4)) (
     .chk (.lt (.x 7) 0) (
     .op (.bin .eql (.cell 7 0) (.cell 0 1)) (
     .ite (.x 8)
      (.chk (.one (.x 4)) (
      .jump [(.x 4)]))
      (.jump [(.x 3)]))))) (
    .op (.bin .add (.x 4) (.c (.v (.int .i64 1)))) (
    .jump [(.x 7), (.x 8)])))
    (.esc (.jump [(.x 3)]))))))
  (.jump [(.cell 0 1)]))) (
.op (.mkl (.agg [(.v (.int .i64 0)), (.v (.int .i64 0)), (.v (.string ⟨#[]⟩)), .nils]) 0 []) (
.bind 1 (
 .loop [(.x 3), (.c (.v (.int .i64 0)))] (
  .op (.lenL (.cell 0 3)) (
  .op (.bin .lss (.x 5) (.x 6)) (
  .ite (.x 7)
   (.op (.elem 4 (.cell 0 3) (.x 5)) (
   .chk (.cells (.x 8) 4) (
   .op (.call F.spec_l7Small [(.x 8), (.x 1)] false) (
   .chk (.cells (.x 9) 4) (
   .op (.mkl (.agg [(.v (.int .i64 0)), (.v (.int .i64 0)), (.v (.string ⟨#[]⟩)), .nils]) 1 [(0, (.x 9))]) (
   .op (.app 4 56 (.x 4) (.sl (.x 10))) (
   .op (.bin .add (.x 5) (.c (.v (.int .i64 1)))) (
   .jump [(.x 11), (.x 12)]))))))))
   (.esc (.jump [(.x 4)])))))) (
.chk (.one (.cell 0 0)) (
.chk (.one (.x 2)) (
.chk (.one (.cell 0 2)) (
.ret [(.agg [(.cell 0 0), (.x 2), (.cell 0 2), (.sl (.x 4))])])))))))))

theorem T.spec_l7Small_l : leftF Try.prog [] FL Try.f124 = some (2, T.spec_l7Small) := by kernel_rfl

theorem T.spec_l7Small_con {args : List AV} {res : AV} (hl : args.length = 2) (hn : AV.norefs args = true) (hw : wpT Try.prog (fun _ _ _ => False) (fun a => a = res) T.spec_l7Small args []) : PCon Try.prog F.spec_l7Small args res :=
  con_auto Try.func124 T.spec_l7Small_l hl hn hw

-- spec_l7Fits: no walk
-- impl_puts: code not covered
def T.laws_szCoreS : T :=
.op (.lenL (.x 0)) (
.op (.bin .sub (.x 1) (.x 2)) (
.op (.bin .lss (.x 3) (.c (.v (.int .i64 0)))) (
.ite (.x 4)
 (.ret [(.c (.v (.int .i64 (-1))))])
 (.bind 1 (
  .loop [(.x 3), (.c (.v (.int .i64 0)))] (
   .op (.lenL (.x 0)) (
   .op (.bin .lss (.x 6) (.x 7)) (
   .ite (.x 8)
    (.op (.elem 12 (.x 0) (.x 6)) (
    .chk (.cells (.x 9) 12) (
    .op (.call F.laws_szCore [(.x 9), (.x 5)] false) (
    .op (.bin .lss (.x 10) (.c (.v (.int .i64 0)))) (
    .ite (.x 11)
     (.esc (.esc (.ret [(.c (.v (.int .i64 (-1))))])))
     (.op (.bin .add (.x 6) (.c (.v (.int .i64 1)))) (
     .jump [(.x 10), (.x 12)])))))))
    (.esc (.jump [(.x 5)])))))) (
 .ret [(.x 5)])))))

theorem T.laws_szCoreS_l : leftF Try.prog [] FL Try.f127 = some (2, T.laws_szCoreS) := by kernel_rfl

theorem T.laws_szCoreS_con {args : List AV} {res : AV} (hl : args.length = 2) (hn : AV.norefs args = true) (hw : wpT Try.prog (fun _ _ _ => False) (fun a => a = res) T.laws_szCoreS args []) : PCon Try.prog F.laws_szCoreS args res :=
  con_auto Try.func127 T.laws_szCoreS_l hl hn hw

def T.laws_szCArmS : T :=
.op (.lenL (.x 0)) (
.op (.bin .sub (.x 1) (.x 2)) (
.op (.bin .lss (.x 3) (.c (.v (.int .i64 0)))) (
.ite (.x 4)
 (.ret [(.c (.v (.int .i64 (-1))))])
 (.bind 1 (
  .loop [(.x 3), (.c (.v (.int .i64 0)))] (
   .op (.lenL (.x 0)) (
   .op (.bin .lss (.x 6) (.x 7)) (
   .ite (.x 8)
    (.op (.elem 20 (.x 0) (.x 6)) (
    .chk (.cells (.x 9) 20) (
    .op (.call F.laws_szCArm [(.x 9), (.x 5)] false) (
    .op (.bin .lss (.x 10) (.c (.v (.int .i64 0)))) (
    .ite (.x 11)
     (.esc (.esc (.ret [(.c (.v (.int .i64 (-1))))])))
     (.op (.bin .add (.x 6) (.c (.v (.int .i64 1)))) (
     .jump [(.x 10), (.x 12)])))))))
    (.esc (.jump [(.x 5)])))))) (
 .ret [(.x 5)])))))

theorem T.laws_szCArmS_l : leftF Try.prog [] FL Try.f128 = some (2, T.laws_szCArmS) := by kernel_rfl

theorem T.laws_szCArmS_con {args : List AV} {res : AV} (hl : args.length = 2) (hn : AV.norefs args = true) (hw : wpT Try.prog (fun _ _ _ => False) (fun a => a = res) T.laws_szCArmS args []) : PCon Try.prog F.laws_szCArmS args res :=
  con_auto Try.func128 T.laws_szCArmS_l hl hn hw

def T.spec_l7PatSize : T :=
.chk (.cells (.x 0) 8) (
.bind 1 (
 .loop [(.c (.v (.int .i64 1))), (.c (.v (.int .i64 0)))] (
  .op (.lenL (.cell 0 7)) (
  .op (.bin .lss (.x 2) (.x 3)) (
  .ite (.x 4)
   (.op (.elem 8 (.cell 0 7) (.x 2)) (
   .chk (.cells (.x 5) 8) (
   .op (.call F.spec_l7PatSize [(.x 5)] false) (
   .op (.bin .add (.x 1) (.x 6)) (
   .op (.bin .add (.x 2) (.c (.v (.int .i64 1)))) (
   .jump [(.x 7), (.x 8)]))))))
   (.esc (.jump [(.x 1)])))))) (
.ret [(.x 1)]))

theorem T.spec_l7PatSize_l : leftF Try.prog [] FL Try.f129 = some (1, T.spec_l7PatSize) := by kernel_rfl

theorem T.spec_l7PatSize_con {args : List AV} {res : AV} (hl : args.length = 1) (hn : AV.norefs args = true) (hw : wpT Try.prog (fun _ _ _ => False) (fun a => a = res) T.spec_l7PatSize args []) : PCon Try.prog F.spec_l7PatSize args res :=
  con_auto Try.func129 T.spec_l7PatSize_l hl hn hw

def T.laws_toCoreS : T :=
.op (.lenL (.x 0)) (
.op (.rep 184 (.agg [(.v (.int .i64 0)), (.v (.int .i64 0)), (.v (.int .i64 0)), (.v (.string ⟨#[]⟩)), (.v (.string ⟨#[]⟩)), (.v (.int .i64 0)), (.v (.int .i64 0)), (.v (.string ⟨#[]⟩)), .nils, .nils, .nils, .nils]) (.x 1) (.x 1)) (
.bind 1 (
 .loop [(.x 2), (.c (.v (.int .i64 0)))] (
  .op (.lenL (.x 0)) (
  .op (.bin .lss (.x 4) (.x 5)) (
  .ite (.x 6)
   (.op (.elem 12 (.x 0) (.x 4)) (
   .chk (.cells (.x 7) 12) (
   .op (.call F.laws_toCore [(.x 7)] false) (
   .chk (.idx (.x 3) (.x 4)) (
   .chk (.cells (.x 8) 12) (
   .op (.set (.x 3) (.x 4) 0 12 (.x 8)) (
   .op (.bin .add (.x 4) (.c (.v (.int .i64 1)))) (
   .jump [(.x 9), (.x 10)]))))))))
   (.esc (.jump [(.x 3)])))))) (
.ret [(.sl (.x 3))])))

theorem T.laws_toCoreS_l : leftF Try.prog [] FL Try.f130 = some (1, T.laws_toCoreS) := by kernel_rfl

theorem T.laws_toCoreS_con {args : List AV} {res : AV} (hl : args.length = 1) (hn : AV.norefs args = true) (hw : wpT Try.prog (fun _ _ _ => False) (fun a => a = res) T.laws_toCoreS args []) : PCon Try.prog F.laws_toCoreS args res :=
  con_auto Try.func130 T.laws_toCoreS_l hl hn hw

def T.laws_toCArmS : T :=
.op (.lenL (.x 0)) (
.op (.rep 296 (.agg [(.v (.int .i64 0)), (.v (.int .i64 0)), (.v (.string ⟨#[]⟩)), (.v (.int .i64 0)), (.v (.int .i64 0)), (.v (.string ⟨#[]⟩)), .nils, .nils, (.v (.int .i64 0)), (.v (.int .i64 0)), (.v (.int .i64 0)), (.v (.string ⟨#[]⟩)), (.v (.string ⟨#[]⟩)), (.v (.int .i64 0)), (.v (.int .i64 0)), (.v (.string ⟨#[]⟩)), .nils, .nils, .nils, .nils]) (.x 1) (.x 1)) (
.bind 1 (
 .loop [(.x 2), (.c (.v (.int .i64 0)))] (
  .op (.lenL (.x 0)) (
  .op (.bin .lss (.x 4) (.x 5)) (
  .ite (.x 6)
   (.op (.elem 20 (.x 0) (.x 4)) (
   .chk (.cells (.x 7) 20) (
   .op (.call F.laws_toCArm [(.x 7)] false) (
   .chk (.idx (.x 3) (.x 4)) (
   .chk (.cells (.x 8) 20) (
   .op (.set (.x 3) (.x 4) 0 20 (.x 8)) (
   .op (.bin .add (.x 4) (.c (.v (.int .i64 1)))) (
   .jump [(.x 9), (.x 10)]))))))))
   (.esc (.jump [(.x 3)])))))) (
.ret [(.sl (.x 3))])))

theorem T.laws_toCArmS_l : leftF Try.prog [] FL Try.f131 = some (1, T.laws_toCArmS) := by kernel_rfl

theorem T.laws_toCArmS_con {args : List AV} {res : AV} (hl : args.length = 1) (hn : AV.norefs args = true) (hw : wpT Try.prog (fun _ _ _ => False) (fun a => a = res) T.laws_toCArmS args []) : PCon Try.prog F.laws_toCArmS args res :=
  con_auto Try.func131 T.laws_toCArmS_l hl hn hw

def T.impl_cpatSize : T :=
.chk (.cells (.x 0) 8) (
.bind 1 (
 .op (.lenL (.cell 0 7)) (
 .loop [(.c (.v (.int .i64 1))), (.c (.v (.int .i64 0)))] (
  .op (.bin .lss (.x 3) (.x 1)) (
  .ite (.x 4)
   (.op (.elem 8 (.cell 0 7) (.x 3)) (
   .chk (.cells (.x 5) 8) (
   .chk (.cells (.x 5) 8) (
   .chk (.cells (.x 5) 8) (
   .op (.call F.impl_cpatSize [(.x 5)] false) (
   .op (.bin .add (.x 2) (.x 6)) (
   .op (.bin .add (.x 3) (.c (.v (.int .i64 1)))) (
   .jump [(.x 7), (.x 8)]))))))))
   (.esc (.jump [(.x 2)])))))) (
.ret [(.x 1)]))

theorem T.impl_cpatSize_l : leftF Try.prog [] FL Try.f132 = some (1, T.impl_cpatSize) := by kernel_rfl

theorem T.impl_cpatSize_con {args : List AV} {res : AV} (hl : args.length = 1) (hn : AV.norefs args = true) (hw : wpT Try.prog (fun _ _ _ => False) (fun a => a = res) T.impl_cpatSize args []) : PCon Try.prog F.impl_cpatSize args res :=
  con_auto Try.func132 T.impl_cpatSize_l hl hn hw

def T.laws_eqCoreS : T :=
.op (.lenL (.x 0)) (
.op (.lenL (.x 1)) (
.op (.bin .neq (.x 2) (.x 3)) (
.ite (.x 4)
 (.ret [(.c (.v (.bool false)))])
 (.bind 0 (
  .loop [(.c (.v (.int .i64 0)))] (
   .op (.lenL (.x 0)) (
   .op (.bin .lss (.x 5) (.x 6)) (
   .ite (.x 7)
    (.op (.elem 12 (.x 0) (.x 5)) (
    .chk (.cells (.x 8) 12) (
    .op (.elem 12 (.x 1) (.x 5)) (
    .chk (.cells (.x 9) 12) (
    .op (.call F.laws_eqCore [(.x 8), (.x 9)] false) (
    .op (.un .not (.x 10)) (
    .ite (.x 11)
     (.esc (.esc (.ret [(.c (.v (.bool false)))])))
     (.op (.bin .add (.x 5) (.c (.v (.int .i64 1)))) (
     .jump [(.x 12)])))))))))
    (.esc (.jump [])))))) (
 .ret [(.c (.v (.bool true)))])))))

theorem T.laws_eqCoreS_l : leftF Try.prog [] FL Try.f133 = some (2, T.laws_eqCoreS) := by kernel_rfl

theorem T.laws_eqCoreS_con {args : List AV} {res : AV} (hl : args.length = 2) (hn : AV.norefs args = true) (hw : wpT Try.prog (fun _ _ _ => False) (fun a => a = res) T.laws_eqCoreS args []) : PCon Try.prog F.laws_eqCoreS args res :=
  con_auto Try.func133 T.laws_eqCoreS_l hl hn hw

def T.laws_eqCArmS : T :=
.op (.lenL (.x 0)) (
.op (.lenL (.x 1)) (
.op (.bin .neq (.x 2) (.x 3)) (
.ite (.x 4)
 (.ret [(.c (.v (.bool false)))])
 (.bind 0 (
  .loop [(.c (.v (.int .i64 0)))] (
   .op (.lenL (.x 0)) (
   .op (.bin .lss (.x 5) (.x 6)) (
   .ite (.x 7)
    (.op (.elem 20 (.x 0) (.x 5)) (
    .chk (.cells (.x 8) 20) (
    .op (.elem 20 (.x 1) (.x 5)) (
    .chk (.cells (.x 9) 20) (
    .op (.call F.laws_eqCArm [(.x 8), (.x 9)] false) (
    .op (.un .not (.x 10)) (
    .ite (.x 11)
     (.esc (.esc (.ret [(.c (.v (.bool false)))])))
     (.op (.bin .add (.x 5) (.c (.v (.int .i64 1)))) (
     .jump [(.x 12)])))))))))
    (.esc (.jump [])))))) (
 .ret [(.c (.v (.bool true)))])))))

theorem T.laws_eqCArmS_l : leftF Try.prog [] FL Try.f134 = some (2, T.laws_eqCArmS) := by kernel_rfl

theorem T.laws_eqCArmS_con {args : List AV} {res : AV} (hl : args.length = 2) (hn : AV.norefs args = true) (hw : wpT Try.prog (fun _ _ _ => False) (fun a => a = res) T.laws_eqCArmS args []) : PCon Try.prog F.laws_eqCArmS args res :=
  con_auto Try.func134 T.laws_eqCArmS_l hl hn hw

def T.slices_ContainsFunc__impl_Core_impl_Core : T :=
.op (.call F.slices_IndexFunc__impl_Core_impl_Core [(.x 0), (.x 1)] false) (
.op (.bin .geq (.x 2) (.c (.v (.int .i64 0)))) (
.ret [(.x 3)]))

theorem T.slices_ContainsFunc__impl_Core_impl_Core_l : leftF Try.prog [] FL Try.f135 = some (2, T.slices_ContainsFunc__impl_Core_impl_Core) := by kernel_rfl

theorem T.slices_ContainsFunc__impl_Core_impl_Core_con {args : List AV} {res : AV} (hl : args.length = 2) (hn : AV.norefs args = true) (hw : wpT Try.prog (fun _ _ _ => False) (fun a => a = res) T.slices_ContainsFunc__impl_Core_impl_Core args []) : PCon Try.prog F.slices_ContainsFunc__impl_Core_impl_Core args res :=
  con_auto Try.func135 T.slices_ContainsFunc__impl_Core_impl_Core_l hl hn hw

def T.impl_CoreValue_1 : T :=
.chk (.cells (.x 0) 12) (
.chk (.cells (.x 0) 12) (
.op (.call F.impl_CoreValue [(.x 0)] false) (
.op (.un .not (.x 1)) (
.ret [(.x 2)]))))

theorem T.impl_CoreValue_1_l : leftF Try.prog [] FL Try.f136 = some (1, T.impl_CoreValue_1) := by kernel_rfl

theorem T.impl_CoreValue_1_con {args : List AV} {res : AV} (hl : args.length = 1) (hn : AV.norefs args = true) (hw : wpT Try.prog (fun _ _ _ => False) (fun a => a = res) T.impl_CoreValue_1 args []) : PCon Try.prog F.impl_CoreValue_1 args res :=
  con_auto Try.func136 T.impl_CoreValue_1_l hl hn hw

def T.spec_l1Upper : T :=
.op (.call F.spec_l1In [(.x 0), (.c (.v (.int .i64 65))), (.c (.v (.int .i64 90)))] false) (
.ret [(.x 1)])

theorem T.spec_l1Upper_l : leftF Try.prog [] FL Try.f137 = some (1, T.spec_l1Upper) := by kernel_rfl

theorem T.spec_l1Upper_con {args : List AV} {res : AV} (hl : args.length = 1) (hn : AV.norefs args = true) (hw : wpT Try.prog (fun _ _ _ => False) (fun a => a = res) T.spec_l1Upper args []) : PCon Try.prog F.spec_l1Upper args res :=
  con_auto Try.func137 T.spec_l1Upper_l hl hn hw

def T.spec_l1Lower : T :=
.op (.call F.spec_l1In [(.x 0), (.c (.v (.int .i64 97))), (.c (.v (.int .i64 122)))] false) (
.ret [(.x 1)])

theorem T.spec_l1Lower_l : leftF Try.prog [] FL Try.f138 = some (1, T.spec_l1Lower) := by kernel_rfl

theorem T.spec_l1Lower_con {args : List AV} {res : AV} (hl : args.length = 1) (hn : AV.norefs args = true) (hw : wpT Try.prog (fun _ _ _ => False) (fun a => a = res) T.spec_l1Lower args []) : PCon Try.prog F.spec_l1Lower args res :=
  con_auto Try.func138 T.spec_l1Lower_l hl hn hw

def T.spec_l1NameByte : T :=
.bind 1 (
 .op (.call F.spec_l1Lower [(.x 0)] false) (
 .ite (.x 1)
  (.jump [(.c (.v (.bool true)))])
  (.op (.call F.spec_l1Upper [(.x 0)] false) (
  .ite (.x 2)
   (.jump [(.c (.v (.bool true)))])
   (.op (.call F.spec_l1Num [(.x 0)] false) (
   .ite (.x 3)
    (.jump [(.c (.v (.bool true)))])
    (.op (.bin .eql (.x 0) (.c (.v (.int .i64 95)))) (
    .jump [(.x 4)])))))))) (
.ret [(.x 1)])

theorem T.spec_l1NameByte_l : leftF Try.prog [] FL Try.f139 = some (1, T.spec_l1NameByte) := by kernel_rfl

theorem T.spec_l1NameByte_con {args : List AV} {res : AV} (hl : args.length = 1) (hn : AV.norefs args = true) (hw : wpT Try.prog (fun _ _ _ => False) (fun a => a = res) T.spec_l1NameByte args []) : PCon Try.prog F.spec_l1NameByte args res :=
  con_auto Try.func139 T.spec_l1NameByte_l hl hn hw

def T.spec_l1Signs : T :=
.chk (.one (.c (.v (.string ⟨#[45, 62]⟩)))) (
.chk (.one (.c (.v (.string ⟨#[58, 61]⟩)))) (
.chk (.one (.c (.v (.string ⟨#[61]⟩)))) (
.chk (.one (.c (.v (.string ⟨#[60]⟩)))) (
.chk (.one (.c (.v (.string ⟨#[43]⟩)))) (
.chk (.one (.c (.v (.string ⟨#[45]⟩)))) (
.chk (.one (.c (.v (.string ⟨#[42]⟩)))) (
.chk (.one (.c (.v (.string ⟨#[94]⟩)))) (
.chk (.one (.c (.v (.string ⟨#[59]⟩)))) (
.chk (.one (.c (.v (.string ⟨#[124]⟩)))) (
.chk (.one (.c (.v (.string ⟨#[40]⟩)))) (
.chk (.one (.c (.v (.string ⟨#[41]⟩)))) (
.chk (.one (.c (.v (.string ⟨#[44]⟩)))) (
.chk (.one (.c (.v (.string ⟨#[95]⟩)))) (
.chk (.one (.c (.v (.string ⟨#[33]⟩)))) (
.op (.mkl (.v (.string ⟨#[]⟩)) 15 [(0, (.c (.v (.string ⟨#[45, 62]⟩)))), (1, (.c (.v (.string ⟨#[58, 61]⟩)))), (2, (.c (.v (.string ⟨#[61]⟩)))), (3, (.c (.v (.string ⟨#[60]⟩)))), (4, (.c (.v (.string ⟨#[43]⟩)))), (5, (.c (.v (.string ⟨#[45]⟩)))), (6, (.c (.v (.string ⟨#[42]⟩)))), (7, (.c (.v (.string ⟨#[94]⟩)))), (8, (.c (.v (.string ⟨#[59]⟩)))), (9, (.c (.v (.string ⟨#[124]⟩)))), (10, (.c (.v (.string ⟨#[40]⟩)))), (11, (.c (.v (.string ⟨#[41]⟩)))), (12, (.c (.v (.string ⟨#[44]⟩)))), (13, (.c (.v (.string ⟨#[95]⟩)))), (14, (.c (.v (.string ⟨#[33]⟩))))]) (
.ret [(.sl (.x 0))]))))))))))))))))

theorem T.spec_l1Signs_l : leftF Try.prog [] FL Try.f140 = some (0, T.spec_l1Signs) := by kernel_rfl

theorem T.spec_l1Signs_con {args : List AV} {res : AV} (hl : args.length = 0) (hn : AV.norefs args = true) (hw : wpT Try.prog (fun _ _ _ => False) (fun a => a = res) T.spec_l1Signs args []) : PCon Try.prog F.spec_l1Signs args res :=
  con_auto Try.func140 T.spec_l1Signs_l hl hn hw

def T.impl_great : T :=
.bind 1 (
 .op (.bin .geq (.x 0) (.c (.v (.int .u8 65)))) (
 .ite (.x 1)
  (.op (.bin .leq (.x 0) (.c (.v (.int .u8 90)))) (
  .jump [(.x 2)]))
  (.jump [(.c (.v (.bool false)))]))) (
.ret [(.x 1)])

theorem T.impl_great_l : leftF Try.prog [] FL Try.f141 = some (1, T.impl_great) := by kernel_rfl

theorem T.impl_great_con {args : List AV} {res : AV} (hl : args.length = 1) (hn : AV.norefs args = true) (hw : wpT Try.prog (fun _ _ _ => False) (fun a => a = res) T.impl_great args []) : PCon Try.prog F.impl_great args res :=
  con_auto Try.func141 T.impl_great_l hl hn hw

def T.impl_run : T :=
.bind 1 (
 .loop [(.x 1)] (
  .bind 0 (
   .bind 1 (
    .op (.lenS (.x 0)) (
    .op (.bin .lss (.x 3) (.x 4)) (
    .ite (.x 5)
     (.op (.idxS (.x 0) (.x 3)) (
     .op (.callv (.x 2) [(.x 6)] false) (
     .jump [(.x 7)])))
     (.jump [(.c (.v (.bool false)))])))) (
   .ite (.x 4)
    (.jump [])
    (.esc (.esc (.jump [(.x 3)]))))) (
  .op (.bin .add (.x 3) (.c (.v (.int .i64 1)))) (
  .jump [(.x 4)])))) (
.ret [(.x 3)])

theorem T.impl_run_l : leftF Try.prog [] FL Try.f142 = some (3, T.impl_run) := by kernel_rfl

theorem T.impl_run_con {args : List AV} {res : AV} (hl : args.length = 3) (hn : AV.norefs args = true) (hw : wpT Try.prog (fun _ _ _ => False) (fun a => a = res) T.impl_run args []) : PCon Try.prog F.impl_run args res :=
  con_auto Try.func142 T.impl_run_l hl hn hw

def T.impl_nameByte : T :=
.bind 1 (
 .op (.call F.impl_small [(.x 0)] false) (
 .ite (.x 1)
  (.jump [(.c (.v (.bool true)))])
  (.op (.call F.impl_great [(.x 0)] false) (
  .ite (.x 2)
   (.jump [(.c (.v (.bool true)))])
   (.op (.call F.impl_digit [(.x 0)] false) (
   .ite (.x 3)
    (.jump [(.c (.v (.bool true)))])
    (.op (.bin .eql (.x 0) (.c (.v (.int .u8 95)))) (
    .jump [(.x 4)])))))))) (
.ret [(.x 1)])

theorem T.impl_nameByte_l : leftF Try.prog [] FL Try.f143 = some (1, T.impl_nameByte) := by kernel_rfl

theorem T.impl_nameByte_con {args : List AV} {res : AV} (hl : args.length = 1) (hn : AV.norefs args = true) (hw : wpT Try.prog (fun _ _ _ => False) (fun a => a = res) T.impl_nameByte args []) : PCon Try.prog F.impl_nameByte args res :=
  con_auto Try.func143 T.impl_nameByte_l hl hn hw

def T.slices_Index__string_string : T :=
.bind 0 (
 .op (.lenL (.x 0)) (
 .loop [(.c (.v (.int .i64 0)))] (
  .op (.bin .lss (.x 3) (.x 2)) (
  .ite (.x 4)
   (.op (.elem 1 (.x 0) (.x 3)) (
   .chk (.lt (.x 5) 0) (
   .op (.bin .eql (.x 1) (.cell 5 0)) (
   .ite (.x 6)
    (.esc (.esc (.ret [(.x 3)])))
    (.op (.bin .add (.x 3) (.c (.v (.int .i64 1)))) (
    .jump [(.x 7)]))))))
   (.esc (.jump [])))))) (
.ret [(.c (.v (.int .i64 (-1))))])

theorem T.slices_Index__string_string_l : leftF Try.prog [] FL Try.f144 = some (2, T.slices_Index__string_string) := by kernel_rfl

theorem T.slices_Index__string_string_con {args : List AV} {res : AV} (hl : args.length = 2) (hn : AV.norefs args = true) (hw : wpT Try.prog (fun _ _ _ => False) (fun a => a = res) T.slices_Index__string_string args []) : PCon Try.prog F.slices_Index__string_string args res :=
  con_auto Try.func144 T.slices_Index__string_string_l hl hn hw

def T.laws_szInstr : T :=
.chk (.cells (.x 0) 6) (
.op (.lenS (.cell 0 5)) (
.op (.bin .sub (.x 1) (.x 2)) (
.op (.bin .lss (.x 3) (.c (.v (.int .i64 0)))) (
.ite (.x 4)
 (.ret [(.c (.v (.int .i64 (-1))))])
 (.ret [(.x 3)])))))

theorem T.laws_szInstr_l : leftF Try.prog [] FL Try.f145 = some (2, T.laws_szInstr) := by kernel_rfl

theorem T.laws_szInstr_con {args : List AV} {res : AV} (hl : args.length = 2) (hn : AV.norefs args = true) (hw : wpT Try.prog (fun _ _ _ => False) (fun a => a = res) T.laws_szInstr args []) : PCon Try.prog F.laws_szInstr args res :=
  con_auto Try.func145 T.laws_szInstr_l hl hn hw

def T.laws_toInstr : T :=
.chk (.cells (.x 0) 6) (
.chk (.one (.cell 0 0)) (
.chk (.one (.cell 0 1)) (
.chk (.one (.cell 0 2)) (
.chk (.one (.cell 0 3)) (
.chk (.one (.cell 0 4)) (
.chk (.one (.cell 0 5)) (
.chk (.cells (.x 0) 6) (
.chk (.cells (.x 0) 6) (
.ret [(.agg [(.cell 0 0), (.cell 0 1), (.cell 0 2), (.cell 0 3), (.cell 0 4), (.cell 0 5)])])))))))))

theorem T.laws_toInstr_l : leftF Try.prog [] FL Try.f146 = some (1, T.laws_toInstr) := by kernel_rfl

theorem T.laws_toInstr_con {args : List AV} {res : AV} (hl : args.length = 1) (hn : AV.norefs args = true) (hw : wpT Try.prog (fun _ _ _ => False) (fun a => a = res) T.laws_toInstr args []) : PCon Try.prog F.laws_toInstr args res :=
  con_auto Try.func146 T.laws_toInstr_l hl hn hw

def T.laws_eqInstr : T :=
.chk (.cells (.x 0) 6) (
.chk (.cells (.x 1) 6) (
.op (.bin .neq (.cell 0 0) (.cell 1 0)) (
.ite (.x 2)
 (.ret [(.c (.v (.bool false)))])
 (.op (.bin .neq (.cell 0 1) (.cell 1 1)) (
 .ite (.x 3)
  (.ret [(.c (.v (.bool false)))])
  (.op (.bin .neq (.cell 0 2) (.cell 1 2)) (
  .ite (.x 4)
   (.ret [(.c (.v (.bool false)))])
   (.op (.bin .neq (.cell 0 3) (.cell 1 3)) (
   .ite (.x 5)
    (.ret [(.c (.v (.bool false)))])
    (.op (.bin .neq (.cell 0 4) (.cell 1 4)) (
    .ite (.x 6)
     (.ret [(.c (.v (.bool false)))])
     (.op (.bin .neq (.cell 0 5) (.cell 1 5)) (
     .ite (.x 7)
      (.ret [(.c (.v (.bool false)))])
      (.ret [(.c (.v (.bool true)))]))))))))))))))

theorem T.laws_eqInstr_l : leftF Try.prog [] FL Try.f147 = some (2, T.laws_eqInstr) := by kernel_rfl

theorem T.laws_eqInstr_con {args : List AV} {res : AV} (hl : args.length = 2) (hn : AV.norefs args = true) (hw : wpT Try.prog (fun _ _ _ => False) (fun a => a = res) T.laws_eqInstr args []) : PCon Try.prog F.laws_eqInstr args res :=
  con_auto Try.func147 T.laws_eqInstr_l hl hn hw

def T.slices_IndexFunc__impl_Ty_impl_Ty : T :=
.bind 0 (
 .op (.lenL (.x 0)) (
 .loop [(.c (.v (.int .i64 0)))] (
  .op (.bin .lss (.x 3) (.x 2)) (
  .ite (.x 4)
   (.op (.elem 4 (.x 0) (.x 3)) (
   .chk (.cells (.x 5) 4) (
   .op (.callv (.x 1) [(.x 5)] false) (
   .ite (.x 6)
    (.esc (.esc (.ret [(.x 3)])))
    (.op (.bin .add (.x 3) (.c (.v (.int .i64 1)))) (
    .jump [(.x 7)]))))))
   (.esc (.jump [])))))) (
.ret [(.c (.v (.int .i64 (-1))))])

theorem T.slices_IndexFunc__impl_Ty_impl_Ty_l : leftF Try.prog [] FL Try.f148 = some (2, T.slices_IndexFunc__impl_Ty_impl_Ty) := by kernel_rfl

theorem T.slices_IndexFunc__impl_Ty_impl_Ty_con {args : List AV} {res : AV} (hl : args.length = 2) (hn : AV.norefs args = true) (hw : wpT Try.prog (fun _ _ _ => False) (fun a => a = res) T.slices_IndexFunc__impl_Ty_impl_Ty args []) : PCon Try.prog F.slices_IndexFunc__impl_Ty_impl_Ty args res :=
  con_auto Try.func148 T.slices_IndexFunc__impl_Ty_impl_Ty_l hl hn hw

def T.laws_szCtorInfoS : T :=
.op (.lenL (.x 0)) (
.op (.bin .sub (.x 1) (.x 2)) (
.op (.bin .lss (.x 3) (.c (.v (.int .i64 0)))) (
.ite (.x 4)
 (.ret [(.c (.v (.int .i64 (-1))))])
 (.bind 1 (
  .loop [(.x 3), (.c (.v (.int .i64 0)))] (
   .op (.lenL (.x 0)) (
   .op (.bin .lss (.x 6) (.x 7)) (
   .ite (.x 8)
    (.op (.elem 6 (.x 0) (.x 6)) (
    .chk (.cells (.x 9) 6) (
    .op (.call F.laws_szCtorInfo [(.x 9), (.x 5)] false) (
    .op (.bin .lss (.x 10) (.c (.v (.int .i64 0)))) (
    .ite (.x 11)
     (.esc (.esc (.ret [(.c (.v (.int .i64 (-1))))])))
     (.op (.bin .add (.x 6) (.c (.v (.int .i64 1)))) (
     .jump [(.x 10), (.x 12)])))))))
    (.esc (.jump [(.x 5)])))))) (
 .ret [(.x 5)])))))

theorem T.laws_szCtorInfoS_l : leftF Try.prog [] FL Try.f149 = some (2, T.laws_szCtorInfoS) := by kernel_rfl

theorem T.laws_szCtorInfoS_con {args : List AV} {res : AV} (hl : args.length = 2) (hn : AV.norefs args = true) (hw : wpT Try.prog (fun _ _ _ => False) (fun a => a = res) T.laws_szCtorInfoS args []) : PCon Try.prog F.laws_szCtorInfoS args res :=
  con_auto Try.func149 T.laws_szCtorInfoS_l hl hn hw

def T.laws_toCtorInfoS : T :=
.op (.lenL (.x 0)) (
.op (.rep 80 (.agg [(.v (.string ⟨#[]⟩)), (.v (.bool false)), (.v (.int .i64 0)), (.v (.int .i64 0)), (.v (.string ⟨#[]⟩)), .nils]) (.x 1) (.x 1)) (
.bind 1 (
 .loop [(.x 2), (.c (.v (.int .i64 0)))] (
  .op (.lenL (.x 0)) (
  .op (.bin .lss (.x 4) (.x 5)) (
  .ite (.x 6)
   (.op (.elem 6 (.x 0) (.x 4)) (
   .chk (.cells (.x 7) 6) (
   .op (.call F.laws_toCtorInfo [(.x 7)] false) (
   .chk (.idx (.x 3) (.x 4)) (
   .chk (.cells (.x 8) 6) (
   .op (.set (.x 3) (.x 4) 0 6 (.x 8)) (
   .op (.bin .add (.x 4) (.c (.v (.int .i64 1)))) (
   .jump [(.x 9), (.x 10)]))))))))
   (.esc (.jump [(.x 3)])))))) (
.ret [(.sl (.x 3))])))

theorem T.laws_toCtorInfoS_l : leftF Try.prog [] FL Try.f150 = some (1, T.laws_toCtorInfoS) := by kernel_rfl

theorem T.laws_toCtorInfoS_con {args : List AV} {res : AV} (hl : args.length = 1) (hn : AV.norefs args = true) (hw : wpT Try.prog (fun _ _ _ => False) (fun a => a = res) T.laws_toCtorInfoS args []) : PCon Try.prog F.laws_toCtorInfoS args res :=
  con_auto Try.func150 T.laws_toCtorInfoS_l hl hn hw

def T.laws_eqCtorInfoS : T :=
.op (.lenL (.x 0)) (
.op (.lenL (.x 1)) (
.op (.bin .neq (.x 2) (.x 3)) (
.ite (.x 4)
 (.ret [(.c (.v (.bool false)))])
 (.bind 0 (
  .loop [(.c (.v (.int .i64 0)))] (
   .op (.lenL (.x 0)) (
   .op (.bin .lss (.x 5) (.x 6)) (
   .ite (.x 7)
    (.op (.elem 6 (.x 0) (.x 5)) (
    .chk (.cells (.x 8) 6) (
    .op (.elem 6 (.x 1) (.x 5)) (
    .chk (.cells (.x 9) 6) (
    .op (.call F.laws_eqCtorInfo [(.x 8), (.x 9)] false) (
    .op (.un .not (.x 10)) (
    .ite (.x 11)
     (.esc (.esc (.ret [(.c (.v (.bool false)))])))
     (.op (.bin .add (.x 5) (.c (.v (.int .i64 1)))) (
     .jump [(.x 12)])))))))))
    (.esc (.jump [])))))) (
 .ret [(.c (.v (.bool true)))])))))

theorem T.laws_eqCtorInfoS_l : leftF Try.prog [] FL Try.f151 = some (2, T.laws_eqCtorInfoS) := by kernel_rfl

theorem T.laws_eqCtorInfoS_con {args : List AV} {res : AV} (hl : args.length = 2) (hn : AV.norefs args = true) (hw : wpT Try.prog (fun _ _ _ => False) (fun a => a = res) T.laws_eqCtorInfoS args []) : PCon Try.prog F.laws_eqCtorInfoS args res :=
  con_auto Try.func151 T.laws_eqCtorInfoS_l hl hn hw

def T.laws_szKVal : T :=
.chk (.cells (.x 0) 4) (
.op (.lenS (.cell 0 3)) (
.op (.bin .sub (.x 1) (.x 2)) (
.op (.bin .lss (.x 3) (.c (.v (.int .i64 0)))) (
.ite (.x 4)
 (.ret [(.c (.v (.int .i64 (-1))))])
 (.ret [(.x 3)])))))

theorem T.laws_szKVal_l : leftF Try.prog [] FL Try.f152 = some (2, T.laws_szKVal) := by kernel_rfl

theorem T.laws_szKVal_con {args : List AV} {res : AV} (hl : args.length = 2) (hn : AV.norefs args = true) (hw : wpT Try.prog (fun _ _ _ => False) (fun a => a = res) T.laws_szKVal args []) : PCon Try.prog F.laws_szKVal args res :=
  con_auto Try.func152 T.laws_szKVal_l hl hn hw

def T.laws_toKVal : T :=
.chk (.cells (.x 0) 4) (
.chk (.one (.cell 0 0)) (
.chk (.one (.cell 0 1)) (
.chk (.one (.cell 0 2)) (
.chk (.one (.cell 0 3)) (
.chk (.cells (.x 0) 4) (
.chk (.cells (.x 0) 4) (
.ret [(.agg [(.cell 0 0), (.cell 0 1), (.cell 0 2), (.cell 0 3)])])))))))

theorem T.laws_toKVal_l : leftF Try.prog [] FL Try.f153 = some (1, T.laws_toKVal) := by kernel_rfl

theorem T.laws_toKVal_con {args : List AV} {res : AV} (hl : args.length = 1) (hn : AV.norefs args = true) (hw : wpT Try.prog (fun _ _ _ => False) (fun a => a = res) T.laws_toKVal args []) : PCon Try.prog F.laws_toKVal args res :=
  con_auto Try.func153 T.laws_toKVal_l hl hn hw

def T.laws_eqKVal : T :=
.chk (.cells (.x 0) 4) (
.chk (.cells (.x 1) 4) (
.op (.bin .neq (.cell 0 0) (.cell 1 0)) (
.ite (.x 2)
 (.ret [(.c (.v (.bool false)))])
 (.op (.bin .neq (.cell 0 1) (.cell 1 1)) (
 .ite (.x 3)
  (.ret [(.c (.v (.bool false)))])
  (.op (.bin .neq (.cell 0 2) (.cell 1 2)) (
  .ite (.x 4)
   (.ret [(.c (.v (.bool false)))])
   (.op (.bin .neq (.cell 0 3) (.cell 1 3)) (
   .ite (.x 5)
    (.ret [(.c (.v (.bool false)))])
    (.ret [(.c (.v (.bool true)))]))))))))))

theorem T.laws_eqKVal_l : leftF Try.prog [] FL Try.f154 = some (2, T.laws_eqKVal) := by kernel_rfl

theorem T.laws_eqKVal_con {args : List AV} {res : AV} (hl : args.length = 2) (hn : AV.norefs args = true) (hw : wpT Try.prog (fun _ _ _ => False) (fun a => a = res) T.laws_eqKVal args []) : PCon Try.prog F.laws_eqKVal args res :=
  con_auto Try.func154 T.laws_eqKVal_l hl hn hw

def T.impl_headOk : T :=
.chk (.cells (.x 0) 7) (
.op (.lenL (.cell 0 5)) (
.op (.bin .eql (.x 1) (.c (.v (.int .i64 0)))) (
.op (.bin .eql (.cell 0 1) (.c (.v (.string ⟨#[]⟩)))) (
.op (.bin .eql (.cell 0 2) (.c (.v (.int .i64 0)))) (
.op (.bin .eql (.cell 0 3) (.c (.v (.string ⟨#[]⟩)))) (
.bind 4 (
 .op (.bin .eql (.cell 0 0) (.c (.v (.int .i64 1)))) (
 .ite (.x 6)
  (.op (.bin .geq (.cell 0 2) (.c (.v (.int .i64 0)))) (
  .jump [(.x 2), (.x 3), (.x 7), (.x 5)]))
  (.op (.bin .eql (.cell 0 0) (.c (.v (.int .i64 2)))) (
  .ite (.x 7)
   (.op (.call F.impl_plain [(.cell 0 3)] false) (
   .jump [(.x 2), (.x 3), (.x 4), (.x 8)]))
   (.op (.bin .eql (.cell 0 0) (.c (.v (.int .i64 3)))) (
   .ite (.x 8)
    (.op (.call F.impl_within [(.cell 0 2), (.c (.v (.int .i64 0))), (.c (.v (.int .i64 1)))] false) (
    .jump [(.x 2), (.x 3), (.x 9), (.x 5)]))
    (.op (.bin .eql (.cell 0 0) (.c (.v (.int .i64 4)))) (
    .ite (.x 9)
     (.jump [(.x 2), (.x 3), (.x 4), (.x 5)])
     (.op (.bin .eql (.cell 0 0) (.c (.v (.int .i64 5)))) (
     .ite (.x 10)
      (.op (.call F.impl_lowOk [(.cell 0 1)] false) (
      .jump [(.x 2), (.x 11), (.x 4), (.x 5)]))
      (.op (.bin .eql (.cell 0 0) (.c (.v (.int .i64 6)))) (
      .ite (.x 11)
       (.op (.lenL (.cell 0 5)) (
       .op (.bin .leq (.x 12) (.c (.v (.int .i64 1)))) (
       .op (.call F.impl_upOk [(.cell 0 1)] false) (
       .jump [(.x 13), (.x 14), (.x 4), (.x 5)]))))
       (.op (.bin .eql (.cell 0 0) (.c (.v (.int .i64 7)))) (
       .ite (.x 12)
        (.op (.lenL (.cell 0 5)) (
        .op (.bin .geq (.x 13) (.c (.v (.int .i64 2)))) (
        .jump [(.x 14), (.x 3), (.x 4), (.x 5)])))
        (.op (.bin .eql (.cell 0 0) (.c (.v (.int .i64 8)))) (
        .ite (.x 13)
         (.op (.lenL (.cell 0 5)) (
         .op (.bin .eql (.x 14) (.c (.v (.int .i64 1)))) (
         .op (.call F.impl_lowOk [(.cell 0 1)] false) (
         .jump [(.x 15), (.x 16), (.x 4), (.x 5)]))))
         (.op (.bin .eql (.cell 0 0) (.c (.v (.int .i64 9)))) (
         .ite (.x 14)
          (.op (.lenL (.cell 0 5)) (
          .op (.bin .eql (.x 15) (.c (.v (.int .i64 2)))) (
          .jump [(.x 16), (.x 3), (.x 4), (.x 5)])))
          (.op (.bin .eql (.cell 0 0) (.c (.v (.int .i64 10)))) (
          .ite (.x 15)
           (.op (.lenL (.cell 0 5)) (
           .op (.bin .eql (.x 16) (.c (.v (.int .i64 2)))) (
           .op (.call F.impl_lowOk [(.cell 0 1)] false) (
           .jump [(.x 17), (.x 18), (.x 4), (.x 5)]))))
           (.op (.bin .eql (.cell 0 0) (.c (.v (.int .i64 11)))) (
           .ite (.x 16)
            (.op (.lenL (.cell 0 5)) (
            .op (.bin .eql (.x 17) (.c (.v (.int .i64 2)))) (
            .op (.call F.impl_lowOk [(.cell 0 1)] false) (
            .op (.call F.impl_lowOk [(.cell 0 3)] false) (
            .jump [(.x 18), (.x 19), (.x 4), (.x 20)])))))
            (.op (.bin .eql (.cell 0 0) (.c (.v (.int .i64 12)))) (
            .ite (.x 17)
             (.op (.lenL (.cell 0 5)) (
             .op (.bin .eql (.x 18) (.c (.v (.int .i64 3)))) (
             .jump [(.x 19), (.x 3), (.x 4), (.x 5)])))
             (.op (.bin .eql (.cell 0 0) (.c (.v (.int .i64 13)))) (
             .ite (.x 18)
              (.op (.lenL (.cell 0 5)) (
              .op (.bin .eql (.x 19) (.c (.v (.int .i64 1)))) (
              .jump [(.x 20), (.x 3), (.x 4), (.x 5)])))
              (.op (.bin .eql (.cell 0 0) (.c (.v (.int .i64 14)))) (
              .ite (.x 19)
               (.op (.lenL (.cell 0 5)) (
               .op (.bin .eql (.x 20) (.c (.v (.int .i64 2)))) (
               .op (.call F.impl_binarySign [(.cell 0 1)] false) (
               .jump [(.x 21), (.x 22), (.x 4), (.x 5)]))))
               (.op (.bin .eql (.cell 0 0) (.c (.v (.int .i64 15)))) (
               .ite (.x 20)
                (.op (.lenL (.cell 0 5)) (
                .op (.call F.impl_primArity [(.cell 0 1)] false) (
                .op (.bin .eql (.x 21) (.x 22)) (
                .jump [(.x 23), (.c (.v (.bool true))), (.x 4), (.x 5)]))))
                (.esc (.ret [(.c (.v (.bool false)))])))))))))))))))))))))))))))))))) (
.bind 1 (
 .ite (.x 6)
  (.ite (.x 7)
   (.ite (.x 8)
    (.ite (.x 9)
     (.op (.bin .geq (.cell 0 4) (.c (.v (.int .i64 0)))) (
     .ite (.x 10)
      (.op (.bin .eql (.cell 0 0) (.c (.v (.int .i64 13)))) (
      .op (.lenL (.cell 0 6)) (
      .op (.bin .gtr (.x 12) (.c (.v (.int .i64 0)))) (
      .op (.beq false (.x 11) (.x 13)) (
      .jump [(.x 14)])))))
      (.jump [(.c (.v (.bool false)))])))
     (.jump [(.c (.v (.bool false)))]))
    (.jump [(.c (.v (.bool false)))]))
   (.jump [(.c (.v (.bool false)))]))
  (.jump [(.c (.v (.bool false)))])) (
.ret [(.x 10)]))))))))

theorem T.impl_headOk_l : leftF Try.prog [] FL Try.f155 = some (1, T.impl_headOk) := by kernel_rfl

theorem T.impl_headOk_con {args : List AV} {res : AV} (hl : args.length = 1) (hn : AV.norefs args = true) (hw : wpT Try.prog (fun _ _ _ => False) (fun a => a = res) T.impl_headOk args []) : PCon Try.prog F.impl_headOk args res :=
  con_auto Try.func155 T.impl_headOk_l hl hn hw

def T.impl_patOk : T :=
.chk (.cells (.x 0) 5) (
.op (.lenL (.cell 0 4)) (
.op (.bin .eql (.x 1) (.c (.v (.int .i64 0)))) (
.op (.bin .eql (.cell 0 1) (.c (.v (.string ⟨#[]⟩)))) (
.op (.bin .eql (.cell 0 2) (.c (.v (.int .i64 0)))) (
.bind 3 (
 .bind 1 (
  .op (.bin .eql (.cell 0 0) (.c (.v (.int .i64 1)))) (
  .ite (.x 5)
   (.jump [(.x 5)])
   (.op (.bin .eql (.cell 0 0) (.c (.v (.int .i64 5)))) (
   .jump [(.x 6)])))) (
 .ite (.x 5)
  (.jump [(.x 2), (.x 3), (.x 4)])
  (.op (.bin .eql (.cell 0 0) (.c (.v (.int .i64 2)))) (
  .ite (.x 6)
   (.op (.call F.impl_lowOk [(.cell 0 1)] false) (
   .jump [(.x 2), (.x 7), (.x 4)]))
   (.op (.bin .eql (.cell 0 0) (.c (.v (.int .i64 3)))) (
   .ite (.x 7)
    (.op (.bin .geq (.cell 0 2) (.c (.v (.int .i64 0)))) (
    .jump [(.x 2), (.x 3), (.x 8)]))
    (.op (.bin .eql (.cell 0 0) (.c (.v (.int .i64 4)))) (
    .ite (.x 8)
     (.op (.call F.impl_within [(.cell 0 2), (.c (.v (.int .i64 0))), (.c (.v (.int .i64 1)))] false) (
     .jump [(.x 2), (.x 3), (.x 9)]))
     (.op (.bin .eql (.cell 0 0) (.c (.v (.int .i64 6)))) (
     .ite (.x 9)
      (.op (.lenL (.cell 0 4)) (
      .op (.bin .geq (.x 10) (.c (.v (.int .i64 2)))) (
      .jump [(.x 11), (.x 3), (.x 4)])))
      (.op (.bin .eql (.cell 0 0) (.c (.v (.int .i64 7)))) (
      .ite (.x 10)
       (.op (.lenL (.cell 0 4)) (
       .op (.bin .leq (.x 11) (.c (.v (.int .i64 1)))) (
       .op (.call F.impl_upOk [(.cell 0 1)] false) (
       .jump [(.x 12), (.x 13), (.x 4)]))))
       (.esc (.ret [(.c (.v (.bool false)))])))))))))))))) (
.bind 1 (
 .ite (.x 5)
  (.ite (.x 6)
   (.ite (.x 7)
    (.op (.bin .geq (.cell 0 3) (.c (.v (.int .i64 0)))) (
    .ite (.x 8)
     (.op (.call F.slices_ContainsFunc__impl_Pat_impl_Pat [(.cell 0 4), (.c (.fn F.impl_patOk_1 []))] false) (
     .op (.un .not (.x 9)) (
     .jump [(.x 10)])))
     (.jump [(.c (.v (.bool false)))])))
    (.jump [(.c (.v (.bool false)))]))
   (.jump [(.c (.v (.bool false)))]))
  (.jump [(.c (.v (.bool false)))])) (
.ret [(.x 8)])))))))

theorem T.impl_patOk_l : leftF Try.prog [] FL Try.f156 = some (1, T.impl_patOk) := by kernel_rfl

theorem T.impl_patOk_con {args : List AV} {res : AV} (hl : args.length = 1) (hn : AV.norefs args = true) (hw : wpT Try.prog (fun _ _ _ => False) (fun a => a = res) T.impl_patOk args []) : PCon Try.prog F.impl_patOk args res :=
  con_auto Try.func156 T.impl_patOk_l hl hn hw

def T.impl_names_at : T :=
.bind 0 (
 .op (.lenL (.x 0)) (
 .op (.bin .sub (.x 2) (.c (.v (.int .i64 1)))) (
 .loop [(.x 3)] (
  .op (.bin .geq (.x 4) (.c (.v (.int .i64 0)))) (
  .ite (.x 5)
   (.op (.elem 1 (.x 0) (.x 4)) (
   .chk (.lt (.x 6) 0) (
   .op (.bin .eql (.cell 6 0) (.x 1)) (
   .ite (.x 7)
    (.esc (.esc (.ret [(.x 4)])))
    (.op (.bin .sub (.x 4) (.c (.v (.int .i64 1)))) (
    .jump [(.x 8)]))))))
   (.esc (.jump []))))))) (
.ret [(.c (.v (.int .i64 (-1))))])

theorem T.impl_names_at_l : leftF Try.prog [] FL Try.f157 = some (2, T.impl_names_at) := by kernel_rfl

theorem T.impl_names_at_con {args : List AV} {res : AV} (hl : args.length = 2) (hn : AV.norefs args = true) (hw : wpT Try.prog (fun _ _ _ => False) (fun a => a = res) T.impl_names_at args []) : PCon Try.prog F.impl_names_at args res :=
  con_auto Try.func157 T.impl_names_at_l hl hn hw

-- slices_Concat_impl_names_string: code not covered
def T.impl_bindsIn : T :=
.chk (.cells (.x 0) 7) (
.bind 0 (
 .bind 1 (
  .op (.bin .eql (.cell 0 0) (.c (.v (.int .i64 8)))) (
  .ite (.x 2)
   (.jump [(.x 2)])
   (.bind 1 (
    .op (.bin .eql (.cell 0 0) (.c (.v (.int .i64 10)))) (
    .ite (.x 3)
     (.op (.bin .eql (.x 1) (.c (.v (.int .i64 1)))) (
     .jump [(.x 4)]))
     (.jump [(.c (.v (.bool false)))]))) (
   .ite (.x 3)
    (.jump [(.x 3)])
    (.op (.bin .eql (.cell 0 0) (.c (.v (.int .i64 11)))) (
    .ite (.x 4)
     (.op (.bin .eql (.x 1) (.c (.v (.int .i64 1)))) (
     .jump [(.x 5)]))
     (.jump [(.c (.v (.bool false)))]))))))) (
 .ite (.x 2)
  (.chk (.one (.cell 0 1)) (
  .op (.mkl (.v (.string ⟨#[]⟩)) 1 [(0, (.cell 0 1))]) (
  .esc (.ret [(.sl (.x 3))]))))
  (.op (.bin .eql (.cell 0 0) (.c (.v (.int .i64 11)))) (
  .ite (.x 3)
   (.chk (.one (.cell 0 1)) (
   .chk (.one (.cell 0 3)) (
   .op (.mkl (.v (.string ⟨#[]⟩)) 2 [(0, (.cell 0 1)), (1, (.cell 0 3))]) (
   .esc (.ret [(.sl (.x 4))])))))
   (.jump []))))) (
.ret [(.c .nils)]))

theorem T.impl_bindsIn_l : leftF Try.prog [] FL Try.f159 = some (2, T.impl_bindsIn) := by kernel_rfl

theorem T.impl_bindsIn_con {args : List AV} {res : AV} (hl : args.length = 2) (hn : AV.norefs args = true) (hw : wpT Try.prog (fun _ _ _ => False) (fun a => a = res) T.impl_bindsIn args []) : PCon Try.prog F.impl_bindsIn args res :=
  con_auto Try.func159 T.impl_bindsIn_l hl hn hw

def T.impl_alikePat : T :=
.chk (.cells (.x 0) 5) (
.chk (.cells (.x 1) 5) (
.bind 1 (
 .op (.bin .eql (.cell 0 0) (.cell 1 0)) (
 .ite (.x 2)
  (.op (.bin .eql (.cell 0 0) (.c (.v (.int .i64 2)))) (
  .ite (.x 3)
   (.op (.bin .eql (.cell 0 2) (.cell 1 2)) (
   .ite (.x 4)
    (.op (.call F.slices_EqualFunc__impl_Pat__impl_Pat_impl_Pat_impl_Pat [(.cell 0 4), (.cell 1 4), (.c (.fn F.impl_alikePat []))] false) (
    .jump [(.x 5)]))
    (.jump [(.c (.v (.bool false)))])))
   (.op (.bin .eql (.cell 0 1) (.cell 1 1)) (
   .ite (.x 4)
    (.op (.bin .eql (.cell 0 2) (.cell 1 2)) (
    .ite (.x 5)
     (.op (.call F.slices_EqualFunc__impl_Pat__impl_Pat_impl_Pat_impl_Pat [(.cell 0 4), (.cell 1 4), (.c (.fn F.impl_alikePat []))] false) (
     .jump [(.x 6)]))
     (.jump [(.c (.v (.bool false)))])))
    (.jump [(.c (.v (.bool false)))])))))
  (.jump [(.c (.v (.bool false)))]))) (
.ret [(.x 2)])))

theorem T.impl_alikePat_l : leftF Try.prog [] FL Try.f160 = some (2, T.impl_alikePat) := by kernel_rfl

theorem T.impl_alikePat_con {args : List AV} {res : AV} (hl : args.length = 2) (hn : AV.norefs args = true) (hw : wpT Try.prog (fun _ _ _ => False) (fun a => a = res) T.impl_alikePat args []) : PCon Try.prog F.impl_alikePat args res :=
  con_auto Try.func160 T.impl_alikePat_l hl hn hw

def T.impl_patNames : T :=
.chk (.cells (.x 0) 5) (
.bind 1 (
 .op (.bin .eql (.cell 0 0) (.c (.v (.int .i64 2)))) (
 .ite (.x 1)
  (.chk (.one (.cell 0 1)) (
  .op (.mkl (.v (.string ⟨#[]⟩)) 1 [(0, (.cell 0 1))]) (
  .op (.app 1 16 (.c (.sl [])) (.sl (.x 2))) (
  .jump [(.x 3)]))))
  (.jump [(.c (.sl []))]))) (
.bind 1 (
 .op (.lenL (.cell 0 4)) (
 .loop [(.x 1), (.c (.v (.int .i64 0)))] (
  .op (.bin .lss (.x 4) (.x 2)) (
  .ite (.x 5)
   (.op (.elem 5 (.cell 0 4) (.x 4)) (
   .chk (.cells (.x 6) 5) (
   .chk (.cells (.x 6) 5) (
   .chk (.cells (.x 6) 5) (
   .op (.call F.impl_patNames [(.x 6)] false) (
   .op (.app 1 16 (.x 3) (.x 7)) (
   .op (.bin .add (.x 4) (.c (.v (.int .i64 1)))) (
   .jump [(.x 8), (.x 9)]))))))))
   (.esc (.jump [(.x 3)])))))) (
.ret [(.sl (.x 2))])))

theorem T.impl_patNames_l : leftF Try.prog [] FL Try.f161 = some (1, T.impl_patNames) := by kernel_rfl

theorem T.impl_patNames_con {args : List AV} {res : AV} (hl : args.length = 1) (hn : AV.norefs args = true) (hw : wpT Try.prog (fun _ _ _ => False) (fun a => a = res) T.impl_patNames args []) : PCon Try.prog F.impl_patNames args res :=
  con_auto Try.func161 T.impl_patNames_l hl hn hw

def T.laws_szArm : T :=
.chk (.cells (.x 0) 12) (
.op (.call F.laws_szPat [(.agg [(.cell 0 0), (.cell 0 1), (.cell 0 2), (.cell 0 3), (.cell 0 4)]), (.x 1)] false) (
.op (.bin .lss (.x 2) (.c (.v (.int .i64 0)))) (
.ite (.x 3)
 (.ret [(.c (.v (.int .i64 (-1))))])
 (.op (.call F.laws_szExp [(.agg [(.cell 0 5), (.cell 0 6), (.cell 0 7), (.cell 0 8), (.cell 0 9), (.cell 0 10), (.cell 0 11)]), (.x 2)] false) (
 .op (.bin .lss (.x 4) (.c (.v (.int .i64 0)))) (
 .ite (.x 5)
  (.ret [(.c (.v (.int .i64 (-1))))])
  (.ret [(.x 4)])))))))

theorem T.laws_szArm_l : leftF Try.prog [] FL Try.f162 = some (2, T.laws_szArm) := by kernel_rfl

theorem T.laws_szArm_con {args : List AV} {res : AV} (hl : args.length = 2) (hn : AV.norefs args = true) (hw : wpT Try.prog (fun _ _ _ => False) (fun a => a = res) T.laws_szArm args []) : PCon Try.prog F.laws_szArm args res :=
  con_auto Try.func162 T.laws_szArm_l hl hn hw

def T.laws_toArm : T :=
.chk (.cells (.x 0) 12) (
.op (.call F.laws_toPat [(.agg [(.cell 0 0), (.cell 0 1), (.cell 0 2), (.cell 0 3), (.cell 0 4)])] false) (
.chk (.cells (.x 1) 5) (
.op (.call F.laws_toExp [(.agg [(.cell 0 5), (.cell 0 6), (.cell 0 7), (.cell 0 8), (.cell 0 9), (.cell 0 10), (.cell 0 11)])] false) (
.chk (.cells (.x 2) 7) (
.chk (.cells (.agg [(.cell 1 0), (.cell 1 1), (.cell 1 2), (.cell 1 3), (.cell 1 4), (.cell 2 0), (.cell 2 1), (.cell 2 2), (.cell 2 3), (.cell 2 4), (.cell 2 5), (.cell 2 6)]) 12) (
.ret [(.agg [(.cell 1 0), (.cell 1 1), (.cell 1 2), (.cell 1 3), (.cell 1 4), (.cell 2 0), (.cell 2 1), (.cell 2 2), (.cell 2 3), (.cell 2 4), (.cell 2 5), (.cell 2 6)])]))))))

theorem T.laws_toArm_l : leftF Try.prog [] FL Try.f163 = some (1, T.laws_toArm) := by kernel_rfl

theorem T.laws_toArm_con {args : List AV} {res : AV} (hl : args.length = 1) (hn : AV.norefs args = true) (hw : wpT Try.prog (fun _ _ _ => False) (fun a => a = res) T.laws_toArm args []) : PCon Try.prog F.laws_toArm args res :=
  con_auto Try.func163 T.laws_toArm_l hl hn hw

def T.laws_eqArm : T :=
.chk (.cells (.x 0) 12) (
.chk (.cells (.x 1) 12) (
.op (.call F.laws_eqPat [(.agg [(.cell 0 0), (.cell 0 1), (.cell 0 2), (.cell 0 3), (.cell 0 4)]), (.agg [(.cell 1 0), (.cell 1 1), (.cell 1 2), (.cell 1 3), (.cell 1 4)])] false) (
.op (.un .not (.x 2)) (
.ite (.x 3)
 (.ret [(.c (.v (.bool false)))])
 (.op (.call F.laws_eqExp [(.agg [(.cell 0 5), (.cell 0 6), (.cell 0 7), (.cell 0 8), (.cell 0 9), (.cell 0 10), (.cell 0 11)]), (.agg [(.cell 1 5), (.cell 1 6), (.cell 1 7), (.cell 1 8), (.cell 1 9), (.cell 1 10), (.cell 1 11)])] false) (
 .op (.un .not (.x 4)) (
 .ite (.x 5)
  (.ret [(.c (.v (.bool false)))])
  (.ret [(.c (.v (.bool true)))]))))))))

theorem T.laws_eqArm_l : leftF Try.prog [] FL Try.f164 = some (2, T.laws_eqArm) := by kernel_rfl

theorem T.laws_eqArm_con {args : List AV} {res : AV} (hl : args.length = 2) (hn : AV.norefs args = true) (hw : wpT Try.prog (fun _ _ _ => False) (fun a => a = res) T.laws_eqArm args []) : PCon Try.prog F.laws_eqArm args res :=
  con_auto Try.func164 T.laws_eqArm_l hl hn hw

def T.spec_l4Has : T :=
.bind 0 (
 .loop [(.c (.v (.int .i64 0)))] (
  .op (.lenL (.x 0)) (
  .op (.bin .lss (.x 2) (.x 3)) (
  .ite (.x 4)
   (.op (.elem 1 (.x 0) (.x 2)) (
   .chk (.lt (.x 5) 0) (
   .op (.bin .eql (.cell 5 0) (.x 1)) (
   .ite (.x 6)
    (.esc (.esc (.ret [(.c (.v (.bool true)))])))
    (.op (.bin .add (.x 2) (.c (.v (.int .i64 1)))) (
    .jump [(.x 7)]))))))
   (.esc (.jump [])))))) (
.ret [(.c (.v (.bool false)))])

theorem T.spec_l4Has_l : leftF Try.prog [] FL Try.f165 = some (2, T.spec_l4Has) := by kernel_rfl

theorem T.spec_l4Has_con {args : List AV} {res : AV} (hl : args.length = 2) (hn : AV.norefs args = true) (hw : wpT Try.prog (fun _ _ _ => False) (fun a => a = res) T.spec_l4Has args []) : PCon Try.prog F.spec_l4Has args res :=
  con_auto Try.func165 T.spec_l4Has_l hl hn hw

def T.slices_Contains__int_int : T :=
.op (.call F.slices_Index__int_int [(.x 0), (.x 1)] false) (
.op (.bin .geq (.x 2) (.c (.v (.int .i64 0)))) (
.ret [(.x 3)]))

theorem T.slices_Contains__int_int_l : leftF Try.prog [] FL Try.f166 = some (2, T.slices_Contains__int_int) := by kernel_rfl

theorem T.slices_Contains__int_int_con {args : List AV} {res : AV} (hl : args.length = 2) (hn : AV.norefs args = true) (hw : wpT Try.prog (fun _ _ _ => False) (fun a => a = res) T.slices_Contains__int_int args []) : PCon Try.prog F.slices_Contains__int_int args res :=
  con_auto Try.func166 T.slices_Contains__int_int_l hl hn hw

def T.spec_SameTy : T :=
.chk (.cells (.x 0) 4) (
.chk (.cells (.x 1) 4) (
.bind 0 (
 .bind 1 (
  .op (.bin .neq (.cell 0 0) (.cell 1 0)) (
  .ite (.x 2)
   (.jump [(.c (.v (.bool true)))])
   (.op (.bin .neq (.cell 0 1) (.cell 1 1)) (
   .ite (.x 3)
    (.jump [(.c (.v (.bool true)))])
    (.op (.bin .neq (.cell 0 2) (.cell 1 2)) (
    .ite (.x 4)
     (.jump [(.c (.v (.bool true)))])
     (.op (.lenL (.cell 0 3)) (
     .op (.lenL (.cell 1 3)) (
     .op (.bin .neq (.x 5) (.x 6)) (
     .jump [(.x 7)])))))))))) (
 .ite (.x 2)
  (.esc (.ret [(.c (.v (.bool false)))]))
  (.jump []))) (
.bind 0 (
 .loop [(.c (.v (.int .i64 0)))] (
  .op (.lenL (.cell 0 3)) (
  .op (.bin .lss (.x 2) (.x 3)) (
  .ite (.x 4)
   (.op (.elem 4 (.cell 0 3) (.x 2)) (
   .chk (.cells (.x 5) 4) (
   .op (.elem 4 (.cell 1 3) (.x 2)) (
   .chk (.cells (.x 6) 4) (
   .op (.call F.spec_SameTy [(.x 5), (.x 6)] false) (
   .op (.un .not (.x 7)) (
   .ite (.x 8)
    (.esc (.esc (.ret [(.c (.v (.bool false)))])))
    (.op (.bin .add (.x 2) (.c (.v (.int .i64 1)))) (
    .jump [(.x 9)])))))))))
   (.esc (.jump [])))))) (
.ret [(.c (.v (.bool true)))]))))

theorem T.spec_SameTy_l : leftF Try.prog [] FL Try.f167 = some (2, T.spec_SameTy) := by kernel_rfl

theorem T.spec_SameTy_con {args : List AV} {res : AV} (hl : args.length = 2) (hn : AV.norefs args = true) (hw : wpT Try.prog (fun _ _ _ => False) (fun a => a = res) T.spec_SameTy args []) : PCon Try.prog F.spec_SameTy args res :=
  con_auto Try.func167 T.spec_SameTy_l hl hn hw

def T.impl_SameTy : T :=
.chk (.cells (.x 0) 4) (
.chk (.cells (.x 1) 4) (
.bind 1 (
 .op (.bin .eql (.cell 0 0) (.cell 1 0)) (
 .ite (.x 2)
  (.op (.bin .eql (.cell 0 1) (.cell 1 1)) (
  .ite (.x 3)
   (.op (.bin .eql (.cell 0 2) (.cell 1 2)) (
   .ite (.x 4)
    (.op (.call F.slices_EqualFunc__impl_Ty__impl_Ty_impl_Ty_impl_Ty [(.cell 0 3), (.cell 1 3), (.c (.fn F.impl_SameTy []))] false) (
    .jump [(.x 5)]))
    (.jump [(.c (.v (.bool false)))])))
   (.jump [(.c (.v (.bool false)))])))
  (.jump [(.c (.v (.bool false)))]))) (
.ret [(.x 2)])))

theorem T.impl_SameTy_l : leftF Try.prog [] FL Try.f168 = some (2, T.impl_SameTy) := by kernel_rfl

theorem T.impl_SameTy_con {args : List AV} {res : AV} (hl : args.length = 2) (hn : AV.norefs args = true) (hw : wpT Try.prog (fun _ _ _ => False) (fun a => a = res) T.impl_SameTy args []) : PCon Try.prog F.impl_SameTy args res :=
  con_auto Try.func168 T.impl_SameTy_l hl hn hw

def T.laws_szCArm : T :=
.chk (.cells (.x 0) 20) (
.op (.call F.laws_szCPat [(.agg [(.cell 0 0), (.cell 0 1), (.cell 0 2), (.cell 0 3), (.cell 0 4), (.cell 0 5), (.cell 0 6), (.cell 0 7)]), (.x 1)] false) (
.op (.bin .lss (.x 2) (.c (.v (.int .i64 0)))) (
.ite (.x 3)
 (.ret [(.c (.v (.int .i64 (-1))))])
 (.op (.call F.laws_szCore [(.agg [(.cell 0 8), (.cell 0 9), (.cell 0 10), (.cell 0 11), (.cell 0 12), (.cell 0 13), (.cell 0 14), (.cell 0 15), (.cell 0 16), (.cell 0 17), (.cell 0 18), (.cell 0 19)]), (.x 2)] false) (
 .op (.bin .lss (.x 4) (.c (.v (.int .i64 0)))) (
 .ite (.x 5)
  (.ret [(.c (.v (.int .i64 (-1))))])
  (.ret [(.x 4)])))))))

theorem T.laws_szCArm_l : leftF Try.prog [] FL Try.f169 = some (2, T.laws_szCArm) := by kernel_rfl

theorem T.laws_szCArm_con {args : List AV} {res : AV} (hl : args.length = 2) (hn : AV.norefs args = true) (hw : wpT Try.prog (fun _ _ _ => False) (fun a => a = res) T.laws_szCArm args []) : PCon Try.prog F.laws_szCArm args res :=
  con_auto Try.func169 T.laws_szCArm_l hl hn hw

def T.laws_toCArm : T :=
.chk (.cells (.x 0) 20) (
.op (.call F.laws_toCPat [(.agg [(.cell 0 0), (.cell 0 1), (.cell 0 2), (.cell 0 3), (.cell 0 4), (.cell 0 5), (.cell 0 6), (.cell 0 7)])] false) (
.chk (.cells (.x 1) 8) (
.op (.call F.laws_toCore [(.agg [(.cell 0 8), (.cell 0 9), (.cell 0 10), (.cell 0 11), (.cell 0 12), (.cell 0 13), (.cell 0 14), (.cell 0 15), (.cell 0 16), (.cell 0 17), (.cell 0 18), (.cell 0 19)])] false) (
.chk (.cells (.x 2) 12) (
.chk (.cells (.agg [(.cell 1 0), (.cell 1 1), (.cell 1 2), (.cell 1 3), (.cell 1 4), (.cell 1 5), (.cell 1 6), (.cell 1 7), (.cell 2 0), (.cell 2 1), (.cell 2 2), (.cell 2 3), (.cell 2 4), (.cell 2 5), (.cell 2 6), (.cell 2 7), (.cell 2 8), (.cell 2 9), (.cell 2 10), (.cell 2 11)]) 20) (
.ret [(.agg [(.cell 1 0), (.cell 1 1), (.cell 1 2), (.cell 1 3), (.cell 1 4), (.cell 1 5), (.cell 1 6), (.cell 1 7), (.cell 2 0), (.cell 2 1), (.cell 2 2), (.cell 2 3), (.cell 2 4), (.cell 2 5), (.cell 2 6), (.cell 2 7), (.cell 2 8), (.cell 2 9), (.cell 2 10), (.cell 2 11)])]))))))

theorem T.laws_toCArm_l : leftF Try.prog [] FL Try.f170 = some (1, T.laws_toCArm) := by kernel_rfl

theorem T.laws_toCArm_con {args : List AV} {res : AV} (hl : args.length = 1) (hn : AV.norefs args = true) (hw : wpT Try.prog (fun _ _ _ => False) (fun a => a = res) T.laws_toCArm args []) : PCon Try.prog F.laws_toCArm args res :=
  con_auto Try.func170 T.laws_toCArm_l hl hn hw

def T.laws_eqCArm : T :=
.chk (.cells (.x 0) 20) (
.chk (.cells (.x 1) 20) (
.op (.call F.laws_eqCPat [(.agg [(.cell 0 0), (.cell 0 1), (.cell 0 2), (.cell 0 3), (.cell 0 4), (.cell 0 5), (.cell 0 6), (.cell 0 7)]), (.agg [(.cell 1 0), (.cell 1 1), (.cell 1 2), (.cell 1 3), (.cell 1 4), (.cell 1 5), (.cell 1 6), (.cell 1 7)])] false) (
.op (.un .not (.x 2)) (
.ite (.x 3)
 (.ret [(.c (.v (.bool false)))])
 (.op (.call F.laws_eqCore [(.agg [(.cell 0 8), (.cell 0 9), (.cell 0 10), (.cell 0 11), (.cell 0 12), (.cell 0 13), (.cell 0 14), (.cell 0 15), (.cell 0 16), (.cell 0 17), (.cell 0 18), (.cell 0 19)]), (.agg [(.cell 1 8), (.cell 1 9), (.cell 1 10), (.cell 1 11), (.cell 1 12), (.cell 1 13), (.cell 1 14), (.cell 1 15), (.cell 1 16), (.cell 1 17), (.cell 1 18), (.cell 1 19)])] false) (
 .op (.un .not (.x 4)) (
 .ite (.x 5)
  (.ret [(.c (.v (.bool false)))])
  (.ret [(.c (.v (.bool true)))]))))))))

theorem T.laws_eqCArm_l : leftF Try.prog [] FL Try.f171 = some (2, T.laws_eqCArm) := by kernel_rfl

theorem T.laws_eqCArm_con {args : List AV} {res : AV} (hl : args.length = 2) (hn : AV.norefs args = true) (hw : wpT Try.prog (fun _ _ _ => False) (fun a => a = res) T.laws_eqCArm args []) : PCon Try.prog F.laws_eqCArm args res :=
  con_auto Try.func171 T.laws_eqCArm_l hl hn hw

def T.slices_IndexFunc__impl_Core_impl_Core : T :=
.bind 0 (
 .op (.lenL (.x 0)) (
 .loop [(.c (.v (.int .i64 0)))] (
  .op (.bin .lss (.x 3) (.x 2)) (
  .ite (.x 4)
   (.op (.elem 12 (.x 0) (.x 3)) (
   .chk (.cells (.x 5) 12) (
   .op (.callv (.x 1) [(.x 5)] false) (
   .ite (.x 6)
    (.esc (.esc (.ret [(.x 3)])))
    (.op (.bin .add (.x 3) (.c (.v (.int .i64 1)))) (
    .jump [(.x 7)]))))))
   (.esc (.jump [])))))) (
.ret [(.c (.v (.int .i64 (-1))))])

theorem T.slices_IndexFunc__impl_Core_impl_Core_l : leftF Try.prog [] FL Try.f172 = some (2, T.slices_IndexFunc__impl_Core_impl_Core) := by kernel_rfl

theorem T.slices_IndexFunc__impl_Core_impl_Core_con {args : List AV} {res : AV} (hl : args.length = 2) (hn : AV.norefs args = true) (hw : wpT Try.prog (fun _ _ _ => False) (fun a => a = res) T.slices_IndexFunc__impl_Core_impl_Core args []) : PCon Try.prog F.slices_IndexFunc__impl_Core_impl_Core args res :=
  con_auto Try.func172 T.slices_IndexFunc__impl_Core_impl_Core_l hl hn hw

def T.spec_l1Num : T :=
.op (.call F.spec_l1In [(.x 0), (.c (.v (.int .i64 48))), (.c (.v (.int .i64 57)))] false) (
.ret [(.x 1)])

theorem T.spec_l1Num_l : leftF Try.prog [] FL Try.f173 = some (1, T.spec_l1Num) := by kernel_rfl

theorem T.spec_l1Num_con {args : List AV} {res : AV} (hl : args.length = 1) (hn : AV.norefs args = true) (hw : wpT Try.prog (fun _ _ _ => False) (fun a => a = res) T.spec_l1Num args []) : PCon Try.prog F.spec_l1Num args res :=
  con_auto Try.func173 T.spec_l1Num_l hl hn hw

def T.impl_digit : T :=
.bind 1 (
 .op (.bin .geq (.x 0) (.c (.v (.int .u8 48)))) (
 .ite (.x 1)
  (.op (.bin .leq (.x 0) (.c (.v (.int .u8 57)))) (
  .jump [(.x 2)]))
  (.jump [(.c (.v (.bool false)))]))) (
.ret [(.x 1)])

theorem T.impl_digit_l : leftF Try.prog [] FL Try.f174 = some (1, T.impl_digit) := by kernel_rfl

theorem T.impl_digit_con {args : List AV} {res : AV} (hl : args.length = 1) (hn : AV.norefs args = true) (hw : wpT Try.prog (fun _ _ _ => False) (fun a => a = res) T.impl_digit args []) : PCon Try.prog F.impl_digit args res :=
  con_auto Try.func174 T.impl_digit_l hl hn hw

def T.laws_szCtorInfo : T :=
.chk (.cells (.x 0) 6) (
.op (.lenS (.cell 0 0)) (
.op (.bin .sub (.x 1) (.x 2)) (
.op (.bin .lss (.x 3) (.c (.v (.int .i64 0)))) (
.ite (.x 4)
 (.ret [(.c (.v (.int .i64 (-1))))])
 (.op (.call F.laws_szTy [(.agg [(.cell 0 2), (.cell 0 3), (.cell 0 4), (.cell 0 5)]), (.x 3)] false) (
 .op (.bin .lss (.x 5) (.c (.v (.int .i64 0)))) (
 .ite (.x 6)
  (.ret [(.c (.v (.int .i64 (-1))))])
  (.ret [(.x 5)]))))))))

theorem T.laws_szCtorInfo_l : leftF Try.prog [] FL Try.f175 = some (2, T.laws_szCtorInfo) := by kernel_rfl

theorem T.laws_szCtorInfo_con {args : List AV} {res : AV} (hl : args.length = 2) (hn : AV.norefs args = true) (hw : wpT Try.prog (fun _ _ _ => False) (fun a => a = res) T.laws_szCtorInfo args []) : PCon Try.prog F.laws_szCtorInfo args res :=
  con_auto Try.func175 T.laws_szCtorInfo_l hl hn hw

def T.laws_toCtorInfo : T :=
.chk (.cells (.x 0) 6) (
.chk (.one (.cell 0 0)) (
.chk (.one (.cell 0 1)) (
.op (.call F.laws_toTy [(.agg [(.cell 0 2), (.cell 0 3), (.cell 0 4), (.cell 0 5)])] false) (
.chk (.cells (.x 1) 4) (
.chk (.cells (.agg [(.cell 0 0), (.cell 0 1), (.cell 1 0), (.cell 1 1), (.cell 1 2), (.cell 1 3)]) 6) (
.ret [(.agg [(.cell 0 0), (.cell 0 1), (.cell 1 0), (.cell 1 1), (.cell 1 2), (.cell 1 3)])]))))))

theorem T.laws_toCtorInfo_l : leftF Try.prog [] FL Try.f176 = some (1, T.laws_toCtorInfo) := by kernel_rfl

theorem T.laws_toCtorInfo_con {args : List AV} {res : AV} (hl : args.length = 1) (hn : AV.norefs args = true) (hw : wpT Try.prog (fun _ _ _ => False) (fun a => a = res) T.laws_toCtorInfo args []) : PCon Try.prog F.laws_toCtorInfo args res :=
  con_auto Try.func176 T.laws_toCtorInfo_l hl hn hw

def T.laws_eqCtorInfo : T :=
.chk (.cells (.x 0) 6) (
.chk (.cells (.x 1) 6) (
.op (.bin .neq (.cell 0 0) (.cell 1 0)) (
.ite (.x 2)
 (.ret [(.c (.v (.bool false)))])
 (.op (.beq true (.cell 0 1) (.cell 1 1)) (
 .ite (.x 3)
  (.ret [(.c (.v (.bool false)))])
  (.op (.call F.laws_eqTy [(.agg [(.cell 0 2), (.cell 0 3), (.cell 0 4), (.cell 0 5)]), (.agg [(.cell 1 2), (.cell 1 3), (.cell 1 4), (.cell 1 5)])] false) (
  .op (.un .not (.x 4)) (
  .ite (.x 5)
   (.ret [(.c (.v (.bool false)))])
   (.ret [(.c (.v (.bool true)))])))))))))

theorem T.laws_eqCtorInfo_l : leftF Try.prog [] FL Try.f177 = some (2, T.laws_eqCtorInfo) := by kernel_rfl

theorem T.laws_eqCtorInfo_con {args : List AV} {res : AV} (hl : args.length = 2) (hn : AV.norefs args = true) (hw : wpT Try.prog (fun _ _ _ => False) (fun a => a = res) T.laws_eqCtorInfo args []) : PCon Try.prog F.laws_eqCtorInfo args res :=
  con_auto Try.func177 T.laws_eqCtorInfo_l hl hn hw

def T.impl_binarySign : T :=
.chk (.one (.c (.v (.string ⟨#[43]⟩)))) (
.chk (.one (.c (.v (.string ⟨#[45]⟩)))) (
.chk (.one (.c (.v (.string ⟨#[42]⟩)))) (
.chk (.one (.c (.v (.string ⟨#[94]⟩)))) (
.chk (.one (.c (.v (.string ⟨#[61]⟩)))) (
.chk (.one (.c (.v (.string ⟨#[60]⟩)))) (
.chk (.one (.c (.v (.string ⟨#[58, 61]⟩)))) (
.op (.mkl (.v (.string ⟨#[]⟩)) 7 [(0, (.c (.v (.string ⟨#[43]⟩)))), (1, (.c (.v (.string ⟨#[45]⟩)))), (2, (.c (.v (.string ⟨#[42]⟩)))), (3, (.c (.v (.string ⟨#[94]⟩)))), (4, (.c (.v (.string ⟨#[61]⟩)))), (5, (.c (.v (.string ⟨#[60]⟩)))), (6, (.c (.v (.string ⟨#[58, 61]⟩))))]) (
.op (.call F.slices_Contains__string_string [(.sl (.x 1)), (.x 0)] true) (
.ret [(.x 2)])))))))))

theorem T.impl_binarySign_l : leftF Try.prog [] FL Try.f178 = some (1, T.impl_binarySign) := by kernel_rfl

theorem T.impl_binarySign_con {args : List AV} {res : AV} (hl : args.length = 1) (hn : AV.norefs args = true) (hw : wpT Try.prog (fun _ _ _ => False) (fun a => a = res) T.impl_binarySign args []) : PCon Try.prog F.impl_binarySign args res :=
  con_auto Try.func178 T.impl_binarySign_l hl hn hw

def T.impl_primArity : T :=
.bind 0 (
 .op (.bin .eql (.x 0) (.c (.v (.string ⟨#[114, 101, 97, 100]⟩)))) (
 .ite (.x 1)
  (.esc (.ret [(.c (.v (.int .i64 0)))]))
  (.bind 1 (
   .op (.bin .eql (.x 0) (.c (.v (.string ⟨#[112, 114, 105, 110, 116]⟩)))) (
   .ite (.x 2)
    (.jump [(.x 2)])
    (.op (.bin .eql (.x 0) (.c (.v (.string ⟨#[101, 120, 105, 116]⟩)))) (
    .ite (.x 3)
     (.jump [(.x 3)])
     (.op (.bin .eql (.x 0) (.c (.v (.string ⟨#[115, 105, 122, 101]⟩)))) (
     .ite (.x 4)
      (.jump [(.x 4)])
      (.op (.bin .eql (.x 0) (.c (.v (.string ⟨#[114, 101, 102]⟩)))) (
      .ite (.x 5)
       (.jump [(.x 5)])
       (.op (.bin .eql (.x 0) (.c (.v (.string ⟨#[33]⟩)))) (
       .jump [(.x 6)])))))))))) (
  .ite (.x 2)
   (.esc (.ret [(.c (.v (.int .i64 1)))]))
   (.jump []))))) (
.ret [(.c (.v (.int .i64 (-1))))])

theorem T.impl_primArity_l : leftF Try.prog [] FL Try.f179 = some (1, T.impl_primArity) := by kernel_rfl

theorem T.impl_primArity_con {args : List AV} {res : AV} (hl : args.length = 1) (hn : AV.norefs args = true) (hw : wpT Try.prog (fun _ _ _ => False) (fun a => a = res) T.impl_primArity args []) : PCon Try.prog F.impl_primArity args res :=
  con_auto Try.func179 T.impl_primArity_l hl hn hw

def T.slices_ContainsFunc__impl_Pat_impl_Pat : T :=
.op (.call F.slices_IndexFunc__impl_Pat_impl_Pat [(.x 0), (.x 1)] false) (
.op (.bin .geq (.x 2) (.c (.v (.int .i64 0)))) (
.ret [(.x 3)]))

theorem T.slices_ContainsFunc__impl_Pat_impl_Pat_l : leftF Try.prog [] FL Try.f180 = some (2, T.slices_ContainsFunc__impl_Pat_impl_Pat) := by kernel_rfl

theorem T.slices_ContainsFunc__impl_Pat_impl_Pat_con {args : List AV} {res : AV} (hl : args.length = 2) (hn : AV.norefs args = true) (hw : wpT Try.prog (fun _ _ _ => False) (fun a => a = res) T.slices_ContainsFunc__impl_Pat_impl_Pat args []) : PCon Try.prog F.slices_ContainsFunc__impl_Pat_impl_Pat args res :=
  con_auto Try.func180 T.slices_ContainsFunc__impl_Pat_impl_Pat_l hl hn hw

def T.impl_patOk_1 : T :=
.chk (.cells (.x 0) 5) (
.chk (.cells (.x 0) 5) (
.op (.call F.impl_patOk [(.x 0)] false) (
.op (.un .not (.x 1)) (
.ret [(.x 2)]))))

theorem T.impl_patOk_1_l : leftF Try.prog [] FL Try.f181 = some (1, T.impl_patOk_1) := by kernel_rfl

theorem T.impl_patOk_1_con {args : List AV} {res : AV} (hl : args.length = 1) (hn : AV.norefs args = true) (hw : wpT Try.prog (fun _ _ _ => False) (fun a => a = res) T.impl_patOk_1 args []) : PCon Try.prog F.impl_patOk_1 args res :=
  con_auto Try.func181 T.impl_patOk_1_l hl hn hw

-- slices_Grow_impl_names_string: code not covered
def T.slices_EqualFunc__impl_Pat__impl_Pat_impl_Pat_impl_Pat : T :=
.op (.lenL (.x 0)) (
.op (.lenL (.x 1)) (
.op (.bin .neq (.x 3) (.x 4)) (
.ite (.x 5)
 (.ret [(.c (.v (.bool false)))])
 (.bind 0 (
  .op (.lenL (.x 0)) (
  .loop [(.c (.v (.int .i64 0)))] (
   .op (.bin .lss (.x 7) (.x 6)) (
   .ite (.x 8)
    (.op (.elem 5 (.x 0) (.x 7)) (
    .chk (.cells (.x 9) 5) (
    .chk (.cells (.x 9) 5) (
    .op (.elem 5 (.x 1) (.x 7)) (
    .chk (.cells (.x 10) 5) (
    .chk (.cells (.x 10) 5) (
    .chk (.cells (.x 9) 5) (
    .chk (.cells (.x 10) 5) (
    .op (.callv (.x 2) [(.x 9), (.x 10)] false) (
    .op (.un .not (.x 11)) (
    .ite (.x 12)
     (.esc (.esc (.ret [(.c (.v (.bool false)))])))
     (.op (.bin .add (.x 7) (.c (.v (.int .i64 1)))) (
     .jump [(.x 13)])))))))))))))
    (.esc (.jump [])))))) (
 .ret [(.c (.v (.bool true)))])))))

theorem T.slices_EqualFunc__impl_Pat__impl_Pat_impl_Pat_impl_Pat_l : leftF Try.prog [] FL Try.f183 = some (3, T.slices_EqualFunc__impl_Pat__impl_Pat_impl_Pat_impl_Pat) := by kernel_rfl

theorem T.slices_EqualFunc__impl_Pat__impl_Pat_impl_Pat_impl_Pat_con {args : List AV} {res : AV} (hl : args.length = 3) (hn : AV.norefs args = true) (hw : wpT Try.prog (fun _ _ _ => False) (fun a => a = res) T.slices_EqualFunc__impl_Pat__impl_Pat_impl_Pat_impl_Pat args []) : PCon Try.prog F.slices_EqualFunc__impl_Pat__impl_Pat_impl_Pat_impl_Pat args res :=
  con_auto Try.func183 T.slices_EqualFunc__impl_Pat__impl_Pat_impl_Pat_impl_Pat_l hl hn hw

def T.laws_szPat : T :=
.chk (.cells (.x 0) 5) (
.op (.lenS (.cell 0 1)) (
.op (.bin .sub (.x 1) (.x 2)) (
.op (.bin .lss (.x 3) (.c (.v (.int .i64 0)))) (
.ite (.x 4)
 (.ret [(.c (.v (.int .i64 (-1))))])
 (.op (.call F.laws_szPatS [(.cell 0 4), (.x 3)] false) (
 .op (.bin .lss (.x 5) (.c (.v (.int .i64 0)))) (
 .ite (.x 6)
  (.ret [(.c (.v (.int .i64 (-1))))])
  (.ret [(.x 5)]))))))))

theorem T.laws_szPat_l : leftF Try.prog [] FL Try.f184 = some (2, T.laws_szPat) := by kernel_rfl

theorem T.laws_szPat_con {args : List AV} {res : AV} (hl : args.length = 2) (hn : AV.norefs args = true) (hw : wpT Try.prog (fun _ _ _ => False) (fun a => a = res) T.laws_szPat args []) : PCon Try.prog F.laws_szPat args res :=
  con_auto Try.func184 T.laws_szPat_l hl hn hw

def T.laws_toPat : T :=
.chk (.cells (.x 0) 5) (
.chk (.one (.cell 0 0)) (
.chk (.one (.cell 0 1)) (
.chk (.one (.cell 0 2)) (
.chk (.one (.cell 0 3)) (
.op (.call F.laws_toPatS [(.cell 0 4)] false) (
.chk (.one (.x 1)) (
.chk (.cells (.agg [(.cell 0 0), (.cell 0 1), (.cell 0 2), (.cell 0 3), (.x 1)]) 5) (
.ret [(.agg [(.cell 0 0), (.cell 0 1), (.cell 0 2), (.cell 0 3), (.x 1)])]))))))))

theorem T.laws_toPat_l : leftF Try.prog [] FL Try.f185 = some (1, T.laws_toPat) := by kernel_rfl

theorem T.laws_toPat_con {args : List AV} {res : AV} (hl : args.length = 1) (hn : AV.norefs args = true) (hw : wpT Try.prog (fun _ _ _ => False) (fun a => a = res) T.laws_toPat args []) : PCon Try.prog F.laws_toPat args res :=
  con_auto Try.func185 T.laws_toPat_l hl hn hw

def T.laws_eqPat : T :=
.chk (.cells (.x 0) 5) (
.chk (.cells (.x 1) 5) (
.op (.bin .neq (.cell 0 0) (.cell 1 0)) (
.ite (.x 2)
 (.ret [(.c (.v (.bool false)))])
 (.op (.bin .neq (.cell 0 1) (.cell 1 1)) (
 .ite (.x 3)
  (.ret [(.c (.v (.bool false)))])
  (.op (.bin .neq (.cell 0 2) (.cell 1 2)) (
  .ite (.x 4)
   (.ret [(.c (.v (.bool false)))])
   (.op (.bin .neq (.cell 0 3) (.cell 1 3)) (
   .ite (.x 5)
    (.ret [(.c (.v (.bool false)))])
    (.op (.call F.laws_eqPatS [(.cell 0 4), (.cell 1 4)] false) (
    .op (.un .not (.x 6)) (
    .ite (.x 7)
     (.ret [(.c (.v (.bool false)))])
     (.ret [(.c (.v (.bool true)))])))))))))))))

theorem T.laws_eqPat_l : leftF Try.prog [] FL Try.f186 = some (2, T.laws_eqPat) := by kernel_rfl

theorem T.laws_eqPat_con {args : List AV} {res : AV} (hl : args.length = 2) (hn : AV.norefs args = true) (hw : wpT Try.prog (fun _ _ _ => False) (fun a => a = res) T.laws_eqPat args []) : PCon Try.prog F.laws_eqPat args res :=
  con_auto Try.func186 T.laws_eqPat_l hl hn hw

def T.slices_Index__int_int : T :=
.bind 0 (
 .op (.lenL (.x 0)) (
 .loop [(.c (.v (.int .i64 0)))] (
  .op (.bin .lss (.x 3) (.x 2)) (
  .ite (.x 4)
   (.op (.elem 1 (.x 0) (.x 3)) (
   .chk (.lt (.x 5) 0) (
   .op (.bin .eql (.x 1) (.cell 5 0)) (
   .ite (.x 6)
    (.esc (.esc (.ret [(.x 3)])))
    (.op (.bin .add (.x 3) (.c (.v (.int .i64 1)))) (
    .jump [(.x 7)]))))))
   (.esc (.jump [])))))) (
.ret [(.c (.v (.int .i64 (-1))))])

theorem T.slices_Index__int_int_l : leftF Try.prog [] FL Try.f187 = some (2, T.slices_Index__int_int) := by kernel_rfl

theorem T.slices_Index__int_int_con {args : List AV} {res : AV} (hl : args.length = 2) (hn : AV.norefs args = true) (hw : wpT Try.prog (fun _ _ _ => False) (fun a => a = res) T.slices_Index__int_int args []) : PCon Try.prog F.slices_Index__int_int args res :=
  con_auto Try.func187 T.slices_Index__int_int_l hl hn hw

def T.slices_EqualFunc__impl_Ty__impl_Ty_impl_Ty_impl_Ty : T :=
.op (.lenL (.x 0)) (
.op (.lenL (.x 1)) (
.op (.bin .neq (.x 3) (.x 4)) (
.ite (.x 5)
 (.ret [(.c (.v (.bool false)))])
 (.bind 0 (
  .op (.lenL (.x 0)) (
  .loop [(.c (.v (.int .i64 0)))] (
   .op (.bin .lss (.x 7) (.x 6)) (
   .ite (.x 8)
    (.op (.elem 4 (.x 0) (.x 7)) (
    .chk (.cells (.x 9) 4) (
    .chk (.cells (.x 9) 4) (
    .op (.elem 4 (.x 1) (.x 7)) (
    .chk (.cells (.x 10) 4) (
    .chk (.cells (.x 10) 4) (
    .chk (.cells (.x 9) 4) (
    .chk (.cells (.x 10) 4) (
    .op (.callv (.x 2) [(.x 9), (.x 10)] false) (
    .op (.un .not (.x 11)) (
    .ite (.x 12)
     (.esc (.esc (.ret [(.c (.v (.bool false)))])))
     (.op (.bin .add (.x 7) (.c (.v (.int .i64 1)))) (
     .jump [(.x 13)])))))))))))))
    (.esc (.jump [])))))) (
 .ret [(.c (.v (.bool true)))])))))

theorem T.slices_EqualFunc__impl_Ty__impl_Ty_impl_Ty_impl_Ty_l : leftF Try.prog [] FL Try.f188 = some (3, T.slices_EqualFunc__impl_Ty__impl_Ty_impl_Ty_impl_Ty) := by kernel_rfl

theorem T.slices_EqualFunc__impl_Ty__impl_Ty_impl_Ty_impl_Ty_con {args : List AV} {res : AV} (hl : args.length = 3) (hn : AV.norefs args = true) (hw : wpT Try.prog (fun _ _ _ => False) (fun a => a = res) T.slices_EqualFunc__impl_Ty__impl_Ty_impl_Ty_impl_Ty args []) : PCon Try.prog F.slices_EqualFunc__impl_Ty__impl_Ty_impl_Ty_impl_Ty args res :=
  con_auto Try.func188 T.slices_EqualFunc__impl_Ty__impl_Ty_impl_Ty_impl_Ty_l hl hn hw

def T.laws_szCPat : T :=
.chk (.cells (.x 0) 8) (
.op (.lenS (.cell 0 2)) (
.op (.bin .sub (.x 1) (.x 2)) (
.op (.bin .lss (.x 3) (.c (.v (.int .i64 0)))) (
.ite (.x 4)
 (.ret [(.c (.v (.int .i64 (-1))))])
 (.op (.call F.laws_szTy [(.agg [(.cell 0 3), (.cell 0 4), (.cell 0 5), (.cell 0 6)]), (.x 3)] false) (
 .op (.bin .lss (.x 5) (.c (.v (.int .i64 0)))) (
 .ite (.x 6)
  (.ret [(.c (.v (.int .i64 (-1))))])
  (.op (.call F.laws_szCPatS [(.cell 0 7), (.x 5)] false) (
  .op (.bin .lss (.x 7) (.c (.v (.int .i64 0)))) (
  .ite (.x 8)
   (.ret [(.c (.v (.int .i64 (-1))))])
   (.ret [(.x 7)])))))))))))

theorem T.laws_szCPat_l : leftF Try.prog [] FL Try.f189 = some (2, T.laws_szCPat) := by kernel_rfl

theorem T.laws_szCPat_con {args : List AV} {res : AV} (hl : args.length = 2) (hn : AV.norefs args = true) (hw : wpT Try.prog (fun _ _ _ => False) (fun a => a = res) T.laws_szCPat args []) : PCon Try.prog F.laws_szCPat args res :=
  con_auto Try.func189 T.laws_szCPat_l hl hn hw

def T.laws_toCPat : T :=
.chk (.cells (.x 0) 8) (
.chk (.one (.cell 0 0)) (
.chk (.one (.cell 0 1)) (
.chk (.one (.cell 0 2)) (
.op (.call F.laws_toTy [(.agg [(.cell 0 3), (.cell 0 4), (.cell 0 5), (.cell 0 6)])] false) (
.chk (.cells (.x 1) 4) (
.op (.call F.laws_toCPatS [(.cell 0 7)] false) (
.chk (.one (.x 2)) (
.chk (.cells (.agg [(.cell 0 0), (.cell 0 1), (.cell 0 2), (.cell 1 0), (.cell 1 1), (.cell 1 2), (.cell 1 3), (.x 2)]) 8) (
.ret [(.agg [(.cell 0 0), (.cell 0 1), (.cell 0 2), (.cell 1 0), (.cell 1 1), (.cell 1 2), (.cell 1 3), (.x 2)])])))))))))

theorem T.laws_toCPat_l : leftF Try.prog [] FL Try.f190 = some (1, T.laws_toCPat) := by kernel_rfl

theorem T.laws_toCPat_con {args : List AV} {res : AV} (hl : args.length = 1) (hn : AV.norefs args = true) (hw : wpT Try.prog (fun _ _ _ => False) (fun a => a = res) T.laws_toCPat args []) : PCon Try.prog F.laws_toCPat args res :=
  con_auto Try.func190 T.laws_toCPat_l hl hn hw

def T.laws_eqCPat : T :=
.chk (.cells (.x 0) 8) (
.chk (.cells (.x 1) 8) (
.op (.bin .neq (.cell 0 0) (.cell 1 0)) (
.ite (.x 2)
 (.ret [(.c (.v (.bool false)))])
 (.op (.bin .neq (.cell 0 1) (.cell 1 1)) (
 .ite (.x 3)
  (.ret [(.c (.v (.bool false)))])
  (.op (.bin .neq (.cell 0 2) (.cell 1 2)) (
  .ite (.x 4)
   (.ret [(.c (.v (.bool false)))])
   (.op (.call F.laws_eqTy [(.agg [(.cell 0 3), (.cell 0 4), (.cell 0 5), (.cell 0 6)]), (.agg [(.cell 1 3), (.cell 1 4), (.cell 1 5), (.cell 1 6)])] false) (
   .op (.un .not (.x 5)) (
   .ite (.x 6)
    (.ret [(.c (.v (.bool false)))])
    (.op (.call F.laws_eqCPatS [(.cell 0 7), (.cell 1 7)] false) (
    .op (.un .not (.x 7)) (
    .ite (.x 8)
     (.ret [(.c (.v (.bool false)))])
     (.ret [(.c (.v (.bool true)))]))))))))))))))

theorem T.laws_eqCPat_l : leftF Try.prog [] FL Try.f191 = some (2, T.laws_eqCPat) := by kernel_rfl

theorem T.laws_eqCPat_con {args : List AV} {res : AV} (hl : args.length = 2) (hn : AV.norefs args = true) (hw : wpT Try.prog (fun _ _ _ => False) (fun a => a = res) T.laws_eqCPat args []) : PCon Try.prog F.laws_eqCPat args res :=
  con_auto Try.func191 T.laws_eqCPat_l hl hn hw

def T.slices_IndexFunc__impl_Pat_impl_Pat : T :=
.bind 0 (
 .op (.lenL (.x 0)) (
 .loop [(.c (.v (.int .i64 0)))] (
  .op (.bin .lss (.x 3) (.x 2)) (
  .ite (.x 4)
   (.op (.elem 5 (.x 0) (.x 3)) (
   .chk (.cells (.x 5) 5) (
   .op (.callv (.x 1) [(.x 5)] false) (
   .ite (.x 6)
    (.esc (.esc (.ret [(.x 3)])))
    (.op (.bin .add (.x 3) (.c (.v (.int .i64 1)))) (
    .jump [(.x 7)]))))))
   (.esc (.jump [])))))) (
.ret [(.c (.v (.int .i64 (-1))))])

theorem T.slices_IndexFunc__impl_Pat_impl_Pat_l : leftF Try.prog [] FL Try.f192 = some (2, T.slices_IndexFunc__impl_Pat_impl_Pat) := by kernel_rfl

theorem T.slices_IndexFunc__impl_Pat_impl_Pat_con {args : List AV} {res : AV} (hl : args.length = 2) (hn : AV.norefs args = true) (hw : wpT Try.prog (fun _ _ _ => False) (fun a => a = res) T.slices_IndexFunc__impl_Pat_impl_Pat args []) : PCon Try.prog F.slices_IndexFunc__impl_Pat_impl_Pat args res :=
  con_auto Try.func192 T.slices_IndexFunc__impl_Pat_impl_Pat_l hl hn hw

def T.laws_szPatS : T :=
.op (.lenL (.x 0)) (
.op (.bin .sub (.x 1) (.x 2)) (
.op (.bin .lss (.x 3) (.c (.v (.int .i64 0)))) (
.ite (.x 4)
 (.ret [(.c (.v (.int .i64 (-1))))])
 (.bind 1 (
  .loop [(.x 3), (.c (.v (.int .i64 0)))] (
   .op (.lenL (.x 0)) (
   .op (.bin .lss (.x 6) (.x 7)) (
   .ite (.x 8)
    (.op (.elem 5 (.x 0) (.x 6)) (
    .chk (.cells (.x 9) 5) (
    .op (.call F.laws_szPat [(.x 9), (.x 5)] false) (
    .op (.bin .lss (.x 10) (.c (.v (.int .i64 0)))) (
    .ite (.x 11)
     (.esc (.esc (.ret [(.c (.v (.int .i64 (-1))))])))
     (.op (.bin .add (.x 6) (.c (.v (.int .i64 1)))) (
     .jump [(.x 10), (.x 12)])))))))
    (.esc (.jump [(.x 5)])))))) (
 .ret [(.x 5)])))))

theorem T.laws_szPatS_l : leftF Try.prog [] FL Try.f193 = some (2, T.laws_szPatS) := by kernel_rfl

theorem T.laws_szPatS_con {args : List AV} {res : AV} (hl : args.length = 2) (hn : AV.norefs args = true) (hw : wpT Try.prog (fun _ _ _ => False) (fun a => a = res) T.laws_szPatS args []) : PCon Try.prog F.laws_szPatS args res :=
  con_auto Try.func193 T.laws_szPatS_l hl hn hw

def T.laws_toPatS : T :=
.op (.lenL (.x 0)) (
.op (.rep 64 (.agg [(.v (.int .i64 0)), (.v (.string ⟨#[]⟩)), (.v (.int .i64 0)), (.v (.int .i64 0)), .nils]) (.x 1) (.x 1)) (
.bind 1 (
 .loop [(.x 2), (.c (.v (.int .i64 0)))] (
  .op (.lenL (.x 0)) (
  .op (.bin .lss (.x 4) (.x 5)) (
  .ite (.x 6)
   (.op (.elem 5 (.x 0) (.x 4)) (
   .chk (.cells (.x 7) 5) (
   .op (.call F.laws_toPat [(.x 7)] false) (
   .chk (.idx (.x 3) (.x 4)) (
   .chk (.cells (.x 8) 5) (
   .op (.set (.x 3) (.x 4) 0 5 (.x 8)) (
   .op (.bin .add (.x 4) (.c (.v (.int .i64 1)))) (
   .jump [(.x 9), (.x 10)]))))))))
   (.esc (.jump [(.x 3)])))))) (
.ret [(.sl (.x 3))])))

theorem T.laws_toPatS_l : leftF Try.prog [] FL Try.f194 = some (1, T.laws_toPatS) := by kernel_rfl

theorem T.laws_toPatS_con {args : List AV} {res : AV} (hl : args.length = 1) (hn : AV.norefs args = true) (hw : wpT Try.prog (fun _ _ _ => False) (fun a => a = res) T.laws_toPatS args []) : PCon Try.prog F.laws_toPatS args res :=
  con_auto Try.func194 T.laws_toPatS_l hl hn hw

def T.laws_eqPatS : T :=
.op (.lenL (.x 0)) (
.op (.lenL (.x 1)) (
.op (.bin .neq (.x 2) (.x 3)) (
.ite (.x 4)
 (.ret [(.c (.v (.bool false)))])
 (.bind 0 (
  .loop [(.c (.v (.int .i64 0)))] (
   .op (.lenL (.x 0)) (
   .op (.bin .lss (.x 5) (.x 6)) (
   .ite (.x 7)
    (.op (.elem 5 (.x 0) (.x 5)) (
    .chk (.cells (.x 8) 5) (
    .op (.elem 5 (.x 1) (.x 5)) (
    .chk (.cells (.x 9) 5) (
    .op (.call F.laws_eqPat [(.x 8), (.x 9)] false) (
    .op (.un .not (.x 10)) (
    .ite (.x 11)
     (.esc (.esc (.ret [(.c (.v (.bool false)))])))
     (.op (.bin .add (.x 5) (.c (.v (.int .i64 1)))) (
     .jump [(.x 12)])))))))))
    (.esc (.jump [])))))) (
 .ret [(.c (.v (.bool true)))])))))

theorem T.laws_eqPatS_l : leftF Try.prog [] FL Try.f195 = some (2, T.laws_eqPatS) := by kernel_rfl

theorem T.laws_eqPatS_con {args : List AV} {res : AV} (hl : args.length = 2) (hn : AV.norefs args = true) (hw : wpT Try.prog (fun _ _ _ => False) (fun a => a = res) T.laws_eqPatS args []) : PCon Try.prog F.laws_eqPatS args res :=
  con_auto Try.func195 T.laws_eqPatS_l hl hn hw

def T.laws_szCPatS : T :=
.op (.lenL (.x 0)) (
.op (.bin .sub (.x 1) (.x 2)) (
.op (.bin .lss (.x 3) (.c (.v (.int .i64 0)))) (
.ite (.x 4)
 (.ret [(.c (.v (.int .i64 (-1))))])
 (.bind 1 (
  .loop [(.x 3), (.c (.v (.int .i64 0)))] (
   .op (.lenL (.x 0)) (
   .op (.bin .lss (.x 6) (.x 7)) (
   .ite (.x 8)
    (.op (.elem 8 (.x 0) (.x 6)) (
    .chk (.cells (.x 9) 8) (
    .op (.call F.laws_szCPat [(.x 9), (.x 5)] false) (
    .op (.bin .lss (.x 10) (.c (.v (.int .i64 0)))) (
    .ite (.x 11)
     (.esc (.esc (.ret [(.c (.v (.int .i64 (-1))))])))
     (.op (.bin .add (.x 6) (.c (.v (.int .i64 1)))) (
     .jump [(.x 10), (.x 12)])))))))
    (.esc (.jump [(.x 5)])))))) (
 .ret [(.x 5)])))))

theorem T.laws_szCPatS_l : leftF Try.prog [] FL Try.f196 = some (2, T.laws_szCPatS) := by kernel_rfl

theorem T.laws_szCPatS_con {args : List AV} {res : AV} (hl : args.length = 2) (hn : AV.norefs args = true) (hw : wpT Try.prog (fun _ _ _ => False) (fun a => a = res) T.laws_szCPatS args []) : PCon Try.prog F.laws_szCPatS args res :=
  con_auto Try.func196 T.laws_szCPatS_l hl hn hw

def T.laws_toCPatS : T :=
.op (.lenL (.x 0)) (
.op (.rep 112 (.agg [(.v (.int .i64 0)), (.v (.int .i64 0)), (.v (.string ⟨#[]⟩)), (.v (.int .i64 0)), (.v (.int .i64 0)), (.v (.string ⟨#[]⟩)), .nils, .nils]) (.x 1) (.x 1)) (
.bind 1 (
 .loop [(.x 2), (.c (.v (.int .i64 0)))] (
  .op (.lenL (.x 0)) (
  .op (.bin .lss (.x 4) (.x 5)) (
  .ite (.x 6)
   (.op (.elem 8 (.x 0) (.x 4)) (
   .chk (.cells (.x 7) 8) (
   .op (.call F.laws_toCPat [(.x 7)] false) (
   .chk (.idx (.x 3) (.x 4)) (
   .chk (.cells (.x 8) 8) (
   .op (.set (.x 3) (.x 4) 0 8 (.x 8)) (
   .op (.bin .add (.x 4) (.c (.v (.int .i64 1)))) (
   .jump [(.x 9), (.x 10)]))))))))
   (.esc (.jump [(.x 3)])))))) (
.ret [(.sl (.x 3))])))

theorem T.laws_toCPatS_l : leftF Try.prog [] FL Try.f197 = some (1, T.laws_toCPatS) := by kernel_rfl

theorem T.laws_toCPatS_con {args : List AV} {res : AV} (hl : args.length = 1) (hn : AV.norefs args = true) (hw : wpT Try.prog (fun _ _ _ => False) (fun a => a = res) T.laws_toCPatS args []) : PCon Try.prog F.laws_toCPatS args res :=
  con_auto Try.func197 T.laws_toCPatS_l hl hn hw

def T.laws_eqCPatS : T :=
.op (.lenL (.x 0)) (
.op (.lenL (.x 1)) (
.op (.bin .neq (.x 2) (.x 3)) (
.ite (.x 4)
 (.ret [(.c (.v (.bool false)))])
 (.bind 0 (
  .loop [(.c (.v (.int .i64 0)))] (
   .op (.lenL (.x 0)) (
   .op (.bin .lss (.x 5) (.x 6)) (
   .ite (.x 7)
    (.op (.elem 8 (.x 0) (.x 5)) (
    .chk (.cells (.x 8) 8) (
    .op (.elem 8 (.x 1) (.x 5)) (
    .chk (.cells (.x 9) 8) (
    .op (.call F.laws_eqCPat [(.x 8), (.x 9)] false) (
    .op (.un .not (.x 10)) (
    .ite (.x 11)
     (.esc (.esc (.ret [(.c (.v (.bool false)))])))
     (.op (.bin .add (.x 5) (.c (.v (.int .i64 1)))) (
     .jump [(.x 12)])))))))))
    (.esc (.jump [])))))) (
 .ret [(.c (.v (.bool true)))])))))

theorem T.laws_eqCPatS_l : leftF Try.prog [] FL Try.f198 = some (2, T.laws_eqCPatS) := by kernel_rfl

theorem T.laws_eqCPatS_con {args : List AV} {res : AV} (hl : args.length = 2) (hn : AV.norefs args = true) (hw : wpT Try.prog (fun _ _ _ => False) (fun a => a = res) T.laws_eqCPatS args []) : PCon Try.prog F.laws_eqCPatS args res :=
  con_auto Try.func198 T.laws_eqCPatS_l hl hn hw

end Go.Proofs.Ab
