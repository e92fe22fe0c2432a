/-
  WHAT IS LEFT of this seat's functions, printed by a program of ours (wip/tool/Gen2.lean) from the translation; each with the theorem that it is what is left of that function.
-/
import Derived.Test.YtjklngbcegdjhaaChecked
import Derived.KernelRfl
import Derived.Test.YtjklngbcegdjhaaAbM4

set_option linter.unusedVariables false
set_option linter.unusedSimpArgs false
set_option linter.defProp false

namespace Go.Proofs.Ab
open Go.Ab
set_option maxRecDepth 100000

namespace F
abbrev main_main : FuncId := 0
abbrev laws_FnExactPutShort : FuncId := 3
abbrev laws_FnShort : FuncId := 4
abbrev laws_FnExactGetShort : FuncId := 5
abbrev laws_FnExactStats : FuncId := 6
abbrev laws_FnRenamed : FuncId := 7
abbrev laws_FnExactFree : FuncId := 8
abbrev laws_FnExactPut : FuncId := 9
abbrev laws_FnExactAlpha : FuncId := 10
abbrev laws_FnExactUses : FuncId := 11
abbrev laws_FnExactHomes : FuncId := 12
abbrev laws_FnExactUnify : FuncId := 13
abbrev spec_PutShort : FuncId := 14
abbrev impl_PutShort : FuncId := 15
abbrev laws_eqByteS : FuncId := 16
abbrev laws_markByteS : FuncId := 17
abbrev laws_heldByteS : FuncId := 18
abbrev laws_big : FuncId := 19
abbrev spec_DrawPutShort : FuncId := 20
abbrev impl_GetShort : FuncId := 21
abbrev spec_GetShort : FuncId := 22
abbrev laws_toByteS : FuncId := 23
abbrev laws_szCode : FuncId := 24
abbrev spec_Stats : FuncId := 25
abbrev laws_toCode : FuncId := 26
abbrev impl_Stats : FuncId := 27
abbrev laws_eqIntA16 : FuncId := 28
abbrev laws_eqCode : FuncId := 29
abbrev laws_at : FuncId := 30
abbrev impl_Alpha : FuncId := 31
abbrev laws_szTy : FuncId := 32
abbrev spec_Free : FuncId := 33
abbrev laws_toTy : FuncId := 34
abbrev impl_Free : FuncId := 35
abbrev laws_eqIntS : FuncId := 36
abbrev laws_eqTy : FuncId := 37
abbrev laws_markTy : FuncId := 38
abbrev laws_markIntS : FuncId := 39
abbrev laws_heldIntS : FuncId := 40
abbrev laws_szTyS : FuncId := 41
abbrev spec_Put : FuncId := 42
abbrev laws_toTyS : FuncId := 43
abbrev impl_Put : FuncId := 44
abbrev laws_eqTyS : FuncId := 45
abbrev laws_markTyS : FuncId := 46
abbrev laws_heldTy : FuncId := 47
abbrev laws_szExp : FuncId := 48
abbrev spec_Alpha : FuncId := 49
abbrev laws_toExp : FuncId := 50
abbrev laws_eqExp : FuncId := 51
abbrev laws_szKTerm : FuncId := 52
abbrev spec_Uses : FuncId := 53
abbrev laws_toKTerm : FuncId := 54
abbrev impl_Uses : FuncId := 55
abbrev laws_eqKTerm : FuncId := 56
abbrev laws_markKTerm : FuncId := 57
abbrev spec_Homes : FuncId := 58
abbrev impl_Homes : FuncId := 59
abbrev spec_Unify : FuncId := 60
abbrev impl_Unify : FuncId := 61
abbrev laws_heldTyS : FuncId := 62
abbrev impl_turned : FuncId := 63
abbrev spec_l1New : FuncId := 64
abbrev spec_l1Once : FuncId := 65
abbrev spec_l1Odd : FuncId := 66
abbrev spec_l1Below : FuncId := 67
abbrev impl_within : FuncId := 68
abbrev spec_l1In : FuncId := 69
abbrev spec_l20Same : FuncId := 70
abbrev laws_szInstrS : FuncId := 71
abbrev laws_szIntS : FuncId := 72
abbrev laws_toInstrS : FuncId := 73
abbrev laws_toIntS : FuncId := 74
abbrev laws_eqInstrS : FuncId := 75
abbrev impl_ExpOk : FuncId := 76
abbrev impl_alpha : FuncId := 77
abbrev spec_TyOk : FuncId := 78
abbrev spec_l4Free : FuncId := 79
abbrev impl_isVarKind : FuncId := 80
abbrev impl_TyOk : FuncId := 81
abbrev impl_frees : FuncId := 82
abbrev spec_l4Copy : FuncId := 83
abbrev spec_l4Put : FuncId := 84
abbrev impl_copyTy : FuncId := 85
abbrev impl_put : FuncId := 86
abbrev laws_markText : FuncId := 87
abbrev laws_szExpS : FuncId := 88
abbrev laws_szArmS : FuncId := 89
abbrev spec_ExpOk : FuncId := 90
abbrev spec_l19Same : FuncId := 91
abbrev laws_toExpS : FuncId := 92
abbrev laws_toArmS : FuncId := 93
abbrev laws_eqExpS : FuncId := 94
abbrev laws_eqArmS : FuncId := 95
abbrev laws_szKValS : FuncId := 96
abbrev laws_szKTermS : FuncId := 97
abbrev spec_l13Fine : FuncId := 98
abbrev spec_l13Bound : FuncId := 99
abbrev spec_l13Uses : FuncId := 100
abbrev laws_toKValS : FuncId := 101
abbrev laws_toKTermS : FuncId := 102
abbrev impl_KSize : FuncId := 103
abbrev impl_greatestBound : FuncId := 104
abbrev impl_eachAt : FuncId := 105
abbrev impl_Uses_1 : FuncId := 106
abbrev laws_eqKValS : FuncId := 107
abbrev laws_eqKTermS : FuncId := 108
abbrev laws_markKValS : FuncId := 109
abbrev laws_markKTermS : FuncId := 110
abbrev slices_Index__bool_bool : FuncId := 111
abbrev spec_l4Right : FuncId := 112
abbrev spec_l4Metas : FuncId := 113
abbrev spec_l4Lay : FuncId := 114
abbrev spec_l4Join : FuncId := 115
abbrev spec_l4Sizes : FuncId := 116
abbrev spec_l4Find : FuncId := 117
abbrev spec_l4Read : FuncId := 118
abbrev impl_unifyOk : FuncId := 119
abbrev impl_Unify_1 : FuncId := 120
abbrev impl_join : FuncId := 121
abbrev impl_nodeOf : FuncId := 122
abbrev impl_endless : FuncId := 123
abbrev impl_nodeSize : FuncId := 124
abbrev impl_tyOf : FuncId := 125
abbrev impl_Unify_2 : FuncId := 126
abbrev spec_l1Int : FuncId := 127
abbrev spec_l1Byte : FuncId := 128
abbrev laws_szInstr : FuncId := 129
abbrev laws_toInstr : FuncId := 130
abbrev laws_eqInstr : FuncId := 131
abbrev impl_headOk : FuncId := 132
abbrev impl_patOk : FuncId := 133
abbrev impl_names_at : FuncId := 134
abbrev slices_Concat_impl_names_string : FuncId := 135
abbrev impl_bindsIn : FuncId := 136
abbrev impl_alikePat : FuncId := 137
abbrev impl_patNames : FuncId := 138
abbrev spec_l4Node : FuncId := 139
abbrev spec_l4Has : FuncId := 140
abbrev impl_tyHeadOk : FuncId := 141
abbrev slices_ContainsFunc__impl_Ty_impl_Ty : FuncId := 142
abbrev impl_TyOk_1 : FuncId := 143
abbrev slices_Contains__int_int : FuncId := 144
abbrev laws_szArm : FuncId := 145
abbrev spec_l2Node : FuncId := 146
abbrev spec_l2PatOk : FuncId := 147
abbrev spec_l19Name : FuncId := 148
abbrev spec_l5With : FuncId := 149
abbrev spec_l19Pats : FuncId := 150
abbrev laws_toArm : FuncId := 151
abbrev laws_eqArm : FuncId := 152
abbrev laws_szKVal : FuncId := 153
abbrev spec_KSize : FuncId := 154
abbrev spec_l13Binds : FuncId := 155
abbrev spec_l13Kid : FuncId := 156
abbrev spec_l13Most : FuncId := 157
abbrev laws_toKVal : FuncId := 158
abbrev impl_binding : FuncId := 159
abbrev impl_homeScope : FuncId := 160
abbrev impl_greatestScope : FuncId := 161
abbrev laws_eqKVal : FuncId := 162
abbrev spec_TySize : FuncId := 163
abbrev spec_l4Add : FuncId := 164
abbrev slices_Concat__impl_Ty_impl_Ty : FuncId := 165
abbrev impl_TySize : FuncId := 166
abbrev slices_ContainsFunc__int_int : FuncId := 167
abbrev impl_unifyOk_1 : FuncId := 168
abbrev impl_find : FuncId := 169
abbrev impl_plain : FuncId := 170
abbrev impl_lowOk : FuncId := 171
abbrev impl_upOk : FuncId := 172
abbrev impl_binarySign : FuncId := 173
abbrev impl_primArity : FuncId := 174
abbrev slices_ContainsFunc__impl_Pat_impl_Pat : FuncId := 175
abbrev impl_patOk_1 : FuncId := 176
abbrev slices_Grow_impl_names_string : FuncId := 177
abbrev slices_EqualFunc__impl_Pat__impl_Pat_impl_Pat_impl_Pat : FuncId := 178
abbrev spec_l1Low : FuncId := 179
abbrev slices_IndexFunc__impl_Ty_impl_Ty : FuncId := 180
abbrev slices_Index__int_int : FuncId := 181
abbrev laws_szPat : FuncId := 182
abbrev spec_l2Plain : FuncId := 183
abbrev spec_l1Chars : FuncId := 184
abbrev spec_l1Name : FuncId := 185
abbrev spec_l2Op : FuncId := 186
abbrev spec_l2Prim : FuncId := 187
abbrev spec_l19Bound : FuncId := 188
abbrev laws_toPat : FuncId := 189
abbrev laws_eqPat : FuncId := 190
abbrev slices_Grow__impl_Ty_impl_Ty : FuncId := 191
abbrev slices_IndexFunc__int_int : FuncId := 192
abbrev impl_isName : FuncId := 193
abbrev impl_small : FuncId := 194
abbrev impl_isKey : FuncId := 195
abbrev impl_great : FuncId := 196
abbrev slices_Contains__string_string : FuncId := 197
abbrev slices_IndexFunc__impl_Pat_impl_Pat : FuncId := 198
abbrev spec_l1Key : FuncId := 199
abbrev laws_szPatS : FuncId := 200
abbrev spec_l1Upper : FuncId := 201
abbrev spec_l1Lower : FuncId := 202
abbrev spec_l1NameByte : FuncId := 203
abbrev laws_toPatS : FuncId := 204
abbrev laws_eqPatS : FuncId := 205
abbrev impl_run : FuncId := 206
abbrev impl_nameByte : FuncId := 207
abbrev slices_Index__string_string : FuncId := 208
abbrev spec_l1Num : FuncId := 209
abbrev impl_digit : FuncId := 210
abbrev runtime_boundsError_Error : FuncId := 211
abbrev runtime_boundsError_RuntimeError : FuncId := 212
abbrev runtime_errorString_Error : FuncId := 213
abbrev runtime_errorString_RuntimeError : FuncId := 214
abbrev runtime_plainError_Error : FuncId := 215
abbrev runtime_plainError_RuntimeError : FuncId := 216
abbrev runtime_errorAddressString_Error : FuncId := 217
abbrev runtime_errorAddressString_RuntimeError : FuncId := 218
abbrev runtime_TypeAssertionError_Error : FuncId := 219
abbrev runtime_TypeAssertionError_RuntimeError : FuncId := 220
abbrev runtime_PanicNilError_Error : FuncId := 221
abbrev runtime_PanicNilError_RuntimeError : FuncId := 222
abbrev internalabi_Type_Align : FuncId := 223
abbrev internalruntimemaps_unhashableTypeError_Error : FuncId := 224
abbrev internalruntimemaps_unhashableTypeError_RuntimeError : FuncId := 225
abbrev internalabi_Kind_String : FuncId := 226
end F
def FL : List Nat := [3, 4, 5, 6, 7, 8, 9, 10, 11, 12, 13, 16, 17, 18, 19, 20, 21, 22, 24, 28, 29, 30, 31, 32, 36, 37, 38, 39, 40, 41, 45, 46, 47, 48, 49, 51, 52, 56, 57, 62, 63, 65, 66, 67, 68, 69, 70, 71, 72, 75, 76, 77, 78, 80, 81, 87, 88, 89, 90, 91, 94, 95, 96, 97, 98, 99, 103, 104, 107, 108, 109, 110, 111, 112, 114, 115, 116, 117, 119, 121, 123, 124, 127, 128, 129, 131, 132, 133, 134, 137, 139, 140, 141, 142, 143, 144, 145, 146, 147, 148, 152, 153, 154, 155, 156, 157, 159, 160, 161, 162, 163, 164, 166, 167, 168, 170, 171, 172, 173, 174, 175, 176, 178, 179, 180, 181, 182, 183, 184, 185, 186, 187, 188, 190, 192, 193, 194, 195, 196, 197, 198, 199, 200, 201, 202, 203, 205, 206, 207, 208, 209, 210]
def FR : List (Nat × Bool × Nat × Nat) := [(15, true, 5, 1), (14, false, 5, 1), (35, true, 3, 1), (33, false, 3, 1), (82, true, 3, 1)]

abbrev G.laws_markByteS : Sig := ⟨2, [(.row 0 (.x 0)), (.d (.x 1))], [(.row true 5 1 (.x 0))], 2, (.d (.x 1)), [(.row true 5 1 (.x 0))], [0]⟩
abbrev G.laws_markIntS : Sig := ⟨2, [(.row 0 (.x 0)), (.d (.x 1))], [(.row true 3 1 (.x 0))], 2, (.d (.x 1)), [(.row true 3 1 (.x 0))], [0]⟩
abbrev G.spec_l1New : Sig := ⟨1, [(.d (.x 0))], [], 3, (.ptr 0 0), [(.box 167 [(.d (.x 0)), (.d (.x 1)), (.d (.x 2))])], []⟩
abbrev G.spec_l1Once : Sig := ⟨4, [(.ptr 0 0), (.d (.x 3))], [(.box 167 [(.d (.x 0)), (.d (.x 1)), (.d (.x 2))])], 4, (.d (.x 0)), [(.box 167 [(.d (.x 1)), (.d (.x 2)), (.d (.x 3))])], []⟩
abbrev G.spec_l1Odd : Sig := ⟨3, [(.ptr 0 0)], [(.box 167 [(.d (.x 0)), (.d (.x 1)), (.d (.x 2))])], 4, (.d (.x 0)), [(.box 167 [(.d (.x 1)), (.d (.x 2)), (.d (.x 3))])], []⟩
abbrev G.spec_l1Below : Sig := ⟨4, [(.ptr 0 0), (.d (.x 3))], [(.box 167 [(.d (.x 0)), (.d (.x 1)), (.d (.x 2))])], 4, (.d (.x 0)), [(.box 167 [(.d (.x 1)), (.d (.x 2)), (.d (.x 3))])], []⟩
abbrev G.spec_l4Free : Sig := ⟨3, [(.d (.x 0)), (.d (.x 1)), (.row 0 (.x 2))], [(.row false 3 1 (.x 2))], 1, (.row 0 (.x 0)), [(.row false 3 1 (.x 0))], []⟩
abbrev G.spec_l13Uses : Sig := ⟨4, [(.d (.x 0)), (.d (.x 1)), (.d (.x 2)), (.row 0 (.x 3))], [(.row false 3 1 (.x 3))], 1, (.tup []), [(.row false 3 1 (.x 0))], [0]⟩
abbrev G.spec_l1Int : Sig := ⟨4, [(.ptr 0 0), (.d (.x 3))], [(.box 167 [(.d (.x 0)), (.d (.x 1)), (.d (.x 2))])], 4, (.d (.x 0)), [(.box 167 [(.d (.x 1)), (.d (.x 2)), (.d (.x 3))])], []⟩
abbrev G.spec_l1Byte : Sig := ⟨3, [(.ptr 0 0)], [(.box 167 [(.d (.x 0)), (.d (.x 1)), (.d (.x 2))])], 4, (.d (.x 0)), [(.box 167 [(.d (.x 1)), (.d (.x 2)), (.d (.x 3))])], []⟩
def SG : List (Nat × List Sig) := [(17, [G.laws_markByteS]), (39, [G.laws_markIntS]), (64, [G.spec_l1New]), (65, [G.spec_l1Once]), (66, [G.spec_l1Odd]), (67, [G.spec_l1Below]), (79, [G.spec_l4Free]), (100, [G.spec_l13Uses]), (127, [G.spec_l1Int]), (128, [G.spec_l1Byte])]
abbrev CF : Cfg := ⟨FL, FR, SG⟩

-- TYPE 0 1 ()
-- TYPE 1 1 func()
-- TYPE 2 1 int64
-- TYPE 3 1 int
-- TYPE 4 1 bool
-- TYPE 5 1 uint8
-- TYPE 6 1 abi.BoundsErrorCode
-- TYPE 8 4 runtime.boundsError
-- TYPE 9 1 string
-- TYPE 10 1 runtime.errorString
-- TYPE 11 1 runtime.plainError
-- TYPE 12 1 uintptr
-- TYPE 14 2 runtime.errorAddressString
-- TYPE 15 1 *runtime.TypeAssertionError
-- TYPE 16 1 *runtime.PanicNilError
-- TYPE 17 1 *abi.Type
-- TYPE 19 1 maps.unhashableTypeError
-- TYPE 21 1 int32
-- TYPE 22 1 []uint8
-- TYPE 23 1 func(int) []uint8
-- TYPE 24 1 func([]uint8, []uint8) bool
-- TYPE 25 1 func([]uint8, int) int
-- TYPE 26 1 func(int) bool
-- TYPE 27 1 func([]uint8) bool
-- TYPE 28 1 func([]uint8) int
-- TYPE 29 1 (int, int, bool)
-- TYPE 30 1 func([]uint8, int) (int, int, bool)
-- TYPE 31 1 func([]uint8) []uint8
-- TYPE 32 1 func([]uint8, int) bool
-- TYPE 33 1 []laws.Instr
-- TYPE 34 1 []int
-- TYPE 36 2 laws.Code
-- TYPE 37 1 func(laws.Code, int) int
-- TYPE 38 16 [16]int
-- TYPE 39 1 func(impl.Code) [16]int
-- TYPE 40 1 []impl.Instr
-- TYPE 42 2 impl.Code
-- TYPE 43 1 func(laws.Code) impl.Code
-- TYPE 44 1 func([16]int, [16]int) bool
-- TYPE 45 1 func(impl.Code, impl.Code) bool
-- TYPE 46 1 func(laws.Code) bool
-- TYPE 47 1 []string
-- TYPE 48 1 []impl.Exp
-- TYPE 49 1 []impl.Arm
-- TYPE 51 7 impl.Exp
-- TYPE 52 1 func(impl.Exp, impl.Exp) bool
-- TYPE 53 1 []laws.Ty
-- TYPE 55 4 laws.Ty
-- TYPE 56 1 func(laws.Ty, int) int
-- TYPE 57 1 func(impl.Ty, int) []int
-- TYPE 58 1 []impl.Ty
-- TYPE 60 4 impl.Ty
-- TYPE 61 1 func(laws.Ty) impl.Ty
-- TYPE 62 1 func([]int, []int) bool
-- TYPE 63 1 func(impl.Ty, impl.Ty) bool
-- TYPE 64 1 func(impl.Ty, int) int
-- TYPE 65 1 func([]int, int) int
-- TYPE 66 1 func(laws.Ty, int) bool
-- TYPE 67 1 func([]laws.Ty, int) int
-- TYPE 68 1 func(impl.Ty, int, []impl.Ty) impl.Ty
-- TYPE 69 1 func([]laws.Ty) []impl.Ty
-- TYPE 70 1 func([]impl.Ty, []impl.Ty) bool
-- TYPE 71 1 func([]impl.Ty, int) int
-- TYPE 72 1 func(laws.Ty, int, []laws.Ty) bool
-- TYPE 73 1 []laws.Exp
-- TYPE 74 1 []laws.Arm
-- TYPE 76 7 laws.Exp
-- TYPE 77 1 func(laws.Exp, int) int
-- TYPE 78 1 func(laws.Exp) impl.Exp
-- TYPE 79 1 func(laws.Exp, laws.Exp) bool
-- TYPE 80 1 []laws.KVal
-- TYPE 81 1 []laws.KTerm
-- TYPE 83 11 laws.KTerm
-- TYPE 84 1 func(laws.KTerm, int) int
-- TYPE 85 1 func(impl.KTerm, int) []int
-- TYPE 86 1 []impl.KVal
-- TYPE 87 1 []impl.KTerm
-- TYPE 89 11 impl.KTerm
-- TYPE 90 1 func(laws.KTerm) impl.KTerm
-- TYPE 91 1 func(impl.KTerm, impl.KTerm) bool
-- TYPE 92 1 func(impl.KTerm, int) int
-- TYPE 93 1 func(laws.KTerm, int) bool
-- TYPE 94 1 ([]int, bool)
-- TYPE 95 1 func(impl.KTerm, int) ([]int, bool)
-- TYPE 96 1 ([]impl.Ty, int)
-- TYPE 97 1 func(int, []impl.Ty, []impl.Ty) ([]impl.Ty, int)
-- TYPE 98 1 func(int, []laws.Ty, []laws.Ty) bool
-- TYPE 99 1 uint64
-- TYPE 100 1 uint
-- TYPE 101 1 func(int) uint64
-- TYPE 102 1 *spec.l1Cur
-- TYPE 103 1 func([]uint8) *spec.l1Cur
-- TYPE 104 1 func(*spec.l1Cur, int) bool
-- TYPE 105 1 func(*spec.l1Cur) int
-- TYPE 106 1 func(*spec.l1Cur, int) int
-- TYPE 107 1 func(int, int, int) bool
-- TYPE 108 1 func([]laws.Instr, int) int
-- TYPE 110 6 impl.Instr
-- TYPE 111 1 func([]laws.Instr) []impl.Instr
-- TYPE 112 1 func([]int) []int
-- TYPE 113 1 func([]impl.Instr, []impl.Instr) bool
-- TYPE 114 1 func(impl.Exp) bool
-- TYPE 115 1 func(impl.Exp, impl.Exp, impl.names, impl.names) bool
-- TYPE 116 1 func(impl.Ty) bool
-- TYPE 117 1 func(impl.Ty, int, []int) []int
-- TYPE 118 1 func(impl.Ty) impl.Ty
-- TYPE 119 1 func(int) string
-- TYPE 120 1 func([]laws.Exp, int) int
-- TYPE 121 1 func([]laws.Arm, int) int
-- TYPE 122 1 func(impl.Exp, impl.Exp, []string, []string) bool
-- TYPE 123 1 func([]laws.Exp) []impl.Exp
-- TYPE 124 1 func([]laws.Arm) []impl.Arm
-- TYPE 125 1 func([]impl.Exp, []impl.Exp) bool
-- TYPE 126 1 func([]impl.Arm, []impl.Arm) bool
-- TYPE 127 1 func([]laws.KVal, int) int
-- TYPE 128 1 func([]laws.KTerm, int) int
-- TYPE 129 1 func(impl.KTerm, int) bool
-- TYPE 130 1 func(impl.KTerm, int, int, []int)
-- TYPE 131 1 func([]laws.KVal) []impl.KVal
-- TYPE 132 1 func([]laws.KTerm) []impl.KTerm
-- TYPE 133 1 func(impl.KTerm) int
-- TYPE 134 1 func(impl.KTerm, int, int, func(int, int))
-- TYPE 135 1 func(int, int)
-- TYPE 136 1 func([]impl.KVal, []impl.KVal) bool
-- TYPE 137 1 func([]impl.KTerm, []impl.KTerm) bool
-- TYPE 138 1 func([]impl.KVal, int) int
-- TYPE 139 1 func([]impl.KTerm, int) int
-- TYPE 140 1 []bool
-- TYPE 141 1 func([]bool, bool) int
-- TYPE 142 1 func([]impl.Ty, int) bool
-- TYPE 143 1 *spec.l4Net
-- TYPE 144 1 func(int) *spec.l4Net
-- TYPE 145 1 func(*spec.l4Net, impl.Ty) int
-- TYPE 146 1 func(*spec.l4Net, int, int) bool
-- TYPE 147 1 [][]int
-- TYPE 149 3 spec.l4Net
-- TYPE 150 1 func(*spec.l4Net, int, []int, int) bool
-- TYPE 151 1 func(*spec.l4Net, int) int
-- TYPE 152 1 func(*spec.l4Net, int) impl.Ty
-- TYPE 153 1 func(int, []impl.Ty, []impl.Ty) bool
-- TYPE 154 1 []*impl.node
-- TYPE 155 1 *impl.node
-- TYPE 157 5 impl.node
-- TYPE 158 1 func(int) *impl.node
-- TYPE 159 1 map[*impl.node]int
-- TYPE 160 1 func(*impl.node, *impl.node) bool
-- TYPE 161 1 func(impl.Ty, int, func(int) *impl.node) *impl.node
-- TYPE 162 1 func(*impl.node, map[*impl.node]int) bool
-- TYPE 163 1 func(*impl.node, map[*impl.node]int) int
-- TYPE 164 1 func(*impl.node, func(*impl.node) impl.Ty) impl.Ty
-- TYPE 165 1 func(*impl.node) impl.Ty
-- TYPE 167 3 spec.l1Cur
-- TYPE 168 1 func(*spec.l1Cur, []int) int
-- TYPE 169 1 func(laws.Instr, int) int
-- TYPE 170 6 laws.Instr
-- TYPE 171 1 func(laws.Instr) impl.Instr
-- TYPE 172 1 func(impl.Instr, impl.Instr) bool
-- TYPE 173 1 []impl.Pat
-- TYPE 175 5 impl.Pat
-- TYPE 177 12 impl.Arm
-- TYPE 178 1 func(impl.Pat) bool
-- TYPE 179 1 impl.names
-- TYPE 180 1 func(string) int
-- TYPE 181 1 func(...impl.names) impl.names
-- TYPE 182 1 func(impl.Exp, int) []string
-- TYPE 183 1 func(impl.Pat, impl.Pat) bool
-- TYPE 184 1 func(impl.Pat) []string
-- TYPE 185 1 func([]int, int) bool
-- TYPE 186 1 func([]impl.Ty, func(impl.Ty) bool) bool
-- TYPE 187 1 func(laws.Arm, int) int
-- TYPE 188 1 []laws.Pat
-- TYPE 190 5 laws.Pat
-- TYPE 192 12 laws.Arm
-- TYPE 193 1 func([]string, []string, string, string) bool
-- TYPE 194 1 func([]string, []string) []string
-- TYPE 195 1 ([]string, []string, bool)
-- TYPE 196 1 func(impl.Pat, impl.Pat, []string, []string) ([]string, []string, bool)
-- TYPE 197 1 func(laws.Arm) impl.Arm
-- TYPE 198 1 func(impl.Arm, impl.Arm) bool
-- TYPE 199 1 func(laws.KVal, int) int
-- TYPE 201 4 laws.KVal
-- TYPE 202 1 func(impl.KTerm) bool
-- TYPE 203 1 func(impl.KTerm, int, int) int
-- TYPE 204 4 impl.KVal
-- TYPE 205 1 func(laws.KVal) impl.KVal
-- TYPE 206 1 func(impl.KVal, impl.KVal) bool
-- TYPE 207 1 func(impl.Ty) int
-- TYPE 208 1 func(*spec.l4Net, impl.Ty, []int) int
-- TYPE 209 1 func(...[]impl.Ty) []impl.Ty
-- TYPE 210 1 func([]int, func(int) bool) bool
-- TYPE 211 1 func(*impl.node) *impl.node
-- TYPE 212 1 (int, bool)
-- TYPE 213 1 func(string) bool
-- TYPE 214 1 func([]impl.Pat, func(impl.Pat) bool) bool
-- TYPE 215 1 []impl.names
-- TYPE 216 1 func(impl.names, int) impl.names
-- TYPE 217 1 func([]impl.Pat, []impl.Pat, func(impl.Pat, impl.Pat) bool) bool
-- TYPE 218 1 func([]impl.Ty, func(impl.Ty) bool) int
-- TYPE 219 1 func(laws.Pat, int) int
-- TYPE 220 1 func(impl.Exp, string) bool
-- TYPE 221 1 func(string, bool) bool
-- TYPE 222 1 func([]string, string) int
-- TYPE 223 1 func(laws.Pat) impl.Pat
-- TYPE 224 1 [][]impl.Ty
-- TYPE 225 1 func([]impl.Ty, int) []impl.Ty
-- TYPE 226 1 func([]int, func(int) bool) int
-- TYPE 227 1 func(string, func(uint8) bool) bool
-- TYPE 228 1 func(uint8) bool
-- TYPE 229 1 func([]string, string) bool
-- TYPE 230 1 func([]impl.Pat, func(impl.Pat) bool) int
-- TYPE 231 1 func([]laws.Pat, int) int
-- TYPE 232 1 func([]laws.Pat) []impl.Pat
-- TYPE 233 1 func([]impl.Pat, []impl.Pat) bool
-- TYPE 234 1 func(string, int, func(uint8) bool) int
-- TYPE 235 1 func() string
-- TYPE 237 4 runtime.TypeAssertionError
-- TYPE 238 0 [0]*runtime.PanicNilError
-- TYPE 240 0 runtime.PanicNilError
-- TYPE 241 1 func() int
-- TYPE 242 1 uint32
-- TYPE 243 1 abi.TFlag
-- TYPE 244 1 abi.Kind
-- TYPE 245 1 func(unsafe.Pointer, unsafe.Pointer) bool
-- TYPE 246 1 *uint8
-- TYPE 247 1 abi.NameOff
-- TYPE 248 1 abi.TypeOff
-- TYPE 250 11 abi.Type
-- TYPE 251 1 unsafe.Pointer
-- LAW laws_FnExactPutShort 3 [3] [4]
-- LAW laws_FnShort 4 [22] [4]
-- LAW laws_FnExactGetShort 5 [22, 3] [4]
-- LAW laws_FnExactStats 6 [36] [4]
-- LAW laws_FnRenamed 7 [22] [4]
-- LAW laws_FnExactFree 8 [55, 3] [4]
-- LAW laws_FnExactPut 9 [55, 3, 53] [4]
-- LAW laws_FnExactAlpha 10 [76, 76] [4]
-- LAW laws_FnExactUses 11 [83, 3] [4]
-- LAW laws_FnExactHomes 12 [83, 3] [4]
-- LAW laws_FnExactUnify 13 [3, 53, 53] [4]
def T.laws_FnExactPutShort : T :=
.op (.fcall false 5 1 F.spec_PutShort [(.x 0)]) (
.op (.fcall true 5 1 F.impl_PutShort [(.x 0)]) (
.op (.call F.laws_eqByteS [(.sl (.x 2)), (.sl (.x 1))] true) (
.op (.un .not (.x 3)) (
.ite (.x 4)
 (.ret [(.c (.v (.bool false)))])
 (.op (.scall F.laws_markByteS G.laws_markByteS [(.x 2), (.c (.v (.int .i64 1)))]) (
 .chk (.eql (.x 2) (.ext 5 0)) (
 .op (.call F.laws_heldByteS [(.sl (.ext 5 0)), (.c (.v (.int .i64 1)))] true) (
 .op (.bin .lss (.x 6) (.c (.v (.int .i64 0)))) (
 .ite (.x 7)
  (.ret [(.c (.v (.bool false)))])
  (.op (.bin .neq (.x 6) (.ext 5 1)) (
  .ite (.x 8)
   (.ret [(.c (.v (.bool false)))])
   (.op (.fcall true 5 1 F.impl_PutShort [(.x 0)]) (
   .op (.call F.laws_eqByteS [(.sl (.x 9)), (.sl (.x 1))] true) (
   .op (.un .not (.x 10)) (
   .ite (.x 11)
    (.ret [(.c (.v (.bool false)))])
    (.op (.call F.laws_heldByteS [(.sl (.ext 5 0)), (.c (.v (.int .i64 1)))] true) (
    .op (.bin .lss (.x 12) (.c (.v (.int .i64 0)))) (
    .ite (.x 13)
     (.ret [(.c (.v (.bool false)))])
     (.op (.bin .neq (.x 12) (.ext 5 1)) (
     .ite (.x 14)
      (.ret [(.c (.v (.bool false)))])
      (.ret [(.c (.v (.bool true)))])))))))))))))))))))))

theorem T.laws_FnExactPutShort_l : leftF Try.prog CF Try.f3 = some (1, T.laws_FnExactPutShort) := by kernel_rfl

theorem T.laws_FnExactPutShort_con {args : List AV} {res : AV} (hl : args.length = 1) (hn : AV.norefs args = true) (hw : wpT Try.prog (fun _ _ _ => False) (fun a => a = res) T.laws_FnExactPutShort args []) : PCon Try.prog F.laws_FnExactPutShort args res :=
  con_auto Try.func3 T.laws_FnExactPutShort_l hl hn hw

def T.laws_FnShort : T :=
.op (.call F.laws_big [(.x 0)] false) (
.ite (.x 1)
 (.ret [(.c (.v (.bool true)))])
 (.op (.call F.spec_DrawPutShort [(.x 0)] false) (
 .op (.fcall true 5 1 F.impl_PutShort [(.x 2)]) (
 .chk (.one (.c (.v (.int .u8 9)))) (
 .chk (.one (.c (.v (.int .u8 9)))) (
 .op (.mkl (.v (.int .u8 0)) 2 [(0, (.c (.v (.int .u8 9)))), (1, (.c (.v (.int .u8 9))))]) (
 .op (.app 1 1 (.x 4) (.sl (.x 3))) (
 .chk (.one (.c (.v (.int .u8 200)))) (
 .op (.mkl (.v (.int .u8 0)) 1 [(0, (.c (.v (.int .u8 200))))]) (
 .op (.app 1 1 (.x 5) (.sl (.x 6))) (
 .op (.call F.impl_GetShort [(.sl (.x 7)), (.c (.v (.int .i64 2)))] true) (
 .chk (.tup (.x 8) 0) (
 .chk (.tup (.x 8) 1) (
 .chk (.tup (.x 8) 2) (
 .op (.mkl (.v (.int .u8 0)) 0 []) (
 .op (.lenL (.sl (.x 3))) (
 .op (.bin .sub (.x 10) (.c (.v (.int .i64 1)))) (
 .op (.sliceL 1 (.sl (.x 3)) none (some (.x 11))) (
 .op (.app 1 1 (.x 9) (.x 12)) (
 .op (.lenL (.sl (.x 3))) (
 .op (.bin .sub (.x 14) (.c (.v (.int .i64 1)))) (
 .op (.elem 1 (.sl (.x 3)) (.x 15)) (
 .chk (.lt (.x 16) 0) (
 .op (.bin .add (.cell 16 0) (.c (.v (.int .u8 128)))) (
 .chk (.one (.x 17)) (
 .chk (.one (.c (.v (.int .u8 0)))) (
 .op (.mkl (.v (.int .u8 0)) 2 [(0, (.x 17)), (1, (.c (.v (.int .u8 0))))]) (
 .op (.app 1 1 (.x 13) (.x 18)) (
 .op (.call F.impl_GetShort [(.sl (.x 19)), (.c (.v (.int .i64 0)))] true) (
 .chk (.tup (.x 20) 0) (
 .chk (.tup (.x 20) 1) (
 .chk (.tup (.x 20) 2) (
 .bind 1 (
  .ite (.ext 8 2)
   (.op (.bin .eql (.ext 8 0) (.x 2)) (
   .ite (.x 21)
    (.op (.lenL (.sl (.x 3))) (
    .op (.bin .add (.c (.v (.int .i64 2))) (.x 22)) (
    .op (.bin .eql (.ext 8 1) (.x 23)) (
    .ite (.x 24)
     (.op (.lenL (.sl (.x 3))) (
     .op (.bin .geq (.x 25) (.c (.v (.int .i64 1)))) (
     .ite (.x 26)
      (.op (.lenL (.sl (.x 3))) (
      .op (.bin .leq (.x 27) (.c (.v (.int .i64 10)))) (
      .ite (.x 28)
       (.op (.un .not (.ext 20 2)) (
       .jump [(.x 29)]))
       (.jump [(.c (.v (.bool false)))]))))
      (.jump [(.c (.v (.bool false)))]))))
     (.jump [(.c (.v (.bool false)))])))))
    (.jump [(.c (.v (.bool false)))])))
   (.jump [(.c (.v (.bool false)))])) (
 .ret [(.x 21)]))))))))))))))))))))))))))))))))))

theorem T.laws_FnShort_l : leftF Try.prog CF Try.f4 = some (1, T.laws_FnShort) := by kernel_rfl

theorem T.laws_FnShort_con {args : List AV} {res : AV} (hl : args.length = 1) (hn : AV.norefs args = true) (hw : wpT Try.prog (fun _ _ _ => False) (fun a => a = res) T.laws_FnShort args []) : PCon Try.prog F.laws_FnShort args res :=
  con_auto Try.func4 T.laws_FnShort_l hl hn hw

def T.laws_FnExactGetShort : T :=
.op (.lenL (.x 0)) (
.op (.bin .gtr (.x 2) (.c (.v (.int .i64 1048576)))) (
.ite (.x 3)
 (.ret [(.c (.v (.bool true)))])
 (.op (.call F.laws_toByteS [(.x 0)] false) (
 .op (.call F.spec_GetShort [(.x 4), (.x 1)] false) (
 .chk (.tup (.x 5) 0) (
 .chk (.tup (.x 5) 1) (
 .chk (.tup (.x 5) 2) (
 .op (.call F.laws_toByteS [(.x 0)] false) (
 .op (.call F.impl_GetShort [(.x 6), (.x 1)] false) (
 .chk (.tup (.x 7) 0) (
 .chk (.tup (.x 7) 1) (
 .chk (.tup (.x 7) 2) (
 .bind 0 (
  .bind 1 (
   .op (.bin .neq (.ext 7 0) (.ext 5 0)) (
   .ite (.x 8)
    (.jump [(.c (.v (.bool true)))])
    (.op (.bin .neq (.ext 7 1) (.ext 5 1)) (
    .ite (.x 9)
     (.jump [(.c (.v (.bool true)))])
     (.op (.beq true (.ext 7 2) (.ext 5 2)) (
     .jump [(.x 10)])))))) (
  .ite (.x 8)
   (.esc (.ret [(.c (.v (.bool false)))]))
   (.jump []))) (
 .op (.call F.laws_toByteS [(.x 0)] false) (
 .op (.call F.laws_eqByteS [(.x 6), (.x 8)] false) (
 .op (.un .not (.x 9)) (
 .ite (.x 10)
  (.ret [(.c (.v (.bool false)))])
  (.ret [(.c (.v (.bool true)))]))))))))))))))))))

theorem T.laws_FnExactGetShort_l : leftF Try.prog CF Try.f5 = some (2, T.laws_FnExactGetShort) := by kernel_rfl

theorem T.laws_FnExactGetShort_con {args : List AV} {res : AV} (hl : args.length = 2) (hn : AV.norefs args = true) (hw : wpT Try.prog (fun _ _ _ => False) (fun a => a = res) T.laws_FnExactGetShort args []) : PCon Try.prog F.laws_FnExactGetShort args res :=
  con_auto Try.func5 T.laws_FnExactGetShort_l hl hn hw

def T.laws_FnExactStats : T :=
.chk (.cells (.x 0) 2) (
.chk (.cells (.x 0) 2) (
.op (.call F.laws_szCode [(.x 0), (.c (.v (.int .i64 1048576)))] false) (
.op (.bin .lss (.x 1) (.c (.v (.int .i64 0)))) (
.ite (.x 2)
 (.ret [(.c (.v (.bool true)))])
 (.chk (.cells (.x 0) 2) (
 .op (.call F.laws_toCode [(.x 0)] false) (
 .op (.call F.spec_Stats [(.x 3)] false) (
 .chk (.cells (.x 4) 16) (
 .chk (.cells (.x 0) 2) (
 .op (.call F.laws_toCode [(.x 0)] false) (
 .chk (.cells (.x 5) 2) (
 .chk (.cells (.x 5) 2) (
 .op (.call F.impl_Stats [(.x 5)] false) (
 .chk (.cells (.x 6) 16) (
 .chk (.cells (.x 6) 16) (
 .chk (.cells (.x 4) 16) (
 .op (.call F.laws_eqIntA16 [(.x 6), (.x 4)] false) (
 .op (.un .not (.x 7)) (
 .ite (.x 8)
  (.ret [(.c (.v (.bool false)))])
  (.chk (.cells (.x 5) 2) (
  .chk (.cells (.x 0) 2) (
  .op (.call F.laws_toCode [(.x 0)] false) (
  .op (.call F.laws_eqCode [(.x 5), (.x 9)] true) (
  .op (.un .not (.x 10)) (
  .ite (.x 11)
   (.ret [(.c (.v (.bool false)))])
   (.ret [(.c (.v (.bool true)))]))))))))))))))))))))))))))

theorem T.laws_FnExactStats_l : leftF Try.prog CF Try.f6 = some (1, T.laws_FnExactStats) := by kernel_rfl

theorem T.laws_FnExactStats_con {args : List AV} {res : AV} (hl : args.length = 1) (hn : AV.norefs args = true) (hw : wpT Try.prog (fun _ _ _ => False) (fun a => a = res) T.laws_FnExactStats args []) : PCon Try.prog F.laws_FnExactStats args res :=
  con_auto Try.func6 T.laws_FnExactStats_l hl hn hw

-- laws_FnRenamed: no walk
def T.laws_FnExactFree : T :=
.chk (.cells (.x 0) 4) (
.chk (.cells (.x 0) 4) (
.op (.call F.laws_szTy [(.x 0), (.c (.v (.int .i64 1048576)))] false) (
.op (.bin .lss (.x 2) (.c (.v (.int .i64 0)))) (
.ite (.x 3)
 (.ret [(.c (.v (.bool true)))])
 (.chk (.cells (.x 0) 4) (
 .op (.call F.laws_toTy [(.x 0)] false) (
 .op (.fcall false 3 1 F.spec_Free [(.x 4), (.x 1)]) (
 .chk (.cells (.x 0) 4) (
 .op (.call F.laws_toTy [(.x 0)] false) (
 .chk (.cells (.x 6) 4) (
 .chk (.cells (.x 6) 4) (
 .op (.fcall true 3 1 F.impl_Free [(.x 6), (.x 1)]) (
 .op (.call F.laws_eqIntS [(.sl (.x 7)), (.sl (.x 5))] true) (
 .op (.un .not (.x 8)) (
 .ite (.x 9)
  (.ret [(.c (.v (.bool false)))])
  (.chk (.cells (.x 6) 4) (
  .chk (.cells (.x 0) 4) (
  .op (.call F.laws_toTy [(.x 0)] false) (
  .op (.call F.laws_eqTy [(.x 6), (.x 10)] true) (
  .op (.un .not (.x 11)) (
  .ite (.x 12)
   (.ret [(.c (.v (.bool false)))])
   (.chk (.cells (.x 6) 4) (
   .op (.call F.laws_markTy [(.x 6), (.c (.v (.int .i64 1)))] false) (
   .bind 0 (
    .bind 1 (
     .op (.bin .lss (.x 13) (.c (.v (.int .i64 0)))) (
     .ite (.x 14)
      (.jump [(.c (.v (.bool true)))])
      (.op (.call F.laws_eqIntS [(.sl (.x 7)), (.sl (.x 5))] true) (
      .op (.un .not (.x 15)) (
      .jump [(.x 16)]))))) (
    .ite (.x 14)
     (.esc (.ret [(.c (.v (.bool false)))]))
     (.jump []))) (
   .op (.scall F.laws_markIntS G.laws_markIntS [(.x 7), (.c (.v (.int .i64 1)))]) (
   .chk (.eql (.x 7) (.ext 14 0)) (
   .op (.call F.laws_heldIntS [(.sl (.ext 14 0)), (.c (.v (.int .i64 1)))] true) (
   .op (.bin .lss (.x 15) (.c (.v (.int .i64 0)))) (
   .ite (.x 16)
    (.ret [(.c (.v (.bool false)))])
    (.op (.bin .neq (.x 15) (.ext 14 1)) (
    .ite (.x 17)
     (.ret [(.c (.v (.bool false)))])
     (.chk (.cells (.x 0) 4) (
     .op (.call F.laws_toTy [(.x 0)] false) (
     .op (.fcall true 3 1 F.impl_Free [(.x 18), (.x 1)]) (
     .op (.call F.laws_eqIntS [(.sl (.x 19)), (.sl (.x 5))] true) (
     .op (.un .not (.x 20)) (
     .ite (.x 21)
      (.ret [(.c (.v (.bool false)))])
      (.op (.call F.laws_heldIntS [(.sl (.ext 14 0)), (.c (.v (.int .i64 1)))] true) (
      .op (.bin .lss (.x 22) (.c (.v (.int .i64 0)))) (
      .ite (.x 23)
       (.ret [(.c (.v (.bool false)))])
       (.op (.bin .neq (.x 22) (.ext 14 1)) (
       .ite (.x 24)
        (.ret [(.c (.v (.bool false)))])
        (.ret [(.c (.v (.bool true)))])))))))))))))))))))))))))))))))))))))))))))

theorem T.laws_FnExactFree_l : leftF Try.prog CF Try.f8 = some (2, T.laws_FnExactFree) := by kernel_rfl

theorem T.laws_FnExactFree_con {args : List AV} {res : AV} (hl : args.length = 2) (hn : AV.norefs args = true) (hw : wpT Try.prog (fun _ _ _ => False) (fun a => a = res) T.laws_FnExactFree args []) : PCon Try.prog F.laws_FnExactFree args res :=
  con_auto Try.func8 T.laws_FnExactFree_l hl hn hw

def T.laws_FnExactPut : T :=
.chk (.cells (.x 0) 4) (
.chk (.cells (.x 0) 4) (
.op (.call F.laws_szTy [(.x 0), (.c (.v (.int .i64 1048576)))] false) (
.op (.bin .lss (.x 3) (.c (.v (.int .i64 0)))) (
.ite (.x 4)
 (.ret [(.c (.v (.bool true)))])
 (.op (.call F.laws_szTyS [(.x 2), (.x 3)] false) (
 .op (.bin .lss (.x 5) (.c (.v (.int .i64 0)))) (
 .ite (.x 6)
  (.ret [(.c (.v (.bool true)))])
  (.chk (.cells (.x 0) 4) (
  .op (.call F.laws_toTy [(.x 0)] false) (
  .op (.call F.laws_toTyS [(.x 2)] false) (
  .op (.call F.spec_Put [(.x 7), (.x 1), (.x 8)] false) (
  .chk (.cells (.x 9) 4) (
  .chk (.cells (.x 0) 4) (
  .op (.call F.laws_toTy [(.x 0)] false) (
  .chk (.cells (.x 10) 4) (
  .op (.call F.laws_toTyS [(.x 2)] false) (
  .chk (.cells (.x 10) 4) (
  .op (.call F.impl_Put [(.x 10), (.x 1), (.x 11)] false) (
  .chk (.cells (.x 12) 4) (
  .chk (.cells (.x 12) 4) (
  .chk (.cells (.x 9) 4) (
  .op (.call F.laws_eqTy [(.x 12), (.x 9)] false) (
  .op (.un .not (.x 13)) (
  .ite (.x 14)
   (.ret [(.c (.v (.bool false)))])
   (.chk (.cells (.x 10) 4) (
   .chk (.cells (.x 0) 4) (
   .op (.call F.laws_toTy [(.x 0)] false) (
   .op (.call F.laws_eqTy [(.x 10), (.x 15)] true) (
   .op (.un .not (.x 16)) (
   .ite (.x 17)
    (.ret [(.c (.v (.bool false)))])
    (.op (.call F.laws_toTyS [(.x 2)] false) (
    .op (.call F.laws_eqTyS [(.x 11), (.x 18)] false) (
    .op (.un .not (.x 19)) (
    .ite (.x 20)
     (.ret [(.c (.v (.bool false)))])
     (.chk (.cells (.x 10) 4) (
     .op (.call F.laws_markTy [(.x 10), (.c (.v (.int .i64 1)))] false) (
     .op (.call F.laws_markTyS [(.x 11), (.x 21)] false) (
     .bind 0 (
      .bind 1 (
       .op (.bin .lss (.x 22) (.c (.v (.int .i64 0)))) (
       .ite (.x 23)
        (.jump [(.c (.v (.bool true)))])
        (.chk (.cells (.x 12) 4) (
        .chk (.cells (.x 9) 4) (
        .op (.call F.laws_eqTy [(.x 12), (.x 9)] false) (
        .op (.un .not (.x 24)) (
        .jump [(.x 25)]))))))) (
      .ite (.x 23)
       (.esc (.ret [(.c (.v (.bool false)))]))
       (.jump []))) (
     .chk (.cells (.x 12) 4) (
     .op (.call F.laws_markTy [(.x 12), (.c (.v (.int .i64 1)))] false) (
     .chk (.cells (.x 12) 4) (
     .op (.call F.laws_heldTy [(.x 12), (.c (.v (.int .i64 1)))] false) (
     .op (.bin .lss (.x 24) (.c (.v (.int .i64 0)))) (
     .ite (.x 25)
      (.ret [(.c (.v (.bool false)))])
      (.op (.bin .neq (.x 24) (.x 23)) (
      .ite (.x 26)
       (.ret [(.c (.v (.bool false)))])
       (.chk (.cells (.x 0) 4) (
       .op (.call F.laws_toTy [(.x 0)] false) (
       .op (.call F.laws_toTyS [(.x 2)] false) (
       .op (.call F.impl_Put [(.x 27), (.x 1), (.x 28)] false) (
       .chk (.cells (.x 29) 4) (
       .chk (.cells (.x 29) 4) (
       .chk (.cells (.x 9) 4) (
       .op (.call F.laws_eqTy [(.x 29), (.x 9)] false) (
       .op (.un .not (.x 30)) (
       .ite (.x 31)
        (.ret [(.c (.v (.bool false)))])
        (.chk (.cells (.x 12) 4) (
        .op (.call F.laws_heldTy [(.x 12), (.c (.v (.int .i64 1)))] false) (
        .op (.bin .lss (.x 32) (.c (.v (.int .i64 0)))) (
        .ite (.x 33)
         (.ret [(.c (.v (.bool false)))])
         (.op (.bin .neq (.x 32) (.x 23)) (
         .ite (.x 34)
          (.ret [(.c (.v (.bool false)))])
          (.ret [(.c (.v (.bool true)))])))))))))))))))))))))))))))))))))))))))))))))))))))))))))))))))

theorem T.laws_FnExactPut_l : leftF Try.prog CF Try.f9 = some (3, T.laws_FnExactPut) := by kernel_rfl

theorem T.laws_FnExactPut_con {args : List AV} {res : AV} (hl : args.length = 3) (hn : AV.norefs args = true) (hw : wpT Try.prog (fun _ _ _ => False) (fun a => a = res) T.laws_FnExactPut args []) : PCon Try.prog F.laws_FnExactPut args res :=
  con_auto Try.func9 T.laws_FnExactPut_l hl hn hw

def T.laws_FnExactAlpha : T :=
.chk (.cells (.x 0) 7) (
.chk (.cells (.x 1) 7) (
.chk (.cells (.x 0) 7) (
.op (.call F.laws_szExp [(.x 0), (.c (.v (.int .i64 1048576)))] false) (
.op (.bin .lss (.x 2) (.c (.v (.int .i64 0)))) (
.ite (.x 3)
 (.ret [(.c (.v (.bool true)))])
 (.chk (.cells (.x 1) 7) (
 .op (.call F.laws_szExp [(.x 1), (.x 2)] false) (
 .op (.bin .lss (.x 4) (.c (.v (.int .i64 0)))) (
 .ite (.x 5)
  (.ret [(.c (.v (.bool true)))])
  (.chk (.cells (.x 0) 7) (
  .op (.call F.laws_toExp [(.x 0)] false) (
  .chk (.cells (.x 1) 7) (
  .op (.call F.laws_toExp [(.x 1)] false) (
  .op (.call F.spec_Alpha [(.x 6), (.x 7)] true) (
  .chk (.cells (.x 0) 7) (
  .op (.call F.laws_toExp [(.x 0)] false) (
  .chk (.cells (.x 9) 7) (
  .chk (.cells (.x 1) 7) (
  .op (.call F.laws_toExp [(.x 1)] false) (
  .chk (.cells (.x 10) 7) (
  .chk (.cells (.x 9) 7) (
  .chk (.cells (.x 10) 7) (
  .op (.call F.impl_Alpha [(.x 9), (.x 10)] false) (
  .op (.beq true (.x 11) (.x 8)) (
  .ite (.x 12)
   (.ret [(.c (.v (.bool false)))])
   (.chk (.cells (.x 9) 7) (
   .chk (.cells (.x 0) 7) (
   .op (.call F.laws_toExp [(.x 0)] false) (
   .op (.call F.laws_eqExp [(.x 9), (.x 13)] true) (
   .op (.un .not (.x 14)) (
   .ite (.x 15)
    (.ret [(.c (.v (.bool false)))])
    (.chk (.cells (.x 10) 7) (
    .chk (.cells (.x 1) 7) (
    .op (.call F.laws_toExp [(.x 1)] false) (
    .op (.call F.laws_eqExp [(.x 10), (.x 16)] true) (
    .op (.un .not (.x 17)) (
    .ite (.x 18)
     (.ret [(.c (.v (.bool false)))])
     (.ret [(.c (.v (.bool true)))]))))))))))))))))))))))))))))))))))))))

theorem T.laws_FnExactAlpha_l : leftF Try.prog CF Try.f10 = some (2, T.laws_FnExactAlpha) := by kernel_rfl

theorem T.laws_FnExactAlpha_con {args : List AV} {res : AV} (hl : args.length = 2) (hn : AV.norefs args = true) (hw : wpT Try.prog (fun _ _ _ => False) (fun a => a = res) T.laws_FnExactAlpha args []) : PCon Try.prog F.laws_FnExactAlpha args res :=
  con_auto Try.func10 T.laws_FnExactAlpha_l hl hn hw

def T.laws_FnExactUses : T :=
.chk (.cells (.x 0) 11) (
.chk (.cells (.x 0) 11) (
.op (.call F.laws_szKTerm [(.x 0), (.c (.v (.int .i64 1048576)))] false) (
.op (.bin .lss (.x 2) (.c (.v (.int .i64 0)))) (
.ite (.x 3)
 (.ret [(.c (.v (.bool true)))])
 (.chk (.cells (.x 0) 11) (
 .op (.call F.laws_toKTerm [(.x 0)] false) (
 .op (.call F.spec_Uses [(.x 4), (.x 1)] false) (
 .chk (.cells (.x 0) 11) (
 .op (.call F.laws_toKTerm [(.x 0)] false) (
 .chk (.cells (.x 6) 11) (
 .chk (.cells (.x 6) 11) (
 .op (.call F.impl_Uses [(.x 6), (.x 1)] false) (
 .op (.call F.laws_eqIntS [(.x 7), (.x 5)] false) (
 .op (.un .not (.x 8)) (
 .ite (.x 9)
  (.ret [(.c (.v (.bool false)))])
  (.chk (.cells (.x 6) 11) (
  .chk (.cells (.x 0) 11) (
  .op (.call F.laws_toKTerm [(.x 0)] false) (
  .op (.call F.laws_eqKTerm [(.x 6), (.x 10)] true) (
  .op (.un .not (.x 11)) (
  .ite (.x 12)
   (.ret [(.c (.v (.bool false)))])
   (.chk (.cells (.x 6) 11) (
   .op (.call F.laws_markKTerm [(.x 6), (.c (.v (.int .i64 1)))] false) (
   .bind 0 (
    .bind 1 (
     .op (.bin .lss (.x 13) (.c (.v (.int .i64 0)))) (
     .ite (.x 14)
      (.jump [(.c (.v (.bool true)))])
      (.op (.call F.laws_eqIntS [(.x 7), (.x 5)] false) (
      .op (.un .not (.x 15)) (
      .jump [(.x 16)]))))) (
    .ite (.x 14)
     (.esc (.ret [(.c (.v (.bool false)))]))
     (.jump []))) (
   .op (.call F.laws_markIntS [(.x 7), (.c (.v (.int .i64 1)))] false) (
   .op (.call F.laws_heldIntS [(.x 7), (.c (.v (.int .i64 1)))] false) (
   .op (.bin .lss (.x 15) (.c (.v (.int .i64 0)))) (
   .ite (.x 16)
    (.ret [(.c (.v (.bool false)))])
    (.op (.bin .neq (.x 15) (.x 14)) (
    .ite (.x 17)
     (.ret [(.c (.v (.bool false)))])
     (.chk (.cells (.x 0) 11) (
     .op (.call F.laws_toKTerm [(.x 0)] false) (
     .op (.call F.impl_Uses [(.x 18), (.x 1)] false) (
     .op (.call F.laws_eqIntS [(.x 19), (.x 5)] false) (
     .op (.un .not (.x 20)) (
     .ite (.x 21)
      (.ret [(.c (.v (.bool false)))])
      (.op (.call F.laws_heldIntS [(.x 7), (.c (.v (.int .i64 1)))] false) (
      .op (.bin .lss (.x 22) (.c (.v (.int .i64 0)))) (
      .ite (.x 23)
       (.ret [(.c (.v (.bool false)))])
       (.op (.bin .neq (.x 22) (.x 14)) (
       .ite (.x 24)
        (.ret [(.c (.v (.bool false)))])
        (.ret [(.c (.v (.bool true)))]))))))))))))))))))))))))))))))))))))))))))

theorem T.laws_FnExactUses_l : leftF Try.prog CF Try.f11 = some (2, T.laws_FnExactUses) := by kernel_rfl

theorem T.laws_FnExactUses_con {args : List AV} {res : AV} (hl : args.length = 2) (hn : AV.norefs args = true) (hw : wpT Try.prog (fun _ _ _ => False) (fun a => a = res) T.laws_FnExactUses args []) : PCon Try.prog F.laws_FnExactUses args res :=
  con_auto Try.func11 T.laws_FnExactUses_l hl hn hw

def T.laws_FnExactHomes : T :=
.chk (.cells (.x 0) 11) (
.chk (.cells (.x 0) 11) (
.op (.call F.laws_szKTerm [(.x 0), (.c (.v (.int .i64 1048576)))] false) (
.op (.bin .lss (.x 2) (.c (.v (.int .i64 0)))) (
.ite (.x 3)
 (.ret [(.c (.v (.bool true)))])
 (.chk (.cells (.x 0) 11) (
 .op (.call F.laws_toKTerm [(.x 0)] false) (
 .op (.call F.spec_Homes [(.x 4), (.x 1)] false) (
 .chk (.tup (.x 5) 0) (
 .chk (.tup (.x 5) 1) (
 .chk (.cells (.x 0) 11) (
 .op (.call F.laws_toKTerm [(.x 0)] false) (
 .chk (.cells (.x 6) 11) (
 .chk (.cells (.x 6) 11) (
 .op (.call F.impl_Homes [(.x 6), (.x 1)] false) (
 .chk (.tup (.x 7) 0) (
 .chk (.tup (.x 7) 1) (
 .bind 0 (
  .bind 1 (
   .op (.call F.laws_eqIntS [(.ext 7 0), (.ext 5 0)] false) (
   .op (.un .not (.x 8)) (
   .ite (.x 9)
    (.jump [(.c (.v (.bool true)))])
    (.op (.beq true (.ext 7 1) (.ext 5 1)) (
    .jump [(.x 10)]))))) (
  .ite (.x 8)
   (.esc (.ret [(.c (.v (.bool false)))]))
   (.jump []))) (
 .chk (.cells (.x 6) 11) (
 .chk (.cells (.x 0) 11) (
 .op (.call F.laws_toKTerm [(.x 0)] false) (
 .op (.call F.laws_eqKTerm [(.x 6), (.x 8)] true) (
 .op (.un .not (.x 9)) (
 .ite (.x 10)
  (.ret [(.c (.v (.bool false)))])
  (.chk (.cells (.x 6) 11) (
  .op (.call F.laws_markKTerm [(.x 6), (.c (.v (.int .i64 1)))] false) (
  .bind 0 (
   .bind 1 (
    .op (.bin .lss (.x 11) (.c (.v (.int .i64 0)))) (
    .ite (.x 12)
     (.jump [(.c (.v (.bool true)))])
     (.op (.call F.laws_eqIntS [(.ext 7 0), (.ext 5 0)] false) (
     .op (.un .not (.x 13)) (
     .ite (.x 14)
      (.jump [(.c (.v (.bool true)))])
      (.op (.beq true (.ext 7 1) (.ext 5 1)) (
      .jump [(.x 15)]))))))) (
   .ite (.x 12)
    (.esc (.ret [(.c (.v (.bool false)))]))
    (.jump []))) (
  .op (.call F.laws_markIntS [(.ext 7 0), (.c (.v (.int .i64 1)))] false) (
  .op (.call F.laws_heldIntS [(.ext 7 0), (.c (.v (.int .i64 1)))] false) (
  .op (.bin .lss (.x 13) (.c (.v (.int .i64 0)))) (
  .ite (.x 14)
   (.ret [(.c (.v (.bool false)))])
   (.op (.bin .neq (.x 13) (.x 12)) (
   .ite (.x 15)
    (.ret [(.c (.v (.bool false)))])
    (.chk (.cells (.x 0) 11) (
    .op (.call F.laws_toKTerm [(.x 0)] false) (
    .op (.call F.impl_Homes [(.x 16), (.x 1)] false) (
    .chk (.tup (.x 17) 0) (
    .chk (.tup (.x 17) 1) (
    .bind 0 (
     .bind 1 (
      .op (.call F.laws_eqIntS [(.ext 17 0), (.ext 5 0)] false) (
      .op (.un .not (.x 18)) (
      .ite (.x 19)
       (.jump [(.c (.v (.bool true)))])
       (.op (.beq true (.ext 17 1) (.ext 5 1)) (
       .jump [(.x 20)]))))) (
     .ite (.x 18)
      (.esc (.ret [(.c (.v (.bool false)))]))
      (.jump []))) (
    .op (.call F.laws_heldIntS [(.ext 7 0), (.c (.v (.int .i64 1)))] false) (
    .op (.bin .lss (.x 18) (.c (.v (.int .i64 0)))) (
    .ite (.x 19)
     (.ret [(.c (.v (.bool false)))])
     (.op (.bin .neq (.x 18) (.x 12)) (
     .ite (.x 20)
      (.ret [(.c (.v (.bool false)))])
      (.ret [(.c (.v (.bool true)))]))))))))))))))))))))))))))))))))))))))))))))

theorem T.laws_FnExactHomes_l : leftF Try.prog CF Try.f12 = some (2, T.laws_FnExactHomes) := by kernel_rfl

theorem T.laws_FnExactHomes_con {args : List AV} {res : AV} (hl : args.length = 2) (hn : AV.norefs args = true) (hw : wpT Try.prog (fun _ _ _ => False) (fun a => a = res) T.laws_FnExactHomes args []) : PCon Try.prog F.laws_FnExactHomes args res :=
  con_auto Try.func12 T.laws_FnExactHomes_l hl hn hw

def T.laws_FnExactUnify : T :=
.op (.call F.laws_szTyS [(.x 1), (.c (.v (.int .i64 1048576)))] false) (
.op (.bin .lss (.x 3) (.c (.v (.int .i64 0)))) (
.ite (.x 4)
 (.ret [(.c (.v (.bool true)))])
 (.op (.call F.laws_szTyS [(.x 2), (.x 3)] false) (
 .op (.bin .lss (.x 5) (.c (.v (.int .i64 0)))) (
 .ite (.x 6)
  (.ret [(.c (.v (.bool true)))])
  (.op (.call F.laws_toTyS [(.x 1)] false) (
  .op (.call F.laws_toTyS [(.x 2)] false) (
  .op (.call F.spec_Unify [(.x 0), (.x 7), (.x 8)] false) (
  .chk (.tup (.x 9) 0) (
  .chk (.tup (.x 9) 1) (
  .op (.call F.laws_toTyS [(.x 1)] false) (
  .op (.call F.laws_toTyS [(.x 2)] false) (
  .op (.call F.impl_Unify [(.x 0), (.x 10), (.x 11)] false) (
  .chk (.tup (.x 12) 0) (
  .chk (.tup (.x 12) 1) (
  .bind 0 (
   .bind 1 (
    .op (.call F.laws_eqTyS [(.ext 12 0), (.ext 9 0)] false) (
    .op (.un .not (.x 13)) (
    .ite (.x 14)
     (.jump [(.c (.v (.bool true)))])
     (.op (.bin .neq (.ext 12 1) (.ext 9 1)) (
     .jump [(.x 15)]))))) (
   .ite (.x 13)
    (.esc (.ret [(.c (.v (.bool false)))]))
    (.jump []))) (
  .op (.call F.laws_toTyS [(.x 1)] false) (
  .op (.call F.laws_eqTyS [(.x 10), (.x 13)] false) (
  .op (.un .not (.x 14)) (
  .ite (.x 15)
   (.ret [(.c (.v (.bool false)))])
   (.op (.call F.laws_toTyS [(.x 2)] false) (
   .op (.call F.laws_eqTyS [(.x 11), (.x 16)] false) (
   .op (.un .not (.x 17)) (
   .ite (.x 18)
    (.ret [(.c (.v (.bool false)))])
    (.op (.call F.laws_markTyS [(.x 10), (.c (.v (.int .i64 1)))] false) (
    .op (.call F.laws_markTyS [(.x 11), (.x 19)] false) (
    .bind 0 (
     .bind 1 (
      .op (.bin .lss (.x 20) (.c (.v (.int .i64 0)))) (
      .ite (.x 21)
       (.jump [(.c (.v (.bool true)))])
       (.op (.call F.laws_eqTyS [(.ext 12 0), (.ext 9 0)] false) (
       .op (.un .not (.x 22)) (
       .ite (.x 23)
        (.jump [(.c (.v (.bool true)))])
        (.op (.bin .neq (.ext 12 1) (.ext 9 1)) (
        .jump [(.x 24)]))))))) (
     .ite (.x 21)
      (.esc (.ret [(.c (.v (.bool false)))]))
      (.jump []))) (
    .op (.call F.laws_markTyS [(.ext 12 0), (.c (.v (.int .i64 1)))] false) (
    .op (.call F.laws_heldTyS [(.ext 12 0), (.c (.v (.int .i64 1)))] false) (
    .op (.bin .lss (.x 22) (.c (.v (.int .i64 0)))) (
    .ite (.x 23)
     (.ret [(.c (.v (.bool false)))])
     (.op (.bin .neq (.x 22) (.x 21)) (
     .ite (.x 24)
      (.ret [(.c (.v (.bool false)))])
      (.op (.call F.laws_toTyS [(.x 1)] false) (
      .op (.call F.laws_toTyS [(.x 2)] false) (
      .op (.call F.impl_Unify [(.x 0), (.x 25), (.x 26)] false) (
      .chk (.tup (.x 27) 0) (
      .chk (.tup (.x 27) 1) (
      .bind 0 (
       .bind 1 (
        .op (.call F.laws_eqTyS [(.ext 27 0), (.ext 9 0)] false) (
        .op (.un .not (.x 28)) (
        .ite (.x 29)
         (.jump [(.c (.v (.bool true)))])
         (.op (.bin .neq (.ext 27 1) (.ext 9 1)) (
         .jump [(.x 30)]))))) (
       .ite (.x 28)
        (.esc (.ret [(.c (.v (.bool false)))]))
        (.jump []))) (
      .op (.call F.laws_heldTyS [(.ext 12 0), (.c (.v (.int .i64 1)))] false) (
      .op (.bin .lss (.x 28) (.c (.v (.int .i64 0)))) (
      .ite (.x 29)
       (.ret [(.c (.v (.bool false)))])
       (.op (.bin .neq (.x 28) (.x 21)) (
       .ite (.x 30)
        (.ret [(.c (.v (.bool false)))])
        (.ret [(.c (.v (.bool true)))])))))))))))))))))))))))))))))))))))))))))))))

theorem T.laws_FnExactUnify_l : leftF Try.prog CF Try.f13 = some (3, T.laws_FnExactUnify) := by kernel_rfl

theorem T.laws_FnExactUnify_con {args : List AV} {res : AV} (hl : args.length = 3) (hn : AV.norefs args = true) (hw : wpT Try.prog (fun _ _ _ => False) (fun a => a = res) T.laws_FnExactUnify args []) : PCon Try.prog F.laws_FnExactUnify args res :=
  con_auto Try.func13 T.laws_FnExactUnify_l hl hn hw

def T.spec_PutShort : T :=
.op (.conv .u64 (.x 0)) (
.op (.bin .shl (.x 1) (.c (.v (.int .u64 1)))) (
.bind 1 (
 .op (.bin .lss (.x 0) (.c (.v (.int .i64 0)))) (
 .ite (.x 3)
  (.op (.bin .add (.x 0) (.c (.v (.int .i64 1)))) (
  .op (.un .neg (.x 4)) (
  .op (.conv .u64 (.x 5)) (
  .op (.bin .shl (.x 6) (.c (.v (.int .u64 1)))) (
  .op (.bin .add (.x 7) (.c (.v (.int .u64 1)))) (
  .jump [(.x 8)]))))))
  (.jump [(.x 2)]))) (
.op (.mkl (.v (.int .u8 0)) 0 []) (
.bind 2 (
 .loop [(.x 4), (.x 3)] (
  .op (.bin .geq (.x 6) (.c (.v (.int .u64 128)))) (
  .ite (.x 7)
   (.op (.bin .and (.x 6) (.c (.v (.int .u64 127)))) (
   .op (.bin .add (.x 8) (.c (.v (.int .u64 128)))) (
   .op (.conv .u8 (.x 9)) (
   .chk (.one (.x 10)) (
   .op (.mkl (.v (.int .u8 0)) 1 [(0, (.x 10))]) (
   .op (.app 1 1 (.x 5) (.sl (.x 11))) (
   .op (.bin .shr (.x 6) (.c (.v (.int .u64 7)))) (
   .jump [(.x 12), (.x 13)]))))))))
   (.esc (.jump [(.x 5), (.x 6)]))))) (
.op (.conv .u8 (.x 6)) (
.chk (.one (.x 7)) (
.op (.mkl (.v (.int .u8 0)) 1 [(0, (.x 7))]) (
.op (.app 1 1 (.x 5) (.sl (.x 8))) (
.ret [(.sl (.x 9))])))))))))

theorem T.spec_PutShort_l : leftR Try.prog CF false 5 1 Try.f14 = some (1, T.spec_PutShort) := by kernel_rfl

theorem T.spec_PutShort_fcon {args xs : List AV} (hl : args.length = 1) (hn : AV.norefs args = true) (hw : wpT Try.prog (fun _ _ _ => False) (fun a => a = .sl xs) T.spec_PutShort args []) : FCon Try.prog F.spec_PutShort args false 5 1 xs :=
  fcon_auto Try.func14 T.spec_PutShort_l hl hn hw

def T.impl_PutShort : T :=
.op (.call F.impl_turned [(.x 0)] false) (
.bind 2 (
 .loop [(.c (.sl [])), (.x 1)] (
  .op (.bin .gtr (.x 3) (.c (.v (.int .u64 127)))) (
  .ite (.x 4)
   (.op (.bin .and (.x 3) (.c (.v (.int .u64 127)))) (
   .op (.conv .u8 (.x 5)) (
   .op (.bin .or (.x 6) (.c (.v (.int .u8 128)))) (
   .chk (.one (.x 7)) (
   .op (.mkl (.v (.int .u8 0)) 1 [(0, (.x 7))]) (
   .op (.app 1 1 (.x 2) (.sl (.x 8))) (
   .op (.bin .shr (.x 3) (.c (.v (.int .u64 7)))) (
   .jump [(.x 9), (.x 10)]))))))))
   (.esc (.jump [(.x 2), (.x 3)]))))) (
.op (.conv .u8 (.x 3)) (
.chk (.one (.x 4)) (
.op (.mkl (.v (.int .u8 0)) 1 [(0, (.x 4))]) (
.op (.app 1 1 (.x 2) (.sl (.x 5))) (
.ret [(.sl (.x 6))]))))))

theorem T.impl_PutShort_l : leftR Try.prog CF true 5 1 Try.f15 = some (1, T.impl_PutShort) := by kernel_rfl

theorem T.impl_PutShort_fcon {args xs : List AV} (hl : args.length = 1) (hn : AV.norefs args = true) (hw : wpT Try.prog (fun _ _ _ => False) (fun a => a = .sl xs) T.impl_PutShort args []) : FCon Try.prog F.impl_PutShort args true 5 1 xs :=
  fcon_auto Try.func15 T.impl_PutShort_l hl hn hw

def T.laws_eqByteS : T :=
.op (.lenL (.x 0)) (
.op (.lenL (.x 1)) (
.op (.bin .neq (.x 2) (.x 3)) (
.ite (.x 4)
 (.ret [(.c (.v (.bool false)))])
 (.bind 0 (
  .loop [(.c (.v (.int .i64 0)))] (
   .op (.lenL (.x 0)) (
   .op (.bin .lss (.x 5) (.x 6)) (
   .ite (.x 7)
    (.op (.elem 1 (.x 0) (.x 5)) (
    .chk (.lt (.x 8) 0) (
    .op (.elem 1 (.x 1) (.x 5)) (
    .chk (.lt (.x 9) 0) (
    .op (.bin .neq (.cell 8 0) (.cell 9 0)) (
    .ite (.x 10)
     (.esc (.esc (.ret [(.c (.v (.bool false)))])))
     (.op (.bin .add (.x 5) (.c (.v (.int .i64 1)))) (
     .jump [(.x 11)]))))))))
    (.esc (.jump [])))))) (
 .ret [(.c (.v (.bool true)))])))))

theorem T.laws_eqByteS_l : leftF Try.prog CF Try.f16 = some (2, T.laws_eqByteS) := by kernel_rfl

theorem T.laws_eqByteS_con {args : List AV} {res : AV} (hl : args.length = 2) (hn : AV.norefs args = true) (hw : wpT Try.prog (fun _ _ _ => False) (fun a => a = res) T.laws_eqByteS args []) : PCon Try.prog F.laws_eqByteS args res :=
  con_auto Try.func16 T.laws_eqByteS_l hl hn hw

def T.laws_markByteS : T :=
.bind 2 (
 .loop [(.x 0), (.x 1), (.c (.v (.int .i64 0)))] (
  .op (.lenL (.sl (.x 2))) (
  .op (.bin .lss (.x 4) (.x 5)) (
  .ite (.x 6)
   (.op (.conv .u8 (.x 3)) (
   .chk (.idx (.x 2) (.x 4)) (
   .chk (.one (.x 7)) (
   .op (.set (.x 2) (.x 4) 0 1 (.x 7)) (
   .op (.bin .add (.x 3) (.c (.v (.int .i64 1)))) (
   .op (.bin .add (.x 4) (.c (.v (.int .i64 1)))) (
   .jump [(.x 8), (.x 9), (.x 10)])))))))
   (.esc (.jump [(.x 2), (.x 3)])))))) (
.ret [(.x 2), (.x 3)])

theorem T.laws_markByteS_l : leftS Try.prog CF G.laws_markByteS Try.f17 = some T.laws_markByteS := by kernel_rfl

theorem T.laws_markByteS_scon {ins outs : List AV} (hl : ins.length = 2) (ho : outs.length = 2) (hn : AV.norefs ins = true) (hw : wpT Try.prog (fun _ _ _ => False) (fun a => a = packR outs) T.laws_markByteS ins []) : SCon Try.prog F.laws_markByteS G.laws_markByteS ins outs :=
  scon_auto Try.func17 T.laws_markByteS_l hl hn ho hw

def T.laws_heldByteS : T :=
.bind 1 (
 .loop [(.x 1), (.c (.v (.int .i64 0)))] (
  .op (.lenL (.x 0)) (
  .op (.bin .lss (.x 3) (.x 4)) (
  .ite (.x 5)
   (.op (.elem 1 (.x 0) (.x 3)) (
   .chk (.lt (.x 6) 0) (
   .op (.conv .u8 (.x 2)) (
   .op (.bin .neq (.cell 6 0) (.x 7)) (
   .ite (.x 8)
    (.esc (.esc (.ret [(.c (.v (.int .i64 (-1))))])))
    (.op (.bin .add (.x 2) (.c (.v (.int .i64 1)))) (
    .op (.bin .add (.x 3) (.c (.v (.int .i64 1)))) (
    .jump [(.x 9), (.x 10)]))))))))
   (.esc (.jump [(.x 2)])))))) (
.ret [(.x 2)])

theorem T.laws_heldByteS_l : leftF Try.prog CF Try.f18 = some (2, T.laws_heldByteS) := by kernel_rfl

theorem T.laws_heldByteS_con {args : List AV} {res : AV} (hl : args.length = 2) (hn : AV.norefs args = true) (hw : wpT Try.prog (fun _ _ _ => False) (fun a => a = res) T.laws_heldByteS args []) : PCon Try.prog F.laws_heldByteS args res :=
  con_auto Try.func18 T.laws_heldByteS_l hl hn hw

def T.laws_big : T :=
.op (.lenL (.x 0)) (
.op (.bin .gtr (.x 1) (.c (.v (.int .i64 1048576)))) (
.ret [(.x 2)]))

theorem T.laws_big_l : leftF Try.prog CF Try.f19 = some (1, T.laws_big) := by kernel_rfl

theorem T.laws_big_con {args : List AV} {res : AV} (hl : args.length = 1) (hn : AV.norefs args = true) (hw : wpT Try.prog (fun _ _ _ => False) (fun a => a = res) T.laws_big args []) : PCon Try.prog F.laws_big args res :=
  con_auto Try.func19 T.laws_big_l hl hn hw

def T.spec_DrawPutShort : T :=
.op (.scall F.spec_l1New G.spec_l1New [(.x 0)]) (
.op (.scall F.spec_l1Once G.spec_l1Once [(.ext 1 0), (.ext 1 1), (.ext 1 2), (.c (.v (.int .i64 3)))]) (
.ite (.ext 2 0)
 (.op (.scall F.spec_l1Odd G.spec_l1Odd [(.ext 2 1), (.ext 2 2), (.ext 2 3)]) (
 .ret [(.ext 3 0)]))
 (.op (.scall F.spec_l1Below G.spec_l1Below [(.ext 2 1), (.ext 2 2), (.ext 2 3), (.c (.v (.int .i64 16000000)))]) (
 .op (.bin .sub (.ext 3 0) (.c (.v (.int .i64 8000000)))) (
 .op (.scall F.spec_l1Below G.spec_l1Below [(.ext 3 1), (.ext 3 2), (.ext 3 3), (.c (.v (.int .i64 23)))]) (
 .op (.bin .shr (.x 4) (.ext 5 0)) (
 .ret [(.x 6)])))))))

theorem T.spec_DrawPutShort_l : leftF Try.prog CF Try.f20 = some (1, T.spec_DrawPutShort) := by kernel_rfl

theorem T.spec_DrawPutShort_con {args : List AV} {res : AV} (hl : args.length = 1) (hn : AV.norefs args = true) (hw : wpT Try.prog (fun _ _ _ => False) (fun a => a = res) T.spec_DrawPutShort args []) : PCon Try.prog F.spec_DrawPutShort args res :=
  con_auto Try.func20 T.spec_DrawPutShort_l hl hn hw

def T.impl_GetShort : T :=
.op (.lenL (.x 0)) (
.op (.bin .sub (.x 2) (.c (.v (.int .i64 1)))) (
.op (.call F.impl_within [(.x 1), (.c (.v (.int .i64 0))), (.x 3)] false) (
.op (.un .not (.x 4)) (
.ite (.x 5)
 (.ret [(.c (.v (.int .i64 0))), (.c (.v (.int .i64 0))), (.c (.v (.bool false)))])
 (.bind 0 (
  .loop [(.c (.v (.int .u64 0))), (.c (.v (.int .i64 0)))] (
   .bind 0 (
    .bind 1 (
     .op (.bin .lss (.x 7) (.c (.v (.int .i64 10)))) (
     .ite (.x 8)
      (.op (.bin .add (.x 1) (.x 7)) (
      .op (.lenL (.x 0)) (
      .op (.bin .lss (.x 9) (.x 10)) (
      .jump [(.x 11)]))))
      (.jump [(.c (.v (.bool false)))]))) (
    .ite (.x 8)
     (.jump [])
     (.esc (.esc (.jump []))))) (
   .bind 1 (
    .op (.bin .add (.x 1) (.x 7)) (
    .op (.elem 1 (.x 0) (.x 8)) (
    .chk (.lt (.x 9) 0) (
    .op (.bin .and (.cell 9 0) (.c (.v (.int .u8 127)))) (
    .op (.conv .u64 (.x 10)) (
    .op (.bin .mul (.c (.v (.int .i64 7))) (.x 7)) (
    .op (.bin .shl (.x 11) (.x 12)) (
    .op (.bin .or (.x 6) (.x 13)) (
    .op (.bin .gtr (.cell 9 0) (.c (.v (.int .u8 127)))) (
    .ite (.x 15)
     (.jump [(.x 14)])
     (.bind 0 (
      .bind 1 (
       .op (.bin .gtr (.x 7) (.c (.v (.int .i64 0)))) (
       .ite (.x 16)
        (.op (.bin .eql (.cell 9 0) (.c (.v (.int .u8 0)))) (
        .ite (.x 17)
         (.jump [(.c (.v (.bool true)))])
         (.op (.bin .eql (.x 7) (.c (.v (.int .i64 9)))) (
         .ite (.x 18)
          (.op (.bin .gtr (.cell 9 0) (.c (.v (.int .u8 1)))) (
          .jump [(.x 19)]))
          (.jump [(.c (.v (.bool false)))])))))
        (.op (.bin .eql (.x 7) (.c (.v (.int .i64 9)))) (
        .ite (.x 17)
         (.op (.bin .gtr (.cell 9 0) (.c (.v (.int .u8 1)))) (
         .jump [(.x 18)]))
         (.jump [(.c (.v (.bool false)))]))))) (
      .ite (.x 16)
       (.esc (.esc (.esc (.esc (.ret [(.c (.v (.int .i64 0))), (.c (.v (.int .i64 0))), (.c (.v (.bool false)))])))))
       (.jump []))) (
     .op (.bin .shr (.x 14) (.c (.v (.int .u64 1)))) (
     .op (.conv .i64 (.x 16)) (
     .op (.bin .and (.x 14) (.c (.v (.int .u64 1)))) (
     .op (.conv .i64 (.x 18)) (
     .op (.un .neg (.x 19)) (
     .op (.bin .xor (.x 17) (.x 20)) (
     .op (.bin .add (.x 1) (.x 7)) (
     .op (.bin .add (.x 22) (.c (.v (.int .i64 1)))) (
     .esc (.esc (.esc (.ret [(.x 21), (.x 23), (.c (.v (.bool true)))]))))))))))))))))))))))) (
   .op (.bin .add (.x 7) (.c (.v (.int .i64 1)))) (
   .jump [(.x 8), (.x 9)]))))) (
 .ret [(.c (.v (.int .i64 0))), (.c (.v (.int .i64 0))), (.c (.v (.bool false)))]))))))

theorem T.impl_GetShort_l : leftF Try.prog CF Try.f21 = some (2, T.impl_GetShort) := by kernel_rfl

theorem T.impl_GetShort_con {args : List AV} {res : AV} (hl : args.length = 2) (hn : AV.norefs args = true) (hw : wpT Try.prog (fun _ _ _ => False) (fun a => a = res) T.impl_GetShort args []) : PCon Try.prog F.impl_GetShort args res :=
  con_auto Try.func21 T.impl_GetShort_l hl hn hw

def T.spec_GetShort : T :=
.op (.lenL (.x 0)) (
.op (.bin .sub (.x 2) (.c (.v (.int .i64 1)))) (
.op (.call F.spec_l1In [(.x 1), (.c (.v (.int .i64 0))), (.x 3)] false) (
.op (.un .not (.x 4)) (
.ite (.x 5)
 (.ret [(.c (.v (.int .i64 0))), (.c (.v (.int .i64 0))), (.c (.v (.bool false)))])
 (.bind 0 (
  .loop [(.c (.v (.int .u64 0))), (.c (.v (.int .i64 0)))] (
   .bind 0 (
    .bind 1 (
     .op (.bin .lss (.x 7) (.c (.v (.int .i64 10)))) (
     .ite (.x 8)
      (.op (.bin .add (.x 1) (.x 7)) (
      .op (.lenL (.x 0)) (
      .op (.bin .lss (.x 9) (.x 10)) (
      .jump [(.x 11)]))))
      (.jump [(.c (.v (.bool false)))]))) (
    .ite (.x 8)
     (.jump [])
     (.esc (.esc (.jump []))))) (
   .bind 1 (
    .op (.bin .add (.x 1) (.x 7)) (
    .op (.elem 1 (.x 0) (.x 8)) (
    .chk (.lt (.x 9) 0) (
    .op (.bin .and (.cell 9 0) (.c (.v (.int .u8 127)))) (
    .op (.conv .u64 (.x 10)) (
    .op (.bin .mul (.c (.v (.int .i64 7))) (.x 7)) (
    .op (.conv .u64 (.x 12)) (
    .op (.bin .shl (.x 11) (.x 13)) (
    .op (.bin .add (.x 6) (.x 14)) (
    .op (.bin .add (.x 1) (.x 7)) (
    .op (.elem 1 (.x 0) (.x 16)) (
    .chk (.lt (.x 17) 0) (
    .op (.bin .lss (.cell 17 0) (.c (.v (.int .u8 128)))) (
    .ite (.x 18)
     (.op (.bin .shr (.x 15) (.c (.v (.int .u64 1)))) (
     .op (.conv .i64 (.x 19)) (
     .bind 1 (
      .op (.bin .and (.x 15) (.c (.v (.int .u64 1)))) (
      .op (.bin .eql (.x 21) (.c (.v (.int .u64 1)))) (
      .ite (.x 22)
       (.op (.un .neg (.x 20)) (
       .op (.bin .sub (.x 23) (.c (.v (.int .i64 1)))) (
       .jump [(.x 24)])))
       (.jump [(.x 20)])))) (
     .op (.call F.spec_PutShort [(.x 21)] false) (
     .op (.bin .add (.x 1) (.x 7)) (
     .op (.bin .add (.x 23) (.c (.v (.int .i64 1)))) (
     .op (.sliceL 1 (.x 0) (some (.x 1)) (some (.x 24))) (
     .op (.call F.spec_l20Same [(.x 22), (.x 25)] true) (
     .op (.un .not (.x 26)) (
     .ite (.x 27)
      (.esc (.esc (.esc (.ret [(.c (.v (.int .i64 0))), (.c (.v (.int .i64 0))), (.c (.v (.bool false)))]))))
      (.op (.bin .add (.x 1) (.x 7)) (
      .op (.bin .add (.x 28) (.c (.v (.int .i64 1)))) (
      .esc (.esc (.esc (.ret [(.x 21), (.x 29), (.c (.v (.bool true)))]))))))))))))))))
     (.jump [(.x 15)]))))))))))))))) (
   .op (.bin .add (.x 7) (.c (.v (.int .i64 1)))) (
   .jump [(.x 8), (.x 9)]))))) (
 .ret [(.c (.v (.int .i64 0))), (.c (.v (.int .i64 0))), (.c (.v (.bool false)))]))))))

theorem T.spec_GetShort_l : leftF Try.prog CF Try.f22 = some (2, T.spec_GetShort) := by kernel_rfl

theorem T.spec_GetShort_con {args : List AV} {res : AV} (hl : args.length = 2) (hn : AV.norefs args = true) (hw : wpT Try.prog (fun _ _ _ => False) (fun a => a = res) T.spec_GetShort args []) : PCon Try.prog F.spec_GetShort args res :=
  con_auto Try.func22 T.spec_GetShort_l hl hn hw

def T.laws_toByteS : T :=
.op (.lenL (.x 0)) (
.op (.rep 1 (.v (.int .u8 0)) (.x 1) (.x 1)) (
.bind 1 (
 .loop [(.x 2), (.c (.v (.int .i64 0)))] (
  .op (.lenL (.x 0)) (
  .op (.bin .lss (.x 4) (.x 5)) (
  .ite (.x 6)
   (.op (.elem 1 (.x 0) (.x 4)) (
   .chk (.lt (.x 7) 0) (
   .chk (.idx (.x 3) (.x 4)) (
   .chk (.one (.cell 7 0)) (
   .op (.set (.x 3) (.x 4) 0 1 (.cell 7 0)) (
   .op (.bin .add (.x 4) (.c (.v (.int .i64 1)))) (
   .jump [(.x 8), (.x 9)])))))))
   (.esc (.jump [(.x 3)])))))) (
.ret [(.sl (.x 3))])))

theorem T.laws_toByteS_l : leftF Try.prog CF Try.f23 = some (1, T.laws_toByteS) := by kernel_rfl

theorem T.laws_toByteS_con {args : List AV} {res : AV} (hl : args.length = 1) (hn : AV.norefs args = true) (hw : wpT Try.prog (fun _ _ _ => False) (fun a => a = res) T.laws_toByteS args []) : PCon Try.prog F.laws_toByteS args res :=
  con_auto Try.func23 T.laws_toByteS_l hl hn hw

def T.laws_szCode : T :=
.chk (.cells (.x 0) 2) (
.op (.call F.laws_szInstrS [(.cell 0 0), (.x 1)] false) (
.op (.bin .lss (.x 2) (.c (.v (.int .i64 0)))) (
.ite (.x 3)
 (.ret [(.c (.v (.int .i64 (-1))))])
 (.op (.call F.laws_szIntS [(.cell 0 1), (.x 2)] false) (
 .op (.bin .lss (.x 4) (.c (.v (.int .i64 0)))) (
 .ite (.x 5)
  (.ret [(.c (.v (.int .i64 (-1))))])
  (.ret [(.x 4)])))))))

theorem T.laws_szCode_l : leftF Try.prog CF Try.f24 = some (2, T.laws_szCode) := by kernel_rfl

theorem T.laws_szCode_con {args : List AV} {res : AV} (hl : args.length = 2) (hn : AV.norefs args = true) (hw : wpT Try.prog (fun _ _ _ => False) (fun a => a = res) T.laws_szCode args []) : PCon Try.prog F.laws_szCode args res :=
  con_auto Try.func24 T.laws_szCode_l hl hn hw

-- spec_Stats: no walk
def T.laws_toCode : T :=
.chk (.cells (.x 0) 2) (
.op (.call F.laws_toInstrS [(.cell 0 0)] false) (
.chk (.one (.x 1)) (
.op (.call F.laws_toIntS [(.cell 0 1)] false) (
.chk (.one (.x 2)) (
.chk (.cells (.agg [(.x 1), (.x 2)]) 2) (
.ret [(.agg [(.x 1), (.x 2)])]))))))

theorem T.laws_toCode_l : leftF Try.prog CF Try.f26 = some (1, T.laws_toCode) := by kernel_rfl

theorem T.laws_toCode_con {args : List AV} {res : AV} (hl : args.length = 1) (hn : AV.norefs args = true) (hw : wpT Try.prog (fun _ _ _ => False) (fun a => a = res) T.laws_toCode args []) : PCon Try.prog F.laws_toCode args res :=
  con_auto Try.func26 T.laws_toCode_l hl hn hw

-- impl_Stats: no walk
-- laws_eqIntA16: no walk
def T.laws_eqCode : T :=
.chk (.cells (.x 0) 2) (
.chk (.cells (.x 1) 2) (
.op (.call F.laws_eqInstrS [(.cell 0 0), (.cell 1 0)] false) (
.op (.un .not (.x 2)) (
.ite (.x 3)
 (.ret [(.c (.v (.bool false)))])
 (.op (.call F.laws_eqIntS [(.cell 0 1), (.cell 1 1)] false) (
 .op (.un .not (.x 4)) (
 .ite (.x 5)
  (.ret [(.c (.v (.bool false)))])
  (.ret [(.c (.v (.bool true)))]))))))))

theorem T.laws_eqCode_l : leftF Try.prog CF Try.f29 = some (2, T.laws_eqCode) := by kernel_rfl

theorem T.laws_eqCode_con {args : List AV} {res : AV} (hl : args.length = 2) (hn : AV.norefs args = true) (hw : wpT Try.prog (fun _ _ _ => False) (fun a => a = res) T.laws_eqCode args []) : PCon Try.prog F.laws_eqCode args res :=
  con_auto Try.func29 T.laws_eqCode_l hl hn hw

def T.laws_at : T :=
.op (.lenL (.x 0)) (
.op (.bin .lss (.x 1) (.x 2)) (
.ite (.x 3)
 (.op (.elem 1 (.x 0) (.x 1)) (
 .chk (.lt (.x 4) 0) (
 .op (.conv .i64 (.cell 4 0)) (
 .ret [(.x 5)]))))
 (.op (.bin .mul (.x 1) (.c (.v (.int .i64 31)))) (
 .op (.lenL (.x 0)) (
 .op (.bin .mul (.x 5) (.c (.v (.int .i64 7)))) (
 .op (.bin .add (.x 4) (.x 6)) (
 .op (.bin .rem (.x 7) (.c (.v (.int .i64 256)))) (
 .ret [(.x 8)]))))))))

theorem T.laws_at_l : leftF Try.prog CF Try.f30 = some (2, T.laws_at) := by kernel_rfl

theorem T.laws_at_con {args : List AV} {res : AV} (hl : args.length = 2) (hn : AV.norefs args = true) (hw : wpT Try.prog (fun _ _ _ => False) (fun a => a = res) T.laws_at args []) : PCon Try.prog F.laws_at args res :=
  con_auto Try.func30 T.laws_at_l hl hn hw

def T.impl_Alpha : T :=
.chk (.cells (.x 0) 7) (
.chk (.cells (.x 1) 7) (
.bind 1 (
 .chk (.cells (.x 0) 7) (
 .op (.call F.impl_ExpOk [(.x 0)] false) (
 .ite (.x 2)
  (.chk (.cells (.x 1) 7) (
  .op (.call F.impl_ExpOk [(.x 1)] false) (
  .ite (.x 3)
   (.chk (.cells (.x 0) 7) (
   .chk (.cells (.x 1) 7) (
   .op (.call F.impl_alpha [(.x 0), (.x 1), (.c .nils), (.c .nils)] false) (
   .jump [(.x 4)]))))
   (.jump [(.c (.v (.bool false)))]))))
  (.jump [(.c (.v (.bool false)))])))) (
.ret [(.x 2)])))

theorem T.impl_Alpha_l : leftF Try.prog CF Try.f31 = some (2, T.impl_Alpha) := by kernel_rfl

theorem T.impl_Alpha_con {args : List AV} {res : AV} (hl : args.length = 2) (hn : AV.norefs args = true) (hw : wpT Try.prog (fun _ _ _ => False) (fun a => a = res) T.impl_Alpha args []) : PCon Try.prog F.impl_Alpha args res :=
  con_auto Try.func31 T.impl_Alpha_l hl hn hw

def T.laws_szTy : T :=
.chk (.cells (.x 0) 4) (
.op (.lenS (.cell 0 2)) (
.op (.bin .sub (.x 1) (.x 2)) (
.op (.bin .lss (.x 3) (.c (.v (.int .i64 0)))) (
.ite (.x 4)
 (.ret [(.c (.v (.int .i64 (-1))))])
 (.op (.call F.laws_szTyS [(.cell 0 3), (.x 3)] false) (
 .op (.bin .lss (.x 5) (.c (.v (.int .i64 0)))) (
 .ite (.x 6)
  (.ret [(.c (.v (.int .i64 (-1))))])
  (.ret [(.x 5)]))))))))

theorem T.laws_szTy_l : leftF Try.prog CF Try.f32 = some (2, T.laws_szTy) := by kernel_rfl

theorem T.laws_szTy_con {args : List AV} {res : AV} (hl : args.length = 2) (hn : AV.norefs args = true) (hw : wpT Try.prog (fun _ _ _ => False) (fun a => a = res) T.laws_szTy args []) : PCon Try.prog F.laws_szTy args res :=
  con_auto Try.func32 T.laws_szTy_l hl hn hw

def T.spec_Free : T :=
.chk (.cells (.x 0) 4) (
.bind 0 (
 .bind 1 (
  .chk (.cells (.x 0) 4) (
  .op (.call F.spec_TyOk [(.x 0)] false) (
  .op (.un .not (.x 2)) (
  .ite (.x 3)
   (.jump [(.c (.v (.bool true)))])
   (.op (.call F.spec_l1In [(.x 1), (.c (.v (.int .i64 9))), (.c (.v (.int .i64 11)))] false) (
   .op (.un .not (.x 4)) (
   .jump [(.x 5)]))))))) (
 .ite (.x 2)
  (.op (.mkl (.v (.int .i64 0)) 0 []) (
  .esc (.ret [(.sl (.x 3))])))
  (.jump []))) (
.chk (.cells (.x 0) 4) (
.op (.mkl (.v (.int .i64 0)) 0 []) (
.op (.scall F.spec_l4Free G.spec_l4Free [(.x 0), (.x 1), (.x 2)]) (
.ret [(.sl (.ext 3 0))])))))

theorem T.spec_Free_l : leftR Try.prog CF false 3 1 Try.f33 = some (2, T.spec_Free) := by kernel_rfl

theorem T.spec_Free_fcon {args xs : List AV} (hl : args.length = 2) (hn : AV.norefs args = true) (hw : wpT Try.prog (fun _ _ _ => False) (fun a => a = .sl xs) T.spec_Free args []) : FCon Try.prog F.spec_Free args false 3 1 xs :=
  fcon_auto Try.func33 T.spec_Free_l hl hn hw

def T.laws_toTy : T :=
.chk (.cells (.x 0) 4) (
.chk (.one (.cell 0 0)) (
.chk (.one (.cell 0 1)) (
.chk (.one (.cell 0 2)) (
.op (.call F.laws_toTyS [(.cell 0 3)] false) (
.chk (.one (.x 1)) (
.chk (.cells (.agg [(.cell 0 0), (.cell 0 1), (.cell 0 2), (.x 1)]) 4) (
.ret [(.agg [(.cell 0 0), (.cell 0 1), (.cell 0 2), (.x 1)])])))))))

theorem T.laws_toTy_l : leftF Try.prog CF Try.f34 = some (1, T.laws_toTy) := by kernel_rfl

theorem T.laws_toTy_con {args : List AV} {res : AV} (hl : args.length = 1) (hn : AV.norefs args = true) (hw : wpT Try.prog (fun _ _ _ => False) (fun a => a = res) T.laws_toTy args []) : PCon Try.prog F.laws_toTy args res :=
  con_auto Try.func34 T.laws_toTy_l hl hn hw

def T.impl_Free : T :=
.chk (.cells (.x 0) 4) (
.bind 0 (
 .bind 1 (
  .op (.call F.impl_isVarKind [(.x 1)] false) (
  .op (.un .not (.x 2)) (
  .ite (.x 3)
   (.jump [(.c (.v (.bool true)))])
   (.chk (.cells (.x 0) 4) (
   .op (.call F.impl_TyOk [(.x 0)] false) (
   .op (.un .not (.x 4)) (
   .jump [(.x 5)]))))))) (
 .ite (.x 2)
  (.esc (.ret [(.sl (.c (.sl [])))]))
  (.jump []))) (
.chk (.cells (.x 0) 4) (
.op (.fcall true 3 1 F.impl_frees [(.x 0), (.x 1)]) (
.ret [(.sl (.x 2))]))))

theorem T.impl_Free_l : leftR Try.prog CF true 3 1 Try.f35 = some (2, T.impl_Free) := by kernel_rfl

theorem T.impl_Free_fcon {args xs : List AV} (hl : args.length = 2) (hn : AV.norefs args = true) (hw : wpT Try.prog (fun _ _ _ => False) (fun a => a = .sl xs) T.impl_Free args []) : FCon Try.prog F.impl_Free args true 3 1 xs :=
  fcon_auto Try.func35 T.impl_Free_l hl hn hw

def T.laws_eqIntS : T :=
.op (.lenL (.x 0)) (
.op (.lenL (.x 1)) (
.op (.bin .neq (.x 2) (.x 3)) (
.ite (.x 4)
 (.ret [(.c (.v (.bool false)))])
 (.bind 0 (
  .loop [(.c (.v (.int .i64 0)))] (
   .op (.lenL (.x 0)) (
   .op (.bin .lss (.x 5) (.x 6)) (
   .ite (.x 7)
    (.op (.elem 1 (.x 0) (.x 5)) (
    .chk (.lt (.x 8) 0) (
    .op (.elem 1 (.x 1) (.x 5)) (
    .chk (.lt (.x 9) 0) (
    .op (.bin .neq (.cell 8 0) (.cell 9 0)) (
    .ite (.x 10)
     (.esc (.esc (.ret [(.c (.v (.bool false)))])))
     (.op (.bin .add (.x 5) (.c (.v (.int .i64 1)))) (
     .jump [(.x 11)]))))))))
    (.esc (.jump [])))))) (
 .ret [(.c (.v (.bool true)))])))))

theorem T.laws_eqIntS_l : leftF Try.prog CF Try.f36 = some (2, T.laws_eqIntS) := by kernel_rfl

theorem T.laws_eqIntS_con {args : List AV} {res : AV} (hl : args.length = 2) (hn : AV.norefs args = true) (hw : wpT Try.prog (fun _ _ _ => False) (fun a => a = res) T.laws_eqIntS args []) : PCon Try.prog F.laws_eqIntS args res :=
  con_auto Try.func36 T.laws_eqIntS_l hl hn hw

def T.laws_eqTy : T :=
.chk (.cells (.x 0) 4) (
.chk (.cells (.x 1) 4) (
.op (.bin .neq (.cell 0 0) (.cell 1 0)) (
.ite (.x 2)
 (.ret [(.c (.v (.bool false)))])
 (.op (.bin .neq (.cell 0 1) (.cell 1 1)) (
 .ite (.x 3)
  (.ret [(.c (.v (.bool false)))])
  (.op (.bin .neq (.cell 0 2) (.cell 1 2)) (
  .ite (.x 4)
   (.ret [(.c (.v (.bool false)))])
   (.op (.call F.laws_eqTyS [(.cell 0 3), (.cell 1 3)] false) (
   .op (.un .not (.x 5)) (
   .ite (.x 6)
    (.ret [(.c (.v (.bool false)))])
    (.ret [(.c (.v (.bool true)))])))))))))))

theorem T.laws_eqTy_l : leftF Try.prog CF Try.f37 = some (2, T.laws_eqTy) := by kernel_rfl

theorem T.laws_eqTy_con {args : List AV} {res : AV} (hl : args.length = 2) (hn : AV.norefs args = true) (hw : wpT Try.prog (fun _ _ _ => False) (fun a => a = res) T.laws_eqTy args []) : PCon Try.prog F.laws_eqTy args res :=
  con_auto Try.func37 T.laws_eqTy_l hl hn hw

def T.laws_markTy : T :=
.chk (.cells (.x 0) 4) (
.op (.call F.laws_markTyS [(.cell 0 3), (.x 1)] false) (
.ret [(.x 2)]))

theorem T.laws_markTy_l : leftF Try.prog CF Try.f38 = some (2, T.laws_markTy) := by kernel_rfl

theorem T.laws_markTy_con {args : List AV} {res : AV} (hl : args.length = 2) (hn : AV.norefs args = true) (hw : wpT Try.prog (fun _ _ _ => False) (fun a => a = res) T.laws_markTy args []) : PCon Try.prog F.laws_markTy args res :=
  con_auto Try.func38 T.laws_markTy_l hl hn hw

def T.laws_markIntS : T :=
.bind 2 (
 .loop [(.x 0), (.x 1), (.c (.v (.int .i64 0)))] (
  .op (.lenL (.sl (.x 2))) (
  .op (.bin .lss (.x 4) (.x 5)) (
  .ite (.x 6)
   (.chk (.idx (.x 2) (.x 4)) (
   .chk (.one (.x 3)) (
   .op (.set (.x 2) (.x 4) 0 1 (.x 3)) (
   .op (.bin .add (.x 3) (.c (.v (.int .i64 1)))) (
   .op (.bin .add (.x 4) (.c (.v (.int .i64 1)))) (
   .jump [(.x 7), (.x 8), (.x 9)]))))))
   (.esc (.jump [(.x 2), (.x 3)])))))) (
.ret [(.x 2), (.x 3)])

theorem T.laws_markIntS_l : leftS Try.prog CF G.laws_markIntS Try.f39 = some T.laws_markIntS := by kernel_rfl

theorem T.laws_markIntS_scon {ins outs : List AV} (hl : ins.length = 2) (ho : outs.length = 2) (hn : AV.norefs ins = true) (hw : wpT Try.prog (fun _ _ _ => False) (fun a => a = packR outs) T.laws_markIntS ins []) : SCon Try.prog F.laws_markIntS G.laws_markIntS ins outs :=
  scon_auto Try.func39 T.laws_markIntS_l hl hn ho hw

def T.laws_heldIntS : T :=
.bind 1 (
 .loop [(.x 1), (.c (.v (.int .i64 0)))] (
  .op (.lenL (.x 0)) (
  .op (.bin .lss (.x 3) (.x 4)) (
  .ite (.x 5)
   (.op (.elem 1 (.x 0) (.x 3)) (
   .chk (.lt (.x 6) 0) (
   .op (.bin .neq (.cell 6 0) (.x 2)) (
   .ite (.x 7)
    (.esc (.esc (.ret [(.c (.v (.int .i64 (-1))))])))
    (.op (.bin .add (.x 2) (.c (.v (.int .i64 1)))) (
    .op (.bin .add (.x 3) (.c (.v (.int .i64 1)))) (
    .jump [(.x 8), (.x 9)])))))))
   (.esc (.jump [(.x 2)])))))) (
.ret [(.x 2)])

theorem T.laws_heldIntS_l : leftF Try.prog CF Try.f40 = some (2, T.laws_heldIntS) := by kernel_rfl

theorem T.laws_heldIntS_con {args : List AV} {res : AV} (hl : args.length = 2) (hn : AV.norefs args = true) (hw : wpT Try.prog (fun _ _ _ => False) (fun a => a = res) T.laws_heldIntS args []) : PCon Try.prog F.laws_heldIntS args res :=
  con_auto Try.func40 T.laws_heldIntS_l hl hn hw

def T.laws_szTyS : T :=
.op (.lenL (.x 0)) (
.op (.bin .sub (.x 1) (.x 2)) (
.op (.bin .lss (.x 3) (.c (.v (.int .i64 0)))) (
.ite (.x 4)
 (.ret [(.c (.v (.int .i64 (-1))))])
 (.bind 1 (
  .loop [(.x 3), (.c (.v (.int .i64 0)))] (
   .op (.lenL (.x 0)) (
   .op (.bin .lss (.x 6) (.x 7)) (
   .ite (.x 8)
    (.op (.elem 4 (.x 0) (.x 6)) (
    .chk (.cells (.x 9) 4) (
    .op (.call F.laws_szTy [(.x 9), (.x 5)] false) (
    .op (.bin .lss (.x 10) (.c (.v (.int .i64 0)))) (
    .ite (.x 11)
     (.esc (.esc (.ret [(.c (.v (.int .i64 (-1))))])))
     (.op (.bin .add (.x 6) (.c (.v (.int .i64 1)))) (
     .jump [(.x 10), (.x 12)])))))))
    (.esc (.jump [(.x 5)])))))) (
 .ret [(.x 5)])))))

theorem T.laws_szTyS_l : leftF Try.prog CF Try.f41 = some (2, T.laws_szTyS) := by kernel_rfl

theorem T.laws_szTyS_con {args : List AV} {res : AV} (hl : args.length = 2) (hn : AV.norefs args = true) (hw : wpT Try.prog (fun _ _ _ => False) (fun a => a = res) T.laws_szTyS args []) : PCon Try.prog F.laws_szTyS args res :=
  con_auto Try.func41 T.laws_szTyS_l hl hn hw

def T.spec_Put : T :=
.chk (.cells (.x 0) 4) (
.bind 0 (
 .bind 1 (
  .chk (.cells (.x 0) 4) (
  .op (.call F.spec_TyOk [(.x 0)] false) (
  .op (.un .not (.x 3)) (
  .ite (.x 4)
   (.jump [(.c (.v (.bool true)))])
   (.op (.call F.spec_l1In [(.x 1), (.c (.v (.int .i64 9))), (.c (.v (.int .i64 11)))] false) (
   .op (.un .not (.x 5)) (
   .jump [(.x 6)]))))))) (
 .ite (.x 3)
  (.chk (.cells (.x 0) 4) (
  .op (.call F.spec_l4Copy [(.x 0)] false) (
  .chk (.cells (.x 4) 4) (
  .esc (.ret [(.agg [(.cell 4 0), (.cell 4 1), (.cell 4 2), (.cell 4 3)])])))))
  (.jump []))) (
.chk (.cells (.x 0) 4) (
.op (.call F.spec_l4Put [(.x 0), (.x 1), (.x 2)] false) (
.chk (.cells (.x 3) 4) (
.ret [(.agg [(.cell 3 0), (.cell 3 1), (.cell 3 2), (.cell 3 3)])])))))

theorem T.spec_Put_l : leftF Try.prog CF Try.f42 = some (3, T.spec_Put) := by kernel_rfl

theorem T.spec_Put_con {args : List AV} {res : AV} (hl : args.length = 3) (hn : AV.norefs args = true) (hw : wpT Try.prog (fun _ _ _ => False) (fun a => a = res) T.spec_Put args []) : PCon Try.prog F.spec_Put args res :=
  con_auto Try.func42 T.spec_Put_l hl hn hw

def T.laws_toTyS : T :=
.op (.lenL (.x 0)) (
.op (.rep 56 (.agg [(.v (.int .i64 0)), (.v (.int .i64 0)), (.v (.string ⟨#[]⟩)), .nils]) (.x 1) (.x 1)) (
.bind 1 (
 .loop [(.x 2), (.c (.v (.int .i64 0)))] (
  .op (.lenL (.x 0)) (
  .op (.bin .lss (.x 4) (.x 5)) (
  .ite (.x 6)
   (.op (.elem 4 (.x 0) (.x 4)) (
   .chk (.cells (.x 7) 4) (
   .op (.call F.laws_toTy [(.x 7)] false) (
   .chk (.idx (.x 3) (.x 4)) (
   .chk (.cells (.x 8) 4) (
   .op (.set (.x 3) (.x 4) 0 4 (.x 8)) (
   .op (.bin .add (.x 4) (.c (.v (.int .i64 1)))) (
   .jump [(.x 9), (.x 10)]))))))))
   (.esc (.jump [(.x 3)])))))) (
.ret [(.sl (.x 3))])))

theorem T.laws_toTyS_l : leftF Try.prog CF Try.f43 = some (1, T.laws_toTyS) := by kernel_rfl

theorem T.laws_toTyS_con {args : List AV} {res : AV} (hl : args.length = 1) (hn : AV.norefs args = true) (hw : wpT Try.prog (fun _ _ _ => False) (fun a => a = res) T.laws_toTyS args []) : PCon Try.prog F.laws_toTyS args res :=
  con_auto Try.func43 T.laws_toTyS_l hl hn hw

def T.impl_Put : T :=
.chk (.cells (.x 0) 4) (
.bind 0 (
 .bind 1 (
  .op (.call F.impl_isVarKind [(.x 1)] false) (
  .op (.un .not (.x 3)) (
  .ite (.x 4)
   (.jump [(.c (.v (.bool true)))])
   (.chk (.cells (.x 0) 4) (
   .op (.call F.impl_TyOk [(.x 0)] false) (
   .op (.un .not (.x 5)) (
   .jump [(.x 6)]))))))) (
 .ite (.x 3)
  (.chk (.cells (.x 0) 4) (
  .op (.call F.impl_copyTy [(.x 0)] false) (
  .chk (.cells (.x 4) 4) (
  .esc (.ret [(.agg [(.cell 4 0), (.cell 4 1), (.cell 4 2), (.cell 4 3)])])))))
  (.jump []))) (
.chk (.cells (.x 0) 4) (
.op (.call F.impl_put [(.x 0), (.x 1), (.x 2)] false) (
.chk (.cells (.x 3) 4) (
.ret [(.agg [(.cell 3 0), (.cell 3 1), (.cell 3 2), (.cell 3 3)])])))))

theorem T.impl_Put_l : leftF Try.prog CF Try.f44 = some (3, T.impl_Put) := by kernel_rfl

theorem T.impl_Put_con {args : List AV} {res : AV} (hl : args.length = 3) (hn : AV.norefs args = true) (hw : wpT Try.prog (fun _ _ _ => False) (fun a => a = res) T.impl_Put args []) : PCon Try.prog F.impl_Put args res :=
  con_auto Try.func44 T.impl_Put_l hl hn hw

def T.laws_eqTyS : T :=
.op (.lenL (.x 0)) (
.op (.lenL (.x 1)) (
.op (.bin .neq (.x 2) (.x 3)) (
.ite (.x 4)
 (.ret [(.c (.v (.bool false)))])
 (.bind 0 (
  .loop [(.c (.v (.int .i64 0)))] (
   .op (.lenL (.x 0)) (
   .op (.bin .lss (.x 5) (.x 6)) (
   .ite (.x 7)
    (.op (.elem 4 (.x 0) (.x 5)) (
    .chk (.cells (.x 8) 4) (
    .op (.elem 4 (.x 1) (.x 5)) (
    .chk (.cells (.x 9) 4) (
    .op (.call F.laws_eqTy [(.x 8), (.x 9)] true) (
    .op (.un .not (.x 10)) (
    .ite (.x 11)
     (.esc (.esc (.ret [(.c (.v (.bool false)))])))
     (.op (.bin .add (.x 5) (.c (.v (.int .i64 1)))) (
     .jump [(.x 12)])))))))))
    (.esc (.jump [])))))) (
 .ret [(.c (.v (.bool true)))])))))

theorem T.laws_eqTyS_l : leftF Try.prog CF Try.f45 = some (2, T.laws_eqTyS) := by kernel_rfl

theorem T.laws_eqTyS_con {args : List AV} {res : AV} (hl : args.length = 2) (hn : AV.norefs args = true) (hw : wpT Try.prog (fun _ _ _ => False) (fun a => a = res) T.laws_eqTyS args []) : PCon Try.prog F.laws_eqTyS args res :=
  con_auto Try.func45 T.laws_eqTyS_l hl hn hw

-- laws_markTyS: no walk
def T.laws_heldTy : T :=
.chk (.cells (.x 0) 4) (
.op (.call F.laws_heldTyS [(.cell 0 3), (.x 1)] false) (
.op (.bin .lss (.x 2) (.c (.v (.int .i64 0)))) (
.ite (.x 3)
 (.ret [(.c (.v (.int .i64 (-1))))])
 (.ret [(.x 2)]))))

theorem T.laws_heldTy_l : leftF Try.prog CF Try.f47 = some (2, T.laws_heldTy) := by kernel_rfl

theorem T.laws_heldTy_con {args : List AV} {res : AV} (hl : args.length = 2) (hn : AV.norefs args = true) (hw : wpT Try.prog (fun _ _ _ => False) (fun a => a = res) T.laws_heldTy args []) : PCon Try.prog F.laws_heldTy args res :=
  con_auto Try.func47 T.laws_heldTy_l hl hn hw

def T.laws_szExp : T :=
.chk (.cells (.x 0) 7) (
.op (.lenS (.cell 0 1)) (
.op (.bin .sub (.x 1) (.x 2)) (
.op (.bin .lss (.x 3) (.c (.v (.int .i64 0)))) (
.ite (.x 4)
 (.ret [(.c (.v (.int .i64 (-1))))])
 (.op (.lenS (.cell 0 3)) (
 .op (.bin .sub (.x 3) (.x 5)) (
 .op (.bin .lss (.x 6) (.c (.v (.int .i64 0)))) (
 .ite (.x 7)
  (.ret [(.c (.v (.int .i64 (-1))))])
  (.op (.call F.laws_szExpS [(.cell 0 5), (.x 6)] false) (
  .op (.bin .lss (.x 8) (.c (.v (.int .i64 0)))) (
  .ite (.x 9)
   (.ret [(.c (.v (.int .i64 (-1))))])
   (.op (.call F.laws_szArmS [(.cell 0 6), (.x 8)] false) (
   .op (.bin .lss (.x 10) (.c (.v (.int .i64 0)))) (
   .ite (.x 11)
    (.ret [(.c (.v (.int .i64 (-1))))])
    (.ret [(.x 10)])))))))))))))))

theorem T.laws_szExp_l : leftF Try.prog CF Try.f48 = some (2, T.laws_szExp) := by kernel_rfl

theorem T.laws_szExp_con {args : List AV} {res : AV} (hl : args.length = 2) (hn : AV.norefs args = true) (hw : wpT Try.prog (fun _ _ _ => False) (fun a => a = res) T.laws_szExp args []) : PCon Try.prog F.laws_szExp args res :=
  con_auto Try.func48 T.laws_szExp_l hl hn hw

def T.spec_Alpha : T :=
.chk (.cells (.x 0) 7) (
.chk (.cells (.x 1) 7) (
.bind 1 (
 .chk (.cells (.x 0) 7) (
 .op (.call F.spec_ExpOk [(.x 0)] false) (
 .ite (.x 2)
  (.chk (.cells (.x 1) 7) (
  .op (.call F.spec_ExpOk [(.x 1)] false) (
  .ite (.x 3)
   (.chk (.cells (.x 0) 7) (
   .chk (.cells (.x 1) 7) (
   .op (.mkl (.v (.string ⟨#[]⟩)) 0 []) (
   .op (.mkl (.v (.string ⟨#[]⟩)) 0 []) (
   .op (.call F.spec_l19Same [(.x 0), (.x 1), (.sl (.x 4)), (.sl (.x 5))] true) (
   .jump [(.x 6)]))))))
   (.jump [(.c (.v (.bool false)))]))))
  (.jump [(.c (.v (.bool false)))])))) (
.ret [(.x 2)])))

theorem T.spec_Alpha_l : leftF Try.prog CF Try.f49 = some (2, T.spec_Alpha) := by kernel_rfl

theorem T.spec_Alpha_con {args : List AV} {res : AV} (hl : args.length = 2) (hn : AV.norefs args = true) (hw : wpT Try.prog (fun _ _ _ => False) (fun a => a = res) T.spec_Alpha args []) : PCon Try.prog F.spec_Alpha args res :=
  con_auto Try.func49 T.spec_Alpha_l hl hn hw

def T.laws_toExp : T :=
.chk (.cells (.x 0) 7) (
.chk (.one (.cell 0 0)) (
.chk (.one (.cell 0 1)) (
.chk (.one (.cell 0 2)) (
.chk (.one (.cell 0 3)) (
.chk (.one (.cell 0 4)) (
.op (.call F.laws_toExpS [(.cell 0 5)] false) (
.chk (.one (.x 1)) (
.op (.call F.laws_toArmS [(.cell 0 6)] false) (
.chk (.one (.x 2)) (
.chk (.cells (.agg [(.cell 0 0), (.cell 0 1), (.cell 0 2), (.cell 0 3), (.cell 0 4), (.x 1), (.x 2)]) 7) (
.ret [(.agg [(.cell 0 0), (.cell 0 1), (.cell 0 2), (.cell 0 3), (.cell 0 4), (.x 1), (.x 2)])])))))))))))

theorem T.laws_toExp_l : leftF Try.prog CF Try.f50 = some (1, T.laws_toExp) := by kernel_rfl

theorem T.laws_toExp_con {args : List AV} {res : AV} (hl : args.length = 1) (hn : AV.norefs args = true) (hw : wpT Try.prog (fun _ _ _ => False) (fun a => a = res) T.laws_toExp args []) : PCon Try.prog F.laws_toExp args res :=
  con_auto Try.func50 T.laws_toExp_l hl hn hw

def T.laws_eqExp : T :=
.chk (.cells (.x 0) 7) (
.chk (.cells (.x 1) 7) (
.op (.bin .neq (.cell 0 0) (.cell 1 0)) (
.ite (.x 2)
 (.ret [(.c (.v (.bool false)))])
 (.op (.bin .neq (.cell 0 1) (.cell 1 1)) (
 .ite (.x 3)
  (.ret [(.c (.v (.bool false)))])
  (.op (.bin .neq (.cell 0 2) (.cell 1 2)) (
  .ite (.x 4)
   (.ret [(.c (.v (.bool false)))])
   (.op (.bin .neq (.cell 0 3) (.cell 1 3)) (
   .ite (.x 5)
    (.ret [(.c (.v (.bool false)))])
    (.op (.bin .neq (.cell 0 4) (.cell 1 4)) (
    .ite (.x 6)
     (.ret [(.c (.v (.bool false)))])
     (.op (.call F.laws_eqExpS [(.cell 0 5), (.cell 1 5)] false) (
     .op (.un .not (.x 7)) (
     .ite (.x 8)
      (.ret [(.c (.v (.bool false)))])
      (.op (.call F.laws_eqArmS [(.cell 0 6), (.cell 1 6)] false) (
      .op (.un .not (.x 9)) (
      .ite (.x 10)
       (.ret [(.c (.v (.bool false)))])
       (.ret [(.c (.v (.bool true)))]))))))))))))))))))

theorem T.laws_eqExp_l : leftF Try.prog CF Try.f51 = some (2, T.laws_eqExp) := by kernel_rfl

theorem T.laws_eqExp_con {args : List AV} {res : AV} (hl : args.length = 2) (hn : AV.norefs args = true) (hw : wpT Try.prog (fun _ _ _ => False) (fun a => a = res) T.laws_eqExp args []) : PCon Try.prog F.laws_eqExp args res :=
  con_auto Try.func51 T.laws_eqExp_l hl hn hw

def T.laws_szKTerm : T :=
.chk (.cells (.x 0) 11) (
.op (.lenS (.cell 0 1)) (
.op (.bin .sub (.x 1) (.x 2)) (
.op (.bin .lss (.x 3) (.c (.v (.int .i64 0)))) (
.ite (.x 4)
 (.ret [(.c (.v (.int .i64 (-1))))])
 (.op (.call F.laws_szTy [(.agg [(.cell 0 4), (.cell 0 5), (.cell 0 6), (.cell 0 7)]), (.x 3)] false) (
 .op (.bin .lss (.x 5) (.c (.v (.int .i64 0)))) (
 .ite (.x 6)
  (.ret [(.c (.v (.int .i64 (-1))))])
  (.op (.call F.laws_szTyS [(.cell 0 8), (.x 5)] false) (
  .op (.bin .lss (.x 7) (.c (.v (.int .i64 0)))) (
  .ite (.x 8)
   (.ret [(.c (.v (.int .i64 (-1))))])
   (.op (.call F.laws_szKValS [(.cell 0 9), (.x 7)] false) (
   .op (.bin .lss (.x 9) (.c (.v (.int .i64 0)))) (
   .ite (.x 10)
    (.ret [(.c (.v (.int .i64 (-1))))])
    (.op (.call F.laws_szKTermS [(.cell 0 10), (.x 9)] false) (
    .op (.bin .lss (.x 11) (.c (.v (.int .i64 0)))) (
    .ite (.x 12)
     (.ret [(.c (.v (.int .i64 (-1))))])
     (.ret [(.x 11)])))))))))))))))))

theorem T.laws_szKTerm_l : leftF Try.prog CF Try.f52 = some (2, T.laws_szKTerm) := by kernel_rfl

theorem T.laws_szKTerm_con {args : List AV} {res : AV} (hl : args.length = 2) (hn : AV.norefs args = true) (hw : wpT Try.prog (fun _ _ _ => False) (fun a => a = res) T.laws_szKTerm args []) : PCon Try.prog F.laws_szKTerm args res :=
  con_auto Try.func52 T.laws_szKTerm_l hl hn hw

def T.spec_Uses : T :=
.chk (.cells (.x 0) 11) (
.chk (.cells (.x 0) 11) (
.op (.call F.spec_l13Fine [(.x 0), (.x 1)] false) (
.op (.un .not (.x 2)) (
.ite (.x 3)
 (.op (.mkl (.v (.int .i64 0)) 0 []) (
 .ret [(.sl (.x 4))]))
 (.chk (.cells (.x 0) 11) (
 .op (.call F.spec_l13Bound [(.x 0), (.x 1)] false) (
 .bind 1 (
  .op (.bin .gtr (.x 1) (.x 4)) (
  .ite (.x 5)
   (.jump [(.x 1)])
   (.jump [(.x 4)]))) (
 .op (.rep 8 (.v (.int .i64 0)) (.x 5) (.x 5)) (
 .bind 1 (
  .loop [(.x 6), (.c (.v (.int .i64 0)))] (
   .op (.bin .lss (.x 8) (.x 5)) (
   .ite (.x 9)
    (.chk (.idx (.x 7) (.x 8)) (
    .chk (.one (.c (.v (.int .i64 (-1))))) (
    .op (.set (.x 7) (.x 8) 0 1 (.c (.v (.int .i64 (-1))))) (
    .op (.bin .add (.x 8) (.c (.v (.int .i64 1)))) (
    .jump [(.x 10), (.x 11)])))))
    (.esc (.jump [(.x 7)]))))) (
 .chk (.cells (.x 0) 11) (
 .op (.scall F.spec_l13Uses G.spec_l13Uses [(.x 0), (.x 1), (.c (.v (.int .i64 0))), (.x 7)]) (
 .chk (.eql (.x 7) (.ext 8 0)) (
 .ret [(.sl (.ext 8 0))])))))))))))))

theorem T.spec_Uses_l : leftF Try.prog CF Try.f53 = some (2, T.spec_Uses) := by kernel_rfl

theorem T.spec_Uses_con {args : List AV} {res : AV} (hl : args.length = 2) (hn : AV.norefs args = true) (hw : wpT Try.prog (fun _ _ _ => False) (fun a => a = res) T.spec_Uses args []) : PCon Try.prog F.spec_Uses args res :=
  con_auto Try.func53 T.spec_Uses_l hl hn hw

def T.laws_toKTerm : T :=
.chk (.cells (.x 0) 11) (
.chk (.one (.cell 0 0)) (
.chk (.one (.cell 0 1)) (
.chk (.one (.cell 0 2)) (
.chk (.one (.cell 0 3)) (
.op (.call F.laws_toTy [(.agg [(.cell 0 4), (.cell 0 5), (.cell 0 6), (.cell 0 7)])] false) (
.chk (.cells (.x 1) 4) (
.op (.call F.laws_toTyS [(.cell 0 8)] false) (
.chk (.one (.x 2)) (
.op (.call F.laws_toKValS [(.cell 0 9)] false) (
.chk (.one (.x 3)) (
.op (.call F.laws_toKTermS [(.cell 0 10)] false) (
.chk (.one (.x 4)) (
.chk (.cells (.agg [(.cell 0 0), (.cell 0 1), (.cell 0 2), (.cell 0 3), (.cell 1 0), (.cell 1 1), (.cell 1 2), (.cell 1 3), (.x 2), (.x 3), (.x 4)]) 11) (
.ret [(.agg [(.cell 0 0), (.cell 0 1), (.cell 0 2), (.cell 0 3), (.cell 1 0), (.cell 1 1), (.cell 1 2), (.cell 1 3), (.x 2), (.x 3), (.x 4)])]))))))))))))))

theorem T.laws_toKTerm_l : leftF Try.prog CF Try.f54 = some (1, T.laws_toKTerm) := by kernel_rfl

theorem T.laws_toKTerm_con {args : List AV} {res : AV} (hl : args.length = 1) (hn : AV.norefs args = true) (hw : wpT Try.prog (fun _ _ _ => False) (fun a => a = res) T.laws_toKTerm args []) : PCon Try.prog F.laws_toKTerm args res :=
  con_auto Try.func54 T.laws_toKTerm_l hl hn hw

-- impl_Uses: no walk
def T.laws_eqKTerm : T :=
.chk (.cells (.x 0) 11) (
.chk (.cells (.x 1) 11) (
.op (.bin .neq (.cell 0 0) (.cell 1 0)) (
.ite (.x 2)
 (.ret [(.c (.v (.bool false)))])
 (.op (.bin .neq (.cell 0 1) (.cell 1 1)) (
 .ite (.x 3)
  (.ret [(.c (.v (.bool false)))])
  (.op (.bin .neq (.cell 0 2) (.cell 1 2)) (
  .ite (.x 4)
   (.ret [(.c (.v (.bool false)))])
   (.op (.bin .neq (.cell 0 3) (.cell 1 3)) (
   .ite (.x 5)
    (.ret [(.c (.v (.bool false)))])
    (.op (.call F.laws_eqTy [(.agg [(.cell 0 4), (.cell 0 5), (.cell 0 6), (.cell 0 7)]), (.agg [(.cell 1 4), (.cell 1 5), (.cell 1 6), (.cell 1 7)])] false) (
    .op (.un .not (.x 6)) (
    .ite (.x 7)
     (.ret [(.c (.v (.bool false)))])
     (.op (.call F.laws_eqTyS [(.cell 0 8), (.cell 1 8)] false) (
     .op (.un .not (.x 8)) (
     .ite (.x 9)
      (.ret [(.c (.v (.bool false)))])
      (.op (.call F.laws_eqKValS [(.cell 0 9), (.cell 1 9)] false) (
      .op (.un .not (.x 10)) (
      .ite (.x 11)
       (.ret [(.c (.v (.bool false)))])
       (.op (.call F.laws_eqKTermS [(.cell 0 10), (.cell 1 10)] false) (
       .op (.un .not (.x 12)) (
       .ite (.x 13)
        (.ret [(.c (.v (.bool false)))])
        (.ret [(.c (.v (.bool true)))]))))))))))))))))))))))

theorem T.laws_eqKTerm_l : leftF Try.prog CF Try.f56 = some (2, T.laws_eqKTerm) := by kernel_rfl

theorem T.laws_eqKTerm_con {args : List AV} {res : AV} (hl : args.length = 2) (hn : AV.norefs args = true) (hw : wpT Try.prog (fun _ _ _ => False) (fun a => a = res) T.laws_eqKTerm args []) : PCon Try.prog F.laws_eqKTerm args res :=
  con_auto Try.func56 T.laws_eqKTerm_l hl hn hw

def T.laws_markKTerm : T :=
.chk (.cells (.x 0) 11) (
.op (.call F.laws_markTy [(.agg [(.cell 0 4), (.cell 0 5), (.cell 0 6), (.cell 0 7)]), (.x 1)] false) (
.op (.call F.laws_markTyS [(.cell 0 8), (.x 2)] false) (
.op (.call F.laws_markKValS [(.cell 0 9), (.x 3)] false) (
.op (.call F.laws_markKTermS [(.cell 0 10), (.x 4)] false) (
.ret [(.x 5)])))))

theorem T.laws_markKTerm_l : leftF Try.prog CF Try.f57 = some (2, T.laws_markKTerm) := by kernel_rfl

theorem T.laws_markKTerm_con {args : List AV} {res : AV} (hl : args.length = 2) (hn : AV.norefs args = true) (hw : wpT Try.prog (fun _ _ _ => False) (fun a => a = res) T.laws_markKTerm args []) : PCon Try.prog F.laws_markKTerm args res :=
  con_auto Try.func57 T.laws_markKTerm_l hl hn hw

def T.spec_Homes : T :=
.chk (.cells (.x 0) 11) (
.chk (.cells (.x 0) 11) (
.op (.call F.spec_l13Fine [(.x 0), (.x 1)] false) (
.op (.un .not (.x 2)) (
.ite (.x 3)
 (.op (.mkl (.v (.int .i64 0)) 0 []) (
 .ret [(.sl (.x 4)), (.c (.v (.bool false)))]))
 (.chk (.cells (.x 0) 11) (
 .op (.call F.spec_Uses [(.x 0), (.x 1)] false) (
 .op (.mkl (.v (.int .i64 0)) 0 []) (
 .bind 1 (
  .loop [(.x 5), (.c (.v (.int .i64 0)))] (
   .op (.lenL (.x 4)) (
   .op (.bin .lss (.x 7) (.x 8)) (
   .ite (.x 9)
    (.bind 1 (
     .op (.elem 1 (.x 4) (.x 7)) (
     .chk (.lt (.x 10) 0) (
     .op (.bin .lss (.cell 10 0) (.c (.v (.int .i64 0)))) (
     .ite (.x 11)
      (.chk (.one (.c (.v (.int .i64 (-1))))) (
      .op (.mkl (.v (.int .i64 0)) 1 [(0, (.c (.v (.int .i64 (-1)))))]) (
      .op (.app 1 8 (.x 6) (.sl (.x 12))) (
      .jump [(.x 13)]))))
      (.bind 1 (
       .op (.bin .gtr (.x 1) (.x 7)) (
       .ite (.x 12)
        (.jump [(.x 1)])
        (.jump [(.x 7)]))) (
      .op (.rep 1 (.v (.bool false)) (.c (.v (.int .i64 75))) (.c (.v (.int .i64 75)))) (
      .bind 1 (
       .loop [(.x 13), (.c (.v (.int .i64 0)))] (
        .op (.bin .lss (.x 15) (.x 7)) (
        .ite (.x 16)
         (.bind 1 (
          .op (.elem 1 (.x 4) (.x 15)) (
          .chk (.lt (.x 17) 0) (
          .op (.bin .geq (.cell 17 0) (.x 12)) (
          .ite (.x 18)
           (.chk (.idx (.x 6) (.x 15)) (
           .op (.get (.x 6) (.x 15) 0 none) (
           .chk (.idx (.x 14) (.x 19)) (
           .chk (.one (.c (.v (.bool true)))) (
           .op (.set (.x 14) (.x 19) 0 1 (.c (.v (.bool true)))) (
           .jump [(.x 20)]))))))
           (.jump [(.x 14)]))))) (
         .op (.bin .add (.x 15) (.c (.v (.int .i64 1)))) (
         .jump [(.x 17), (.x 18)])))
         (.esc (.jump [(.x 14)]))))) (
      .bind 1 (
       .loop [(.c (.v (.int .i64 0)))] (
        .bind 0 (
         .bind 1 (
          .op (.lenL (.sl (.x 14))) (
          .op (.bin .lss (.x 15) (.x 16)) (
          .ite (.x 17)
           (.chk (.idx (.x 14) (.x 15)) (
           .op (.get (.x 14) (.x 15) 0 none) (
           .jump [(.x 18)])))
           (.jump [(.c (.v (.bool false)))])))) (
         .ite (.x 16)
          (.jump [])
          (.esc (.esc (.jump [(.x 15)]))))) (
        .op (.bin .add (.x 15) (.c (.v (.int .i64 1)))) (
        .jump [(.x 16)])))) (
      .op (.lenL (.sl (.x 14))) (
      .op (.bin .eql (.x 15) (.x 16)) (
      .ite (.x 17)
       (.op (.mkl (.v (.int .i64 0)) 0 []) (
       .esc (.esc (.esc (.ret [(.sl (.x 18)), (.c (.v (.bool false)))])))))
       (.chk (.one (.x 15)) (
       .op (.mkl (.v (.int .i64 0)) 1 [(0, (.x 15))]) (
       .op (.app 1 8 (.x 6) (.sl (.x 18))) (
       .jump [(.x 19)]))))))))))))))) (
    .op (.bin .add (.x 7) (.c (.v (.int .i64 1)))) (
    .jump [(.x 10), (.x 11)])))
    (.esc (.jump [(.x 6)])))))) (
 .ret [(.sl (.x 6)), (.c (.v (.bool true)))])))))))))

theorem T.spec_Homes_l : leftF Try.prog CF Try.f58 = some (2, T.spec_Homes) := by kernel_rfl

theorem T.spec_Homes_con {args : List AV} {res : AV} (hl : args.length = 2) (hn : AV.norefs args = true) (hw : wpT Try.prog (fun _ _ _ => False) (fun a => a = res) T.spec_Homes args []) : PCon Try.prog F.spec_Homes args res :=
  con_auto Try.func58 T.spec_Homes_l hl hn hw

def T.impl_Homes : T :=
.chk (.cells (.x 0) 11) (
.bind 0 (
 .bind 1 (
  .op (.call F.impl_within [(.x 1), (.c (.v (.int .i64 0))), (.c (.v (.int .i64 9000)))] false) (
  .op (.un .not (.x 2)) (
  .ite (.x 3)
   (.jump [(.c (.v (.bool true)))])
   (.chk (.cells (.x 0) 11) (
   .op (.call F.impl_KSize [(.x 0)] false) (
   .op (.bin .gtr (.x 4) (.c (.v (.int .i64 9000)))) (
   .jump [(.x 5)]))))))) (
 .ite (.x 2)
  (.esc (.ret [(.c .nils), (.c (.v (.bool false)))]))
  (.jump []))) (
.chk (.cells (.x 0) 11) (
.op (.call F.impl_Uses [(.x 0), (.x 1)] false) (
.op (.lenL (.x 2)) (
.op (.rep 8 (.v (.int .i64 0)) (.x 3) (.x 3)) (
.bind 1 (
 .op (.lenL (.x 2)) (
 .loop [(.x 4), (.c (.v (.int .i64 0)))] (
  .op (.bin .lss (.x 7) (.x 5)) (
  .ite (.x 8)
   (.bind 1 (
    .chk (.idx (.x 6) (.x 7)) (
    .chk (.one (.c (.v (.int .i64 (-1))))) (
    .op (.set (.x 6) (.x 7) 0 1 (.c (.v (.int .i64 (-1))))) (
    .op (.elem 1 (.x 2) (.x 7)) (
    .chk (.lt (.x 10) 0) (
    .op (.bin .lss (.cell 10 0) (.c (.v (.int .i64 0)))) (
    .ite (.x 11)
     (.jump [(.x 9)])
     (.op (.rep 1 (.v (.bool false)) (.c (.v (.int .i64 75))) (.c (.v (.int .i64 75)))) (
     .bind 1 (
      .loop [(.x 12), (.c (.v (.int .i64 0)))] (
       .op (.bin .lss (.x 14) (.x 7)) (
       .ite (.x 15)
        (.bind 1 (
         .bind 1 (
          .chk (.idx (.x 9) (.x 14)) (
          .op (.get (.x 9) (.x 14) 0 none) (
          .op (.bin .geq (.x 16) (.c (.v (.int .i64 0)))) (
          .ite (.x 17)
           (.op (.elem 1 (.x 2) (.x 14)) (
           .chk (.lt (.x 18) 0) (
           .op (.pu .max [(.x 7), (.x 1)]) (
           .op (.bin .geq (.cell 18 0) (.x 19)) (
           .jump [(.x 20)])))))
           (.jump [(.c (.v (.bool false)))]))))) (
         .ite (.x 16)
          (.chk (.idx (.x 9) (.x 14)) (
          .op (.get (.x 9) (.x 14) 0 none) (
          .chk (.idx (.x 13) (.x 17)) (
          .chk (.one (.c (.v (.bool true)))) (
          .op (.set (.x 13) (.x 17) 0 1 (.c (.v (.bool true)))) (
          .jump [(.x 18)]))))))
          (.jump [(.x 13)]))) (
        .op (.bin .add (.x 14) (.c (.v (.int .i64 1)))) (
        .jump [(.x 16), (.x 17)])))
        (.esc (.jump [(.x 13)]))))) (
     .op (.call F.slices_Index__bool_bool [(.sl (.x 13)), (.c (.v (.bool false)))] true) (
     .chk (.idx (.x 9) (.x 7)) (
     .chk (.one (.x 14)) (
     .op (.set (.x 9) (.x 7) 0 1 (.x 14)) (
     .chk (.idx (.x 15) (.x 7)) (
     .op (.get (.x 15) (.x 7) 0 none) (
     .op (.bin .lss (.x 16) (.c (.v (.int .i64 0)))) (
     .ite (.x 17)
      (.esc (.esc (.esc (.ret [(.c .nils), (.c (.v (.bool false)))]))))
      (.jump [(.x 15)])))))))))))))))))) (
   .op (.bin .add (.x 7) (.c (.v (.int .i64 1)))) (
   .jump [(.x 9), (.x 10)])))
   (.esc (.jump [(.x 6)])))))) (
.ret [(.sl (.x 5)), (.c (.v (.bool true)))])))))))

theorem T.impl_Homes_l : leftF Try.prog CF Try.f59 = some (2, T.impl_Homes) := by kernel_rfl

theorem T.impl_Homes_con {args : List AV} {res : AV} (hl : args.length = 2) (hn : AV.norefs args = true) (hw : wpT Try.prog (fun _ _ _ => False) (fun a => a = res) T.impl_Homes args []) : PCon Try.prog F.impl_Homes args res :=
  con_auto Try.func59 T.impl_Homes_l hl hn hw

def T.spec_Unify : T :=
.op (.mkl (.agg [(.v (.int .i64 0)), (.v (.int .i64 0)), (.v (.string ⟨#[]⟩)), .nils]) 0 []) (
.bind 0 (
 .bind 1 (
  .op (.call F.spec_l1In [(.x 0), (.c (.v (.int .i64 0))), (.c (.v (.int .i64 300)))] false) (
  .op (.un .not (.x 4)) (
  .ite (.x 5)
   (.jump [(.c (.v (.bool true)))])
   (.op (.lenL (.x 1)) (
   .op (.lenL (.x 2)) (
   .op (.bin .neq (.x 6) (.x 7)) (
   .ite (.x 8)
    (.jump [(.c (.v (.bool true)))])
    (.op (.lenL (.x 1)) (
    .op (.bin .gtr (.x 9) (.c (.v (.int .i64 200)))) (
    .ite (.x 10)
     (.jump [(.c (.v (.bool true)))])
     (.op (.call F.spec_l4Right [(.x 1), (.x 0)] false) (
     .op (.un .not (.x 11)) (
     .ite (.x 12)
      (.jump [(.c (.v (.bool true)))])
      (.op (.call F.spec_l4Right [(.x 2), (.x 0)] false) (
      .op (.un .not (.x 13)) (
      .jump [(.x 14)])))))))))))))))) (
 .ite (.x 4)
  (.esc (.ret [(.sl (.x 3)), (.c (.v (.int .i64 1)))]))
  (.jump []))) (
.op (.call F.spec_l4Metas [(.x 0)] false) (
.bind 0 (
 .loop [(.c (.v (.int .i64 0)))] (
  .op (.lenL (.x 1)) (
  .op (.bin .lss (.x 5) (.x 6)) (
  .ite (.x 7)
   (.op (.elem 4 (.x 1) (.x 5)) (
   .chk (.cells (.x 8) 4) (
   .op (.call F.spec_l4Lay [(.x 4), (.x 8)] false) (
   .op (.elem 4 (.x 2) (.x 5)) (
   .chk (.cells (.x 10) 4) (
   .op (.call F.spec_l4Lay [(.x 4), (.x 10)] false) (
   .op (.call F.spec_l4Join [(.x 4), (.x 9), (.x 11)] false) (
   .op (.un .not (.x 12)) (
   .ite (.x 13)
    (.esc (.esc (.ret [(.sl (.x 3)), (.c (.v (.int .i64 2)))])))
    (.op (.bin .add (.x 5) (.c (.v (.int .i64 1)))) (
    .jump [(.x 14)])))))))))))
   (.esc (.jump [])))))) (
.chk (.isFn (.x 4)) (
.op (.fap 2 (.x 4)) (
.op (.ldp none (.x 5)) (
.op (.lenL (.x 6)) (
.op (.rep 8 (.v (.int .i64 0)) (.x 7) (.x 7)) (
.bind 0 (
 .loop [(.c (.v (.int .i64 0)))] (
  .chk (.isFn (.x 4)) (
  .op (.fap 2 (.x 4)) (
  .op (.ldp none (.x 10)) (
  .op (.lenL (.x 11)) (
  .op (.bin .lss (.x 9) (.x 12)) (
  .ite (.x 13)
   (.op (.call F.spec_l4Sizes [(.x 4), (.x 9), (.sl (.x 8)), (.c (.v (.int .i64 201)))] true) (
   .op (.un .not (.x 14)) (
   .ite (.x 15)
    (.esc (.esc (.ret [(.sl (.x 3)), (.c (.v (.int .i64 2)))])))
    (.op (.bin .add (.x 9) (.c (.v (.int .i64 1)))) (
    .jump [(.x 16)])))))
   (.esc (.jump []))))))))) (
.bind 0 (
 .loop [(.c (.v (.int .i64 0)))] (
  .op (.bin .lss (.x 9) (.x 0)) (
  .ite (.x 10)
   (.op (.call F.spec_l4Find [(.x 4), (.x 9)] false) (
   .chk (.idx (.x 8) (.x 11)) (
   .op (.get (.x 8) (.x 11) 0 none) (
   .op (.bin .gtr (.x 12) (.c (.v (.int .i64 200)))) (
   .ite (.x 13)
    (.esc (.esc (.ret [(.sl (.x 3)), (.c (.v (.int .i64 3)))])))
    (.op (.bin .add (.x 9) (.c (.v (.int .i64 1)))) (
    .jump [(.x 14)])))))))
   (.esc (.jump []))))) (
.bind 1 (
 .loop [(.x 3), (.c (.v (.int .i64 0)))] (
  .op (.bin .lss (.x 10) (.x 0)) (
  .ite (.x 11)
   (.op (.call F.spec_l4Read [(.x 4), (.x 10)] false) (
   .chk (.cells (.x 12) 4) (
   .op (.mkl (.agg [(.v (.int .i64 0)), (.v (.int .i64 0)), (.v (.string ⟨#[]⟩)), .nils]) 1 [(0, (.x 12))]) (
   .op (.app 4 56 (.x 9) (.sl (.x 13))) (
   .op (.bin .add (.x 10) (.c (.v (.int .i64 1)))) (
   .jump [(.x 14), (.x 15)]))))))
   (.esc (.jump [(.x 9)]))))) (
.ret [(.sl (.x 9)), (.c (.v (.int .i64 0)))]))))))))))))

theorem T.spec_Unify_l : leftF Try.prog CF Try.f60 = some (3, T.spec_Unify) := by kernel_rfl

theorem T.spec_Unify_con {args : List AV} {res : AV} (hl : args.length = 3) (hn : AV.norefs args = true) (hw : wpT Try.prog (fun _ _ _ => False) (fun a => a = res) T.spec_Unify args []) : PCon Try.prog F.spec_Unify args res :=
  con_auto Try.func60 T.spec_Unify_l hl hn hw

-- impl_Unify: no walk
def T.laws_heldTyS : T :=
.bind 1 (
 .loop [(.x 1), (.c (.v (.int .i64 0)))] (
  .op (.lenL (.x 0)) (
  .op (.bin .lss (.x 3) (.x 4)) (
  .ite (.x 5)
   (.op (.elem 4 (.x 0) (.x 3)) (
   .chk (.lt (.x 6) 0) (
   .op (.bin .neq (.cell 6 0) (.x 2)) (
   .ite (.x 7)
    (.esc (.esc (.ret [(.c (.v (.int .i64 (-1))))])))
    (.op (.bin .add (.x 2) (.c (.v (.int .i64 1)))) (
    .op (.elem 4 (.x 0) (.x 3)) (
    .chk (.lt (.x 9) 1) (
    .op (.bin .neq (.cell 9 1) (.x 8)) (
    .ite (.x 10)
     (.esc (.esc (.ret [(.c (.v (.int .i64 (-1))))])))
     (.op (.bin .add (.x 8) (.c (.v (.int .i64 1)))) (
     .op (.elem 4 (.x 0) (.x 3)) (
     .chk (.lt (.x 12) 2) (
     .op (.call F.laws_markText [(.x 11)] true) (
     .op (.bin .neq (.cell 12 2) (.x 13)) (
     .ite (.x 14)
      (.esc (.esc (.ret [(.c (.v (.int .i64 (-1))))])))
      (.op (.bin .add (.x 11) (.c (.v (.int .i64 1)))) (
      .op (.elem 4 (.x 0) (.x 3)) (
      .chk (.lt (.x 16) 3) (
      .op (.call F.laws_heldTyS [(.cell 16 3), (.x 15)] false) (
      .op (.bin .lss (.x 17) (.c (.v (.int .i64 0)))) (
      .ite (.x 18)
       (.esc (.esc (.ret [(.c (.v (.int .i64 (-1))))])))
       (.op (.bin .add (.x 3) (.c (.v (.int .i64 1)))) (
       .jump [(.x 17), (.x 19)])))))))))))))))))))))))
   (.esc (.jump [(.x 2)])))))) (
.ret [(.x 2)])

theorem T.laws_heldTyS_l : leftF Try.prog CF Try.f62 = some (2, T.laws_heldTyS) := by kernel_rfl

theorem T.laws_heldTyS_con {args : List AV} {res : AV} (hl : args.length = 2) (hn : AV.norefs args = true) (hw : wpT Try.prog (fun _ _ _ => False) (fun a => a = res) T.laws_heldTyS args []) : PCon Try.prog F.laws_heldTyS args res :=
  con_auto Try.func62 T.laws_heldTyS_l hl hn hw

def T.impl_turned : T :=
.op (.conv .u64 (.x 0)) (
.op (.bin .shl (.x 1) (.c (.v (.int .u64 1)))) (
.op (.bin .shr (.x 0) (.c (.v (.int .u64 63)))) (
.op (.conv .u64 (.x 3)) (
.op (.bin .xor (.x 2) (.x 4)) (
.ret [(.x 5)])))))

theorem T.impl_turned_l : leftF Try.prog CF Try.f63 = some (1, T.impl_turned) := by kernel_rfl

theorem T.impl_turned_con {args : List AV} {res : AV} (hl : args.length = 1) (hn : AV.norefs args = true) (hw : wpT Try.prog (fun _ _ _ => False) (fun a => a = res) T.impl_turned args []) : PCon Try.prog F.impl_turned args res :=
  con_auto Try.func63 T.impl_turned_l hl hn hw

def T.spec_l1New : T :=
.op (.lenL (.x 0)) (
.op (.bin .add (.c (.v (.int .i64 80080))) (.x 1)) (
.bind 1 (
 .loop [(.x 2), (.c (.v (.int .i64 0)))] (
  .bind 0 (
   .bind 1 (
    .op (.lenL (.x 0)) (
    .op (.bin .lss (.x 4) (.x 5)) (
    .ite (.x 6)
     (.op (.bin .lss (.x 4) (.c (.v (.int .i64 4000)))) (
     .jump [(.x 7)]))
     (.jump [(.c (.v (.bool false)))])))) (
   .ite (.x 5)
    (.jump [])
    (.esc (.esc (.jump [(.x 3)]))))) (
  .op (.bin .mul (.x 3) (.c (.v (.int .i64 137)))) (
  .op (.elem 1 (.x 0) (.x 4)) (
  .chk (.lt (.x 6) 0) (
  .op (.conv .i64 (.cell 6 0)) (
  .op (.bin .add (.x 5) (.x 7)) (
  .op (.bin .add (.x 8) (.c (.v (.int .i64 11)))) (
  .op (.bin .and (.x 9) (.c (.v (.int .i64 1073741823)))) (
  .op (.bin .add (.x 4) (.c (.v (.int .i64 1)))) (
  .jump [(.x 10), (.x 11)]))))))))))) (
.chk (.one (.x 0)) (
.chk (.one (.x 3)) (
.chk (.cells (.agg [(.x 0), (.c (.v (.int .i64 0))), (.x 3)]) 3) (
.ret [(.x 0), (.c (.v (.int .i64 0))), (.x 3)]))))))

theorem T.spec_l1New_l : leftS Try.prog CF G.spec_l1New Try.f64 = some T.spec_l1New := by kernel_rfl

theorem T.spec_l1New_scon {ins outs : List AV} (hl : ins.length = 1) (ho : outs.length = 3) (hn : AV.norefs ins = true) (hw : wpT Try.prog (fun _ _ _ => False) (fun a => a = packR outs) T.spec_l1New ins []) : SCon Try.prog F.spec_l1New G.spec_l1New ins outs :=
  scon_auto Try.func64 T.spec_l1New_l hl hn ho hw

def T.spec_l1Once : T :=
.op (.scall F.spec_l1Below G.spec_l1Below [(.x 0), (.x 1), (.x 2), (.x 3)]) (
.op (.bin .eql (.ext 4 0) (.c (.v (.int .i64 0)))) (
.ret [(.x 5), (.ext 4 1), (.ext 4 2), (.ext 4 3)]))

theorem T.spec_l1Once_l : leftS Try.prog CF G.spec_l1Once Try.f65 = some T.spec_l1Once := by kernel_rfl

theorem T.spec_l1Once_scon {ins outs : List AV} (hl : ins.length = 4) (ho : outs.length = 4) (hn : AV.norefs ins = true) (hw : wpT Try.prog (fun _ _ _ => False) (fun a => a = packR outs) T.spec_l1Once ins []) : SCon Try.prog F.spec_l1Once G.spec_l1Once ins outs :=
  scon_auto Try.func65 T.spec_l1Once_l hl hn ho hw

def T.spec_l1Odd : T :=
.chk (.one (.c (.v (.int .i64 (-1))))) (
.chk (.one (.c (.v (.int .i64 0)))) (
.chk (.one (.c (.v (.int .i64 1)))) (
.chk (.one (.c (.v (.int .i64 2)))) (
.chk (.one (.c (.v (.int .i64 255)))) (
.chk (.one (.c (.v (.int .i64 256)))) (
.chk (.one (.c (.v (.int .i64 65535)))) (
.chk (.one (.c (.v (.int .i64 2147483647)))) (
.chk (.one (.c (.v (.int .i64 2147483648)))) (
.chk (.one (.c (.v (.int .i64 4294967295)))) (
.chk (.one (.c (.v (.int .i64 4294967296)))) (
.chk (.one (.c (.v (.int .i64 (-2147483648))))) (
.chk (.one (.c (.v (.int .i64 9223372036854775807)))) (
.chk (.one (.c (.v (.int .i64 (-9223372036854775808))))) (
.op (.mkl (.v (.int .i64 0)) 14 [(0, (.c (.v (.int .i64 (-1))))), (1, (.c (.v (.int .i64 0)))), (2, (.c (.v (.int .i64 1)))), (3, (.c (.v (.int .i64 2)))), (4, (.c (.v (.int .i64 255)))), (5, (.c (.v (.int .i64 256)))), (6, (.c (.v (.int .i64 65535)))), (7, (.c (.v (.int .i64 2147483647)))), (8, (.c (.v (.int .i64 2147483648)))), (9, (.c (.v (.int .i64 4294967295)))), (10, (.c (.v (.int .i64 4294967296)))), (11, (.c (.v (.int .i64 (-2147483648))))), (12, (.c (.v (.int .i64 9223372036854775807)))), (13, (.c (.v (.int .i64 (-9223372036854775808)))))]) (
.op (.scall F.spec_l1Int G.spec_l1Int [(.x 0), (.x 1), (.x 2), (.sl (.x 3))]) (
.ret [(.ext 4 0), (.ext 4 1), (.ext 4 2), (.ext 4 3)]))))))))))))))))

theorem T.spec_l1Odd_l : leftS Try.prog CF G.spec_l1Odd Try.f66 = some T.spec_l1Odd := by kernel_rfl

theorem T.spec_l1Odd_scon {ins outs : List AV} (hl : ins.length = 3) (ho : outs.length = 4) (hn : AV.norefs ins = true) (hw : wpT Try.prog (fun _ _ _ => False) (fun a => a = packR outs) T.spec_l1Odd ins []) : SCon Try.prog F.spec_l1Odd G.spec_l1Odd ins outs :=
  scon_auto Try.func66 T.spec_l1Odd_l hl hn ho hw

def T.spec_l1Below : T :=
.op (.bin .leq (.x 3) (.c (.v (.int .i64 0)))) (
.ite (.x 4)
 (.ret [(.c (.v (.int .i64 0))), (.x 0), (.x 1), (.x 2)])
 (.op (.bin .leq (.x 3) (.c (.v (.int .i64 256)))) (
 .ite (.x 5)
  (.op (.scall F.spec_l1Byte G.spec_l1Byte [(.x 0), (.x 1), (.x 2)]) (
  .op (.bin .rem (.ext 6 0) (.x 3)) (
  .ret [(.x 7), (.ext 6 1), (.ext 6 2), (.ext 6 3)])))
  (.op (.scall F.spec_l1Byte G.spec_l1Byte [(.x 0), (.x 1), (.x 2)]) (
  .op (.scall F.spec_l1Byte G.spec_l1Byte [(.ext 6 1), (.ext 6 2), (.ext 6 3)]) (
  .op (.scall F.spec_l1Byte G.spec_l1Byte [(.ext 7 1), (.ext 7 2), (.ext 7 3)]) (
  .op (.bin .mul (.ext 6 0) (.c (.v (.int .i64 65536)))) (
  .op (.bin .mul (.ext 7 0) (.c (.v (.int .i64 256)))) (
  .op (.bin .add (.x 9) (.x 10)) (
  .op (.bin .add (.x 11) (.ext 8 0)) (
  .op (.bin .rem (.x 12) (.x 3)) (
  .ret [(.x 13), (.ext 8 1), (.ext 8 2), (.ext 8 3)]))))))))))))

theorem T.spec_l1Below_l : leftS Try.prog CF G.spec_l1Below Try.f67 = some T.spec_l1Below := by kernel_rfl

theorem T.spec_l1Below_scon {ins outs : List AV} (hl : ins.length = 4) (ho : outs.length = 4) (hn : AV.norefs ins = true) (hw : wpT Try.prog (fun _ _ _ => False) (fun a => a = packR outs) T.spec_l1Below ins []) : SCon Try.prog F.spec_l1Below G.spec_l1Below ins outs :=
  scon_auto Try.func67 T.spec_l1Below_l hl hn ho hw

def T.impl_within : T :=
.bind 1 (
 .op (.bin .geq (.x 0) (.x 1)) (
 .ite (.x 3)
  (.op (.bin .leq (.x 0) (.x 2)) (
  .jump [(.x 4)]))
  (.jump [(.c (.v (.bool false)))]))) (
.ret [(.x 3)])

theorem T.impl_within_l : leftF Try.prog CF Try.f68 = some (3, T.impl_within) := by kernel_rfl

theorem T.impl_within_con {args : List AV} {res : AV} (hl : args.length = 3) (hn : AV.norefs args = true) (hw : wpT Try.prog (fun _ _ _ => False) (fun a => a = res) T.impl_within args []) : PCon Try.prog F.impl_within args res :=
  con_auto Try.func68 T.impl_within_l hl hn hw

def T.spec_l1In : T :=
.bind 1 (
 .op (.bin .geq (.x 0) (.x 1)) (
 .ite (.x 3)
  (.op (.bin .leq (.x 0) (.x 2)) (
  .jump [(.x 4)]))
  (.jump [(.c (.v (.bool false)))]))) (
.ret [(.x 3)])

theorem T.spec_l1In_l : leftF Try.prog CF Try.f69 = some (3, T.spec_l1In) := by kernel_rfl

theorem T.spec_l1In_con {args : List AV} {res : AV} (hl : args.length = 3) (hn : AV.norefs args = true) (hw : wpT Try.prog (fun _ _ _ => False) (fun a => a = res) T.spec_l1In args []) : PCon Try.prog F.spec_l1In args res :=
  con_auto Try.func69 T.spec_l1In_l hl hn hw

def T.spec_l20Same : T :=
.op (.lenL (.x 0)) (
.op (.lenL (.x 1)) (
.op (.bin .neq (.x 2) (.x 3)) (
.ite (.x 4)
 (.ret [(.c (.v (.bool false)))])
 (.bind 0 (
  .loop [(.c (.v (.int .i64 0)))] (
   .op (.lenL (.x 0)) (
   .op (.bin .lss (.x 5) (.x 6)) (
   .ite (.x 7)
    (.op (.elem 1 (.x 0) (.x 5)) (
    .chk (.lt (.x 8) 0) (
    .op (.elem 1 (.x 1) (.x 5)) (
    .chk (.lt (.x 9) 0) (
    .op (.bin .neq (.cell 8 0) (.cell 9 0)) (
    .ite (.x 10)
     (.esc (.esc (.ret [(.c (.v (.bool false)))])))
     (.op (.bin .add (.x 5) (.c (.v (.int .i64 1)))) (
     .jump [(.x 11)]))))))))
    (.esc (.jump [])))))) (
 .ret [(.c (.v (.bool true)))])))))

theorem T.spec_l20Same_l : leftF Try.prog CF Try.f70 = some (2, T.spec_l20Same) := by kernel_rfl

theorem T.spec_l20Same_con {args : List AV} {res : AV} (hl : args.length = 2) (hn : AV.norefs args = true) (hw : wpT Try.prog (fun _ _ _ => False) (fun a => a = res) T.spec_l20Same args []) : PCon Try.prog F.spec_l20Same args res :=
  con_auto Try.func70 T.spec_l20Same_l hl hn hw

def T.laws_szInstrS : T :=
.op (.lenL (.x 0)) (
.op (.bin .sub (.x 1) (.x 2)) (
.op (.bin .lss (.x 3) (.c (.v (.int .i64 0)))) (
.ite (.x 4)
 (.ret [(.c (.v (.int .i64 (-1))))])
 (.bind 1 (
  .loop [(.x 3), (.c (.v (.int .i64 0)))] (
   .op (.lenL (.x 0)) (
   .op (.bin .lss (.x 6) (.x 7)) (
   .ite (.x 8)
    (.op (.elem 6 (.x 0) (.x 6)) (
    .chk (.cells (.x 9) 6) (
    .op (.call F.laws_szInstr [(.x 9), (.x 5)] false) (
    .op (.bin .lss (.x 10) (.c (.v (.int .i64 0)))) (
    .ite (.x 11)
     (.esc (.esc (.ret [(.c (.v (.int .i64 (-1))))])))
     (.op (.bin .add (.x 6) (.c (.v (.int .i64 1)))) (
     .jump [(.x 10), (.x 12)])))))))
    (.esc (.jump [(.x 5)])))))) (
 .ret [(.x 5)])))))

theorem T.laws_szInstrS_l : leftF Try.prog CF Try.f71 = some (2, T.laws_szInstrS) := by kernel_rfl

theorem T.laws_szInstrS_con {args : List AV} {res : AV} (hl : args.length = 2) (hn : AV.norefs args = true) (hw : wpT Try.prog (fun _ _ _ => False) (fun a => a = res) T.laws_szInstrS args []) : PCon Try.prog F.laws_szInstrS args res :=
  con_auto Try.func71 T.laws_szInstrS_l hl hn hw

def T.laws_szIntS : T :=
.op (.lenL (.x 0)) (
.op (.bin .sub (.x 1) (.x 2)) (
.op (.bin .lss (.x 3) (.c (.v (.int .i64 0)))) (
.ite (.x 4)
 (.ret [(.c (.v (.int .i64 (-1))))])
 (.ret [(.x 3)]))))

theorem T.laws_szIntS_l : leftF Try.prog CF Try.f72 = some (2, T.laws_szIntS) := by kernel_rfl

theorem T.laws_szIntS_con {args : List AV} {res : AV} (hl : args.length = 2) (hn : AV.norefs args = true) (hw : wpT Try.prog (fun _ _ _ => False) (fun a => a = res) T.laws_szIntS args []) : PCon Try.prog F.laws_szIntS args res :=
  con_auto Try.func72 T.laws_szIntS_l hl hn hw

def T.laws_toInstrS : T :=
.op (.lenL (.x 0)) (
.op (.rep 56 (.agg [(.v (.int .i64 0)), (.v (.int .i64 0)), (.v (.int .i64 0)), (.v (.int .i64 0)), (.v (.int .i64 0)), (.v (.string ⟨#[]⟩))]) (.x 1) (.x 1)) (
.bind 1 (
 .loop [(.x 2), (.c (.v (.int .i64 0)))] (
  .op (.lenL (.x 0)) (
  .op (.bin .lss (.x 4) (.x 5)) (
  .ite (.x 6)
   (.op (.elem 6 (.x 0) (.x 4)) (
   .chk (.cells (.x 7) 6) (
   .op (.call F.laws_toInstr [(.x 7)] false) (
   .chk (.idx (.x 3) (.x 4)) (
   .chk (.cells (.x 8) 6) (
   .op (.set (.x 3) (.x 4) 0 6 (.x 8)) (
   .op (.bin .add (.x 4) (.c (.v (.int .i64 1)))) (
   .jump [(.x 9), (.x 10)]))))))))
   (.esc (.jump [(.x 3)])))))) (
.ret [(.sl (.x 3))])))

theorem T.laws_toInstrS_l : leftF Try.prog CF Try.f73 = some (1, T.laws_toInstrS) := by kernel_rfl

theorem T.laws_toInstrS_con {args : List AV} {res : AV} (hl : args.length = 1) (hn : AV.norefs args = true) (hw : wpT Try.prog (fun _ _ _ => False) (fun a => a = res) T.laws_toInstrS args []) : PCon Try.prog F.laws_toInstrS args res :=
  con_auto Try.func73 T.laws_toInstrS_l hl hn hw

def T.laws_toIntS : T :=
.op (.lenL (.x 0)) (
.op (.rep 8 (.v (.int .i64 0)) (.x 1) (.x 1)) (
.bind 1 (
 .loop [(.x 2), (.c (.v (.int .i64 0)))] (
  .op (.lenL (.x 0)) (
  .op (.bin .lss (.x 4) (.x 5)) (
  .ite (.x 6)
   (.op (.elem 1 (.x 0) (.x 4)) (
   .chk (.lt (.x 7) 0) (
   .chk (.idx (.x 3) (.x 4)) (
   .chk (.one (.cell 7 0)) (
   .op (.set (.x 3) (.x 4) 0 1 (.cell 7 0)) (
   .op (.bin .add (.x 4) (.c (.v (.int .i64 1)))) (
   .jump [(.x 8), (.x 9)])))))))
   (.esc (.jump [(.x 3)])))))) (
.ret [(.sl (.x 3))])))

theorem T.laws_toIntS_l : leftF Try.prog CF Try.f74 = some (1, T.laws_toIntS) := by kernel_rfl

theorem T.laws_toIntS_con {args : List AV} {res : AV} (hl : args.length = 1) (hn : AV.norefs args = true) (hw : wpT Try.prog (fun _ _ _ => False) (fun a => a = res) T.laws_toIntS args []) : PCon Try.prog F.laws_toIntS args res :=
  con_auto Try.func74 T.laws_toIntS_l hl hn hw

def T.laws_eqInstrS : T :=
.op (.lenL (.x 0)) (
.op (.lenL (.x 1)) (
.op (.bin .neq (.x 2) (.x 3)) (
.ite (.x 4)
 (.ret [(.c (.v (.bool false)))])
 (.bind 0 (
  .loop [(.c (.v (.int .i64 0)))] (
   .op (.lenL (.x 0)) (
   .op (.bin .lss (.x 5) (.x 6)) (
   .ite (.x 7)
    (.op (.elem 6 (.x 0) (.x 5)) (
    .chk (.cells (.x 8) 6) (
    .op (.elem 6 (.x 1) (.x 5)) (
    .chk (.cells (.x 9) 6) (
    .op (.call F.laws_eqInstr [(.x 8), (.x 9)] true) (
    .op (.un .not (.x 10)) (
    .ite (.x 11)
     (.esc (.esc (.ret [(.c (.v (.bool false)))])))
     (.op (.bin .add (.x 5) (.c (.v (.int .i64 1)))) (
     .jump [(.x 12)])))))))))
    (.esc (.jump [])))))) (
 .ret [(.c (.v (.bool true)))])))))

theorem T.laws_eqInstrS_l : leftF Try.prog CF Try.f75 = some (2, T.laws_eqInstrS) := by kernel_rfl

theorem T.laws_eqInstrS_con {args : List AV} {res : AV} (hl : args.length = 2) (hn : AV.norefs args = true) (hw : wpT Try.prog (fun _ _ _ => False) (fun a => a = res) T.laws_eqInstrS args []) : PCon Try.prog F.laws_eqInstrS args res :=
  con_auto Try.func75 T.laws_eqInstrS_l hl hn hw

def T.impl_ExpOk : T :=
.chk (.cells (.x 0) 7) (
.chk (.cells (.x 0) 7) (
.op (.call F.impl_headOk [(.x 0)] false) (
.op (.un .not (.x 1)) (
.ite (.x 2)
 (.ret [(.c (.v (.bool false)))])
 (.bind 0 (
  .op (.lenL (.cell 0 5)) (
  .loop [(.c (.v (.int .i64 0)))] (
   .op (.bin .lss (.x 4) (.x 3)) (
   .ite (.x 5)
    (.op (.elem 7 (.cell 0 5) (.x 4)) (
    .chk (.cells (.x 6) 7) (
    .chk (.cells (.x 6) 7) (
    .chk (.cells (.x 6) 7) (
    .op (.call F.impl_ExpOk [(.x 6)] false) (
    .op (.un .not (.x 7)) (
    .ite (.x 8)
     (.esc (.esc (.ret [(.c (.v (.bool false)))])))
     (.op (.bin .add (.x 4) (.c (.v (.int .i64 1)))) (
     .jump [(.x 9)])))))))))
    (.esc (.jump [])))))) (
 .bind 0 (
  .op (.lenL (.cell 0 6)) (
  .loop [(.c (.v (.int .i64 0)))] (
   .op (.bin .lss (.x 4) (.x 3)) (
   .ite (.x 5)
    (.bind 12 (
     .op (.elem 12 (.cell 0 6) (.x 4)) (
     .chk (.cells (.x 6) 12) (
     .chk (.cells (.x 6) 12) (
     .bind 1 (
      .op (.call F.impl_patOk [(.agg [(.cell 6 0), (.cell 6 1), (.cell 6 2), (.cell 6 3), (.cell 6 4)])] false) (
      .op (.un .not (.x 7)) (
      .ite (.x 8)
       (.jump [(.c (.v (.bool true)))])
       (.op (.call F.impl_ExpOk [(.agg [(.cell 6 5), (.cell 6 6), (.cell 6 7), (.cell 6 8), (.cell 6 9), (.cell 6 10), (.cell 6 11)])] false) (
       .op (.un .not (.x 9)) (
       .jump [(.x 10)])))))) (
     .ite (.x 7)
      (.esc (.esc (.esc (.ret [(.c (.v (.bool false)))]))))
      (.jump [(.cell 6 0), (.cell 6 1), (.cell 6 2), (.cell 6 3), (.cell 6 4), (.cell 6 5), (.cell 6 6), (.cell 6 7), (.cell 6 8), (.cell 6 9), (.cell 6 10), (.cell 6 11)])))))) (
    .op (.bin .add (.x 4) (.c (.v (.int .i64 1)))) (
    .jump [(.x 18)])))
    (.esc (.jump [])))))) (
 .ret [(.c (.v (.bool true)))])))))))

theorem T.impl_ExpOk_l : leftF Try.prog CF Try.f76 = some (1, T.impl_ExpOk) := by kernel_rfl

theorem T.impl_ExpOk_con {args : List AV} {res : AV} (hl : args.length = 1) (hn : AV.norefs args = true) (hw : wpT Try.prog (fun _ _ _ => False) (fun a => a = res) T.impl_ExpOk args []) : PCon Try.prog F.impl_ExpOk args res :=
  con_auto Try.func76 T.impl_ExpOk_l hl hn hw

def T.impl_alpha : T :=
.chk (.cells (.x 0) 7) (
.chk (.cells (.x 1) 7) (
.bind 0 (
 .bind 1 (
  .op (.bin .neq (.cell 0 0) (.cell 1 0)) (
  .ite (.x 4)
   (.jump [(.c (.v (.bool true)))])
   (.op (.bin .neq (.cell 0 2) (.cell 1 2)) (
   .ite (.x 5)
    (.jump [(.c (.v (.bool true)))])
    (.op (.lenL (.cell 0 5)) (
    .op (.lenL (.cell 1 5)) (
    .op (.bin .neq (.x 6) (.x 7)) (
    .ite (.x 8)
     (.jump [(.c (.v (.bool true)))])
     (.op (.lenL (.cell 0 6)) (
     .op (.lenL (.cell 1 6)) (
     .op (.bin .neq (.x 9) (.x 10)) (
     .jump [(.x 11)])))))))))))) (
 .ite (.x 4)
  (.esc (.ret [(.c (.v (.bool false)))]))
  (.jump []))) (
.bind 0 (
 .op (.bin .eql (.cell 0 0) (.c (.v (.int .i64 5)))) (
 .ite (.x 4)
  (.op (.call F.impl_names_at [(.x 2), (.cell 0 1)] true) (
  .op (.call F.impl_names_at [(.x 3), (.cell 1 1)] true) (
  .bind 1 (
   .op (.bin .eql (.x 5) (.x 6)) (
   .ite (.x 7)
    (.op (.bin .geq (.x 5) (.c (.v (.int .i64 0)))) (
    .ite (.x 8)
     (.jump [(.c (.v (.bool true)))])
     (.op (.bin .eql (.cell 0 1) (.cell 1 1)) (
     .jump [(.x 9)]))))
    (.jump [(.c (.v (.bool false)))]))) (
  .esc (.ret [(.x 7)])))))
  (.bind 1 (
   .op (.bin .eql (.cell 0 0) (.c (.v (.int .i64 8)))) (
   .ite (.x 5)
    (.jump [(.x 5)])
    (.op (.bin .eql (.cell 0 0) (.c (.v (.int .i64 10)))) (
    .ite (.x 6)
     (.jump [(.x 6)])
     (.op (.bin .eql (.cell 0 0) (.c (.v (.int .i64 11)))) (
     .jump [(.x 7)])))))) (
  .ite (.x 5)
   (.jump [])
   (.bind 1 (
    .op (.bin .neq (.cell 0 1) (.cell 1 1)) (
    .ite (.x 6)
     (.jump [(.c (.v (.bool true)))])
     (.op (.bin .neq (.cell 0 3) (.cell 1 3)) (
     .jump [(.x 7)])))) (
   .ite (.x 6)
    (.esc (.ret [(.c (.v (.bool false)))]))
    (.jump []))))))) (
.bind 0 (
 .op (.lenL (.cell 0 5)) (
 .loop [(.c (.v (.int .i64 0)))] (
  .op (.bin .lss (.x 5) (.x 4)) (
  .ite (.x 6)
   (.op (.elem 7 (.cell 0 5) (.x 5)) (
   .chk (.cells (.x 7) 7) (
   .op (.elem 7 (.cell 1 5) (.x 5)) (
   .chk (.cells (.x 8) 7) (
   .chk (.cells (.x 0) 7) (
   .op (.call F.impl_bindsIn [(.x 0), (.x 5)] false) (
   .chk (.one (.x 2)) (
   .chk (.one (.x 9)) (
   .op (.mkl .nils 2 [(0, (.x 2)), (1, (.x 9))]) (
   .op (.call F.slices_Concat_impl_names_string [(.x 10)] false) (
   .chk (.cells (.x 1) 7) (
   .op (.call F.impl_bindsIn [(.x 1), (.x 5)] false) (
   .chk (.one (.x 3)) (
   .chk (.one (.x 12)) (
   .op (.mkl .nils 2 [(0, (.x 3)), (1, (.x 12))]) (
   .op (.call F.slices_Concat_impl_names_string [(.x 13)] false) (
   .op (.call F.impl_alpha [(.x 7), (.x 8), (.x 11), (.x 14)] true) (
   .op (.un .not (.x 15)) (
   .ite (.x 16)
    (.esc (.esc (.ret [(.c (.v (.bool false)))])))
    (.op (.bin .add (.x 5) (.c (.v (.int .i64 1)))) (
    .jump [(.x 17)])))))))))))))))))))))
   (.esc (.jump [])))))) (
.bind 0 (
 .op (.lenL (.cell 0 6)) (
 .loop [(.c (.v (.int .i64 0)))] (
  .op (.bin .lss (.x 5) (.x 4)) (
  .ite (.x 6)
   (.bind 24 (
    .op (.elem 12 (.cell 0 6) (.x 5)) (
    .chk (.cells (.x 7) 12) (
    .op (.elem 12 (.cell 1 6) (.x 5)) (
    .chk (.cells (.x 8) 12) (
    .chk (.cells (.x 7) 12) (
    .chk (.cells (.x 8) 12) (
    .bind 1 (
     .op (.call F.impl_alikePat [(.agg [(.cell 7 0), (.cell 7 1), (.cell 7 2), (.cell 7 3), (.cell 7 4)]), (.agg [(.cell 8 0), (.cell 8 1), (.cell 8 2), (.cell 8 3), (.cell 8 4)])] true) (
     .op (.un .not (.x 9)) (
     .ite (.x 10)
      (.jump [(.c (.v (.bool true)))])
      (.op (.call F.impl_patNames [(.agg [(.cell 7 0), (.cell 7 1), (.cell 7 2), (.cell 7 3), (.cell 7 4)])] false) (
      .chk (.one (.x 2)) (
      .chk (.one (.x 11)) (
      .op (.mkl .nils 2 [(0, (.x 2)), (1, (.x 11))]) (
      .op (.call F.slices_Concat_impl_names_string [(.x 12)] false) (
      .op (.call F.impl_patNames [(.agg [(.cell 8 0), (.cell 8 1), (.cell 8 2), (.cell 8 3), (.cell 8 4)])] false) (
      .chk (.one (.x 3)) (
      .chk (.one (.x 14)) (
      .op (.mkl .nils 2 [(0, (.x 3)), (1, (.x 14))]) (
      .op (.call F.slices_Concat_impl_names_string [(.x 15)] false) (
      .op (.call F.impl_alpha [(.agg [(.cell 7 5), (.cell 7 6), (.cell 7 7), (.cell 7 8), (.cell 7 9), (.cell 7 10), (.cell 7 11)]), (.agg [(.cell 8 5), (.cell 8 6), (.cell 8 7), (.cell 8 8), (.cell 8 9), (.cell 8 10), (.cell 8 11)]), (.x 13), (.x 16)] true) (
      .op (.un .not (.x 17)) (
      .jump [(.x 18)])))))))))))))))) (
    .ite (.x 9)
     (.esc (.esc (.esc (.ret [(.c (.v (.bool false)))]))))
     (.jump [(.cell 7 0), (.cell 7 1), (.cell 7 2), (.cell 7 3), (.cell 7 4), (.cell 7 5), (.cell 7 6), (.cell 7 7), (.cell 7 8), (.cell 7 9), (.cell 7 10), (.cell 7 11), (.cell 8 0), (.cell 8 1), (.cell 8 2), (.cell 8 3), (.cell 8 4), (.cell 8 5), (.cell 8 6), (.cell 8 7), (.cell 8 8), (.cell 8 9), (.cell 8 10), (.cell 8 11)]))))))))) (
   .op (.bin .add (.x 5) (.c (.v (.int .i64 1)))) (
   .jump [(.x 31)])))
   (.esc (.jump [])))))) (
.ret [(.c (.v (.bool true)))]))))))

theorem T.impl_alpha_l : leftF Try.prog CF Try.f77 = some (4, T.impl_alpha) := by kernel_rfl

theorem T.impl_alpha_con {args : List AV} {res : AV} (hl : args.length = 4) (hn : AV.norefs args = true) (hw : wpT Try.prog (fun _ _ _ => False) (fun a => a = res) T.impl_alpha args []) : PCon Try.prog F.impl_alpha args res :=
  con_auto Try.func77 T.impl_alpha_l hl hn hw

def T.spec_TyOk : T :=
.chk (.cells (.x 0) 4) (
.chk (.cells (.x 0) 4) (
.op (.call F.spec_l4Node [(.x 0)] false) (
.op (.un .not (.x 1)) (
.ite (.x 2)
 (.ret [(.c (.v (.bool false)))])
 (.bind 0 (
  .loop [(.c (.v (.int .i64 0)))] (
   .op (.lenL (.cell 0 3)) (
   .op (.bin .lss (.x 3) (.x 4)) (
   .ite (.x 5)
    (.op (.elem 4 (.cell 0 3) (.x 3)) (
    .chk (.cells (.x 6) 4) (
    .op (.call F.spec_TyOk [(.x 6)] false) (
    .op (.un .not (.x 7)) (
    .ite (.x 8)
     (.esc (.esc (.ret [(.c (.v (.bool false)))])))
     (.op (.bin .add (.x 3) (.c (.v (.int .i64 1)))) (
     .jump [(.x 9)])))))))
    (.esc (.jump [])))))) (
 .ret [(.c (.v (.bool true)))]))))))

theorem T.spec_TyOk_l : leftF Try.prog CF Try.f78 = some (1, T.spec_TyOk) := by kernel_rfl

theorem T.spec_TyOk_con {args : List AV} {res : AV} (hl : args.length = 1) (hn : AV.norefs args = true) (hw : wpT Try.prog (fun _ _ _ => False) (fun a => a = res) T.spec_TyOk args []) : PCon Try.prog F.spec_TyOk args res :=
  con_auto Try.func78 T.spec_TyOk_l hl hn hw

def T.spec_l4Free : T :=
.chk (.cells (.x 0) 4) (
.bind 1 (
 .bind 1 (
  .op (.bin .eql (.cell 0 0) (.x 1)) (
  .ite (.x 3)
   (.op (.call F.spec_l4Has [(.sl (.x 2)), (.cell 0 1)] true) (
   .op (.un .not (.x 4)) (
   .jump [(.x 5)])))
   (.jump [(.c (.v (.bool false)))]))) (
 .ite (.x 3)
  (.chk (.one (.cell 0 1)) (
  .op (.mkl (.v (.int .i64 0)) 1 [(0, (.cell 0 1))]) (
  .op (.app 1 8 (.x 2) (.sl (.x 4))) (
  .jump [(.x 5)]))))
  (.jump [(.x 2)]))) (
.bind 1 (
 .loop [(.x 3), (.c (.v (.int .i64 0)))] (
  .op (.lenL (.cell 0 3)) (
  .op (.bin .lss (.x 5) (.x 6)) (
  .ite (.x 7)
   (.op (.elem 4 (.cell 0 3) (.x 5)) (
   .chk (.cells (.x 8) 4) (
   .op (.scall F.spec_l4Free G.spec_l4Free [(.x 8), (.x 1), (.x 4)]) (
   .op (.bin .add (.x 5) (.c (.v (.int .i64 1)))) (
   .jump [(.ext 9 0), (.x 10)])))))
   (.esc (.jump [(.x 4)])))))) (
.ret [(.x 4)])))

theorem T.spec_l4Free_l : leftS Try.prog CF G.spec_l4Free Try.f79 = some T.spec_l4Free := by kernel_rfl

theorem T.spec_l4Free_scon {ins outs : List AV} (hl : ins.length = 3) (ho : outs.length = 1) (hn : AV.norefs ins = true) (hw : wpT Try.prog (fun _ _ _ => False) (fun a => a = packR outs) T.spec_l4Free ins []) : SCon Try.prog F.spec_l4Free G.spec_l4Free ins outs :=
  scon_auto Try.func79 T.spec_l4Free_l hl hn ho hw

def T.impl_isVarKind : T :=
.op (.call F.impl_within [(.x 0), (.c (.v (.int .i64 9))), (.c (.v (.int .i64 11)))] false) (
.ret [(.x 1)])

theorem T.impl_isVarKind_l : leftF Try.prog CF Try.f80 = some (1, T.impl_isVarKind) := by kernel_rfl

theorem T.impl_isVarKind_con {args : List AV} {res : AV} (hl : args.length = 1) (hn : AV.norefs args = true) (hw : wpT Try.prog (fun _ _ _ => False) (fun a => a = res) T.impl_isVarKind args []) : PCon Try.prog F.impl_isVarKind args res :=
  con_auto Try.func80 T.impl_isVarKind_l hl hn hw

def T.impl_TyOk : T :=
.chk (.cells (.x 0) 4) (
.bind 1 (
 .chk (.cells (.x 0) 4) (
 .op (.call F.impl_tyHeadOk [(.x 0)] false) (
 .ite (.x 1)
  (.op (.call F.slices_ContainsFunc__impl_Ty_impl_Ty [(.cell 0 3), (.c (.fn F.impl_TyOk_1 []))] false) (
  .op (.un .not (.x 2)) (
  .jump [(.x 3)])))
  (.jump [(.c (.v (.bool false)))])))) (
.ret [(.x 1)]))

theorem T.impl_TyOk_l : leftF Try.prog CF Try.f81 = some (1, T.impl_TyOk) := by kernel_rfl

theorem T.impl_TyOk_con {args : List AV} {res : AV} (hl : args.length = 1) (hn : AV.norefs args = true) (hw : wpT Try.prog (fun _ _ _ => False) (fun a => a = res) T.impl_TyOk args []) : PCon Try.prog F.impl_TyOk args res :=
  con_auto Try.func81 T.impl_TyOk_l hl hn hw

def T.impl_frees : T :=
.chk (.cells (.x 0) 4) (
.bind 1 (
 .op (.bin .eql (.cell 0 0) (.x 1)) (
 .ite (.x 2)
  (.chk (.one (.cell 0 1)) (
  .op (.mkl (.v (.int .i64 0)) 1 [(0, (.cell 0 1))]) (
  .op (.app 1 8 (.c (.sl [])) (.sl (.x 3))) (
  .jump [(.x 4)]))))
  (.jump [(.c (.sl []))]))) (
.bind 1 (
 .op (.lenL (.cell 0 3)) (
 .loop [(.x 2), (.c (.v (.int .i64 0)))] (
  .op (.bin .lss (.x 5) (.x 3)) (
  .ite (.x 6)
   (.bind 6 (
    .op (.elem 4 (.cell 0 3) (.x 5)) (
    .chk (.cells (.x 7) 4) (
    .chk (.cells (.x 7) 4) (
    .chk (.cells (.x 7) 4) (
    .op (.fcall true 3 1 F.impl_frees [(.x 7), (.x 1)]) (
    .op (.lenL (.sl (.x 8))) (
    .loop [(.x 4), (.c (.v (.int .i64 0)))] (
     .op (.bin .lss (.x 11) (.x 9)) (
     .ite (.x 12)
      (.bind 1 (
       .chk (.idx (.x 8) (.x 11)) (
       .op (.get (.x 8) (.x 11) 0 none) (
       .op (.call F.slices_Contains__int_int [(.sl (.x 10)), (.x 13)] true) (
       .op (.un .not (.x 14)) (
       .ite (.x 15)
        (.chk (.one (.x 13)) (
        .op (.mkl (.v (.int .i64 0)) 1 [(0, (.x 13))]) (
        .op (.app 1 8 (.x 10) (.sl (.x 16))) (
        .jump [(.x 17)]))))
        (.jump [(.x 10)])))))) (
      .op (.bin .add (.x 11) (.c (.v (.int .i64 1)))) (
      .jump [(.x 13), (.x 14)])))
      (.esc (.jump [(.x 10), (.cell 7 0), (.cell 7 1), (.cell 7 2), (.cell 7 3), (.x 8)]))))))))))) (
   .op (.bin .add (.x 5) (.c (.v (.int .i64 1)))) (
   .jump [(.x 7), (.x 13)])))
   (.esc (.jump [(.x 4)])))))) (
.ret [(.sl (.x 3))])))

theorem T.impl_frees_l : leftR Try.prog CF true 3 1 Try.f82 = some (2, T.impl_frees) := by kernel_rfl

theorem T.impl_frees_fcon {args xs : List AV} (hl : args.length = 2) (hn : AV.norefs args = true) (hw : wpT Try.prog (fun _ _ _ => False) (fun a => a = .sl xs) T.impl_frees args []) : FCon Try.prog F.impl_frees args true 3 1 xs :=
  fcon_auto Try.func82 T.impl_frees_l hl hn hw

def T.spec_l4Copy : T :=
.chk (.cells (.x 0) 4) (
.chk (.cells (.x 0) 4) (
.chk (.cells (.x 0) 4) (
.op (.mkl (.agg [(.v (.int .i64 0)), (.v (.int .i64 0)), (.v (.string ⟨#[]⟩)), .nils]) 0 []) (
.bind 1 (
 .loop [(.x 1), (.c (.v (.int .i64 0)))] (
  .op (.lenL (.cell 0 3)) (
  .op (.bin .lss (.x 3) (.x 4)) (
  .ite (.x 5)
   (.op (.elem 4 (.cell 0 3) (.x 3)) (
   .chk (.cells (.x 6) 4) (
   .op (.call F.spec_l4Copy [(.x 6)] false) (
   .chk (.cells (.x 7) 4) (
   .op (.mkl (.agg [(.v (.int .i64 0)), (.v (.int .i64 0)), (.v (.string ⟨#[]⟩)), .nils]) 1 [(0, (.x 7))]) (
   .op (.app 4 56 (.x 2) (.x 8)) (
   .op (.bin .add (.x 3) (.c (.v (.int .i64 1)))) (
   .jump [(.x 9), (.x 10)]))))))))
   (.esc (.jump [(.x 2)])))))) (
.chk (.one (.cell 0 0)) (
.chk (.one (.cell 0 1)) (
.chk (.one (.cell 0 2)) (
.ret [(.agg [(.cell 0 0), (.cell 0 1), (.cell 0 2), (.sl (.x 2))])]))))))))

theorem T.spec_l4Copy_l : leftF Try.prog CF Try.f83 = some (1, T.spec_l4Copy) := by kernel_rfl

theorem T.spec_l4Copy_con {args : List AV} {res : AV} (hl : args.length = 1) (hn : AV.norefs args = true) (hw : wpT Try.prog (fun _ _ _ => False) (fun a => a = res) T.spec_l4Copy args []) : PCon Try.prog F.spec_l4Copy args res :=
  con_auto Try.func83 T.spec_l4Copy_l hl hn hw

def T.spec_l4Put : T :=
.chk (.cells (.x 0) 4) (
.bind 0 (
 .bind 1 (
  .op (.bin .eql (.cell 0 0) (.x 1)) (
  .ite (.x 3)
   (.op (.lenL (.x 2)) (
   .op (.bin .lss (.cell 0 1) (.x 4)) (
   .jump [(.x 5)])))
   (.jump [(.c (.v (.bool false)))]))) (
 .ite (.x 3)
  (.op (.elem 4 (.x 2) (.cell 0 1)) (
  .chk (.cells (.x 4) 4) (
  .op (.call F.spec_l4Copy [(.x 4)] false) (
  .chk (.cells (.x 5) 4) (
  .esc (.ret [(.agg [(.cell 5 0), (.cell 5 1), (.cell 5 2), (.cell 5 3)])]))))))
  (.jump []))) (
.chk (.cells (.x 0) 4) (
.chk (.cells (.x 0) 4) (
.op (.mkl (.agg [(.v (.int .i64 0)), (.v (.int .i64 0)), (.v (.string ⟨#[]⟩)), .nils]) 0 []) (
.bind 1 (
 .loop [(.x 3), (.c (.v (.int .i64 0)))] (
  .op (.lenL (.cell 0 3)) (
  .op (.bin .lss (.x 5) (.x 6)) (
  .ite (.x 7)
   (.op (.elem 4 (.cell 0 3) (.x 5)) (
   .chk (.cells (.x 8) 4) (
   .op (.call F.spec_l4Put [(.x 8), (.x 1), (.x 2)] false) (
   .chk (.cells (.x 9) 4) (
   .op (.mkl (.agg [(.v (.int .i64 0)), (.v (.int .i64 0)), (.v (.string ⟨#[]⟩)), .nils]) 1 [(0, (.x 9))]) (
   .op (.app 4 56 (.x 4) (.x 10)) (
   .op (.bin .add (.x 5) (.c (.v (.int .i64 1)))) (
   .jump [(.x 11), (.x 12)]))))))))
   (.esc (.jump [(.x 4)])))))) (
.chk (.one (.cell 0 0)) (
.chk (.one (.cell 0 1)) (
.chk (.one (.cell 0 2)) (
.ret [(.agg [(.cell 0 0), (.cell 0 1), (.cell 0 2), (.sl (.x 4))])])))))))))

theorem T.spec_l4Put_l : leftF Try.prog CF Try.f84 = some (3, T.spec_l4Put) := by kernel_rfl

theorem T.spec_l4Put_con {args : List AV} {res : AV} (hl : args.length = 3) (hn : AV.norefs args = true) (hw : wpT Try.prog (fun _ _ _ => False) (fun a => a = res) T.spec_l4Put args []) : PCon Try.prog F.spec_l4Put args res :=
  con_auto Try.func84 T.spec_l4Put_l hl hn hw

def T.impl_copyTy : T :=
.chk (.cells (.x 0) 4) (
.chk (.one (.c .nils)) (
.bind 1 (
 .op (.lenL (.cell 0 3)) (
 .loop [(.c (.sl [])), (.c (.v (.int .i64 0)))] (
  .op (.bin .lss (.x 3) (.x 1)) (
  .ite (.x 4)
   (.op (.elem 4 (.cell 0 3) (.x 3)) (
   .chk (.cells (.x 5) 4) (
   .chk (.cells (.x 5) 4) (
   .chk (.cells (.x 5) 4) (
   .op (.call F.impl_copyTy [(.x 5)] false) (
   .chk (.cells (.x 6) 4) (
   .op (.mkl (.agg [(.v (.int .i64 0)), (.v (.int .i64 0)), (.v (.string ⟨#[]⟩)), .nils]) 1 [(0, (.x 6))]) (
   .op (.app 4 56 (.x 2) (.x 7)) (
   .op (.bin .add (.x 3) (.c (.v (.int .i64 1)))) (
   .jump [(.x 8), (.x 9)]))))))))))
   (.esc (.jump [(.x 2)])))))) (
.chk (.one (.cell 0 0)) (
.chk (.one (.cell 0 1)) (
.chk (.one (.cell 0 2)) (
.ret [(.agg [(.cell 0 0), (.cell 0 1), (.cell 0 2), (.sl (.x 1))])]))))))

theorem T.impl_copyTy_l : leftF Try.prog CF Try.f85 = some (1, T.impl_copyTy) := by kernel_rfl

theorem T.impl_copyTy_con {args : List AV} {res : AV} (hl : args.length = 1) (hn : AV.norefs args = true) (hw : wpT Try.prog (fun _ _ _ => False) (fun a => a = res) T.impl_copyTy args []) : PCon Try.prog F.impl_copyTy args res :=
  con_auto Try.func85 T.impl_copyTy_l hl hn hw

def T.impl_put : T :=
.chk (.cells (.x 0) 4) (
.bind 0 (
 .bind 1 (
  .op (.bin .eql (.cell 0 0) (.x 1)) (
  .ite (.x 3)
   (.op (.lenL (.x 2)) (
   .op (.bin .lss (.cell 0 1) (.x 4)) (
   .jump [(.x 5)])))
   (.jump [(.c (.v (.bool false)))]))) (
 .ite (.x 3)
  (.op (.elem 4 (.x 2) (.cell 0 1)) (
  .chk (.cells (.x 4) 4) (
  .op (.call F.impl_copyTy [(.x 4)] false) (
  .chk (.cells (.x 5) 4) (
  .esc (.ret [(.agg [(.cell 5 0), (.cell 5 1), (.cell 5 2), (.cell 5 3)])]))))))
  (.jump []))) (
.chk (.cells (.x 0) 4) (
.chk (.cells (.x 0) 4) (
.chk (.one (.c .nils)) (
.bind 1 (
 .op (.lenL (.cell 0 3)) (
 .loop [(.c (.sl [])), (.c (.v (.int .i64 0)))] (
  .op (.bin .lss (.x 5) (.x 3)) (
  .ite (.x 6)
   (.op (.elem 4 (.cell 0 3) (.x 5)) (
   .chk (.cells (.x 7) 4) (
   .chk (.cells (.x 7) 4) (
   .chk (.cells (.x 7) 4) (
   .op (.call F.impl_put [(.x 7), (.x 1), (.x 2)] false) (
   .chk (.cells (.x 8) 4) (
   .op (.mkl (.agg [(.v (.int .i64 0)), (.v (.int .i64 0)), (.v (.string ⟨#[]⟩)), .nils]) 1 [(0, (.x 8))]) (
   .op (.app 4 56 (.x 4) (.x 9)) (
   .op (.bin .add (.x 5) (.c (.v (.int .i64 1)))) (
   .jump [(.x 10), (.x 11)]))))))))))
   (.esc (.jump [(.x 4)])))))) (
.chk (.one (.cell 0 0)) (
.chk (.one (.cell 0 1)) (
.chk (.one (.cell 0 2)) (
.ret [(.agg [(.cell 0 0), (.cell 0 1), (.cell 0 2), (.sl (.x 3))])])))))))))

theorem T.impl_put_l : leftF Try.prog CF Try.f86 = some (3, T.impl_put) := by kernel_rfl

theorem T.impl_put_con {args : List AV} {res : AV} (hl : args.length = 3) (hn : AV.norefs args = true) (hw : wpT Try.prog (fun _ _ _ => False) (fun a => a = res) T.impl_put args []) : PCon Try.prog F.impl_put args res :=
  con_auto Try.func86 T.impl_put_l hl hn hw

def T.laws_markText : T :=
.op (.bin .leq (.x 0) (.c (.v (.int .i64 0)))) (
.ite (.x 1)
 (.ret [(.c (.v (.string ⟨#[109, 48]⟩)))])
 (.bind 1 (
  .loop [(.x 0), (.c (.v (.string ⟨#[]⟩)))] (
   .op (.bin .gtr (.x 2) (.c (.v (.int .i64 0)))) (
   .ite (.x 4)
    (.op (.bin .rem (.x 2) (.c (.v (.int .i64 10)))) (
    .op (.bin .add (.c (.v (.int .i64 48))) (.x 5)) (
    .op (.conv .u8 (.x 6)) (
    .chk (.one (.x 7)) (
    .op (.mkl (.v (.int .u8 0)) 1 [(0, (.x 7))]) (
    .op (.pu .b2s [(.sl (.x 8))]) (
    .op (.bin .add (.x 9) (.x 3)) (
    .op (.bin .quo (.x 2) (.c (.v (.int .i64 10)))) (
    .jump [(.x 11), (.x 10)])))))))))
    (.esc (.jump [(.x 3)]))))) (
 .op (.bin .add (.c (.v (.string ⟨#[109]⟩))) (.x 2)) (
 .ret [(.x 3)]))))

theorem T.laws_markText_l : leftF Try.prog CF Try.f87 = some (1, T.laws_markText) := by kernel_rfl

theorem T.laws_markText_con {args : List AV} {res : AV} (hl : args.length = 1) (hn : AV.norefs args = true) (hw : wpT Try.prog (fun _ _ _ => False) (fun a => a = res) T.laws_markText args []) : PCon Try.prog F.laws_markText args res :=
  con_auto Try.func87 T.laws_markText_l hl hn hw

def T.laws_szExpS : T :=
.op (.lenL (.x 0)) (
.op (.bin .sub (.x 1) (.x 2)) (
.op (.bin .lss (.x 3) (.c (.v (.int .i64 0)))) (
.ite (.x 4)
 (.ret [(.c (.v (.int .i64 (-1))))])
 (.bind 1 (
  .loop [(.x 3), (.c (.v (.int .i64 0)))] (
   .op (.lenL (.x 0)) (
   .op (.bin .lss (.x 6) (.x 7)) (
   .ite (.x 8)
    (.op (.elem 7 (.x 0) (.x 6)) (
    .chk (.cells (.x 9) 7) (
    .op (.call F.laws_szExp [(.x 9), (.x 5)] false) (
    .op (.bin .lss (.x 10) (.c (.v (.int .i64 0)))) (
    .ite (.x 11)
     (.esc (.esc (.ret [(.c (.v (.int .i64 (-1))))])))
     (.op (.bin .add (.x 6) (.c (.v (.int .i64 1)))) (
     .jump [(.x 10), (.x 12)])))))))
    (.esc (.jump [(.x 5)])))))) (
 .ret [(.x 5)])))))

theorem T.laws_szExpS_l : leftF Try.prog CF Try.f88 = some (2, T.laws_szExpS) := by kernel_rfl

theorem T.laws_szExpS_con {args : List AV} {res : AV} (hl : args.length = 2) (hn : AV.norefs args = true) (hw : wpT Try.prog (fun _ _ _ => False) (fun a => a = res) T.laws_szExpS args []) : PCon Try.prog F.laws_szExpS args res :=
  con_auto Try.func88 T.laws_szExpS_l hl hn hw

def T.laws_szArmS : T :=
.op (.lenL (.x 0)) (
.op (.bin .sub (.x 1) (.x 2)) (
.op (.bin .lss (.x 3) (.c (.v (.int .i64 0)))) (
.ite (.x 4)
 (.ret [(.c (.v (.int .i64 (-1))))])
 (.bind 1 (
  .loop [(.x 3), (.c (.v (.int .i64 0)))] (
   .op (.lenL (.x 0)) (
   .op (.bin .lss (.x 6) (.x 7)) (
   .ite (.x 8)
    (.op (.elem 12 (.x 0) (.x 6)) (
    .chk (.cells (.x 9) 12) (
    .op (.call F.laws_szArm [(.x 9), (.x 5)] false) (
    .op (.bin .lss (.x 10) (.c (.v (.int .i64 0)))) (
    .ite (.x 11)
     (.esc (.esc (.ret [(.c (.v (.int .i64 (-1))))])))
     (.op (.bin .add (.x 6) (.c (.v (.int .i64 1)))) (
     .jump [(.x 10), (.x 12)])))))))
    (.esc (.jump [(.x 5)])))))) (
 .ret [(.x 5)])))))

theorem T.laws_szArmS_l : leftF Try.prog CF Try.f89 = some (2, T.laws_szArmS) := by kernel_rfl

theorem T.laws_szArmS_con {args : List AV} {res : AV} (hl : args.length = 2) (hn : AV.norefs args = true) (hw : wpT Try.prog (fun _ _ _ => False) (fun a => a = res) T.laws_szArmS args []) : PCon Try.prog F.laws_szArmS args res :=
  con_auto Try.func89 T.laws_szArmS_l hl hn hw

def T.spec_ExpOk : T :=
.chk (.cells (.x 0) 7) (
.chk (.cells (.x 0) 7) (
.op (.call F.spec_l2Node [(.x 0)] false) (
.op (.un .not (.x 1)) (
.ite (.x 2)
 (.ret [(.c (.v (.bool false)))])
 (.bind 0 (
  .loop [(.c (.v (.int .i64 0)))] (
   .op (.lenL (.cell 0 5)) (
   .op (.bin .lss (.x 3) (.x 4)) (
   .ite (.x 5)
    (.op (.elem 7 (.cell 0 5) (.x 3)) (
    .chk (.cells (.x 6) 7) (
    .op (.call F.spec_ExpOk [(.x 6)] false) (
    .op (.un .not (.x 7)) (
    .ite (.x 8)
     (.esc (.esc (.ret [(.c (.v (.bool false)))])))
     (.op (.bin .add (.x 3) (.c (.v (.int .i64 1)))) (
     .jump [(.x 9)])))))))
    (.esc (.jump [])))))) (
 .bind 0 (
  .loop [(.c (.v (.int .i64 0)))] (
   .op (.lenL (.cell 0 6)) (
   .op (.bin .lss (.x 3) (.x 4)) (
   .ite (.x 5)
    (.bind 0 (
     .bind 1 (
      .op (.elem 12 (.cell 0 6) (.x 3)) (
      .op (.loadc 0 5 (.x 6)) (
      .op (.call F.spec_l2PatOk [(.x 7)] false) (
      .op (.un .not (.x 8)) (
      .ite (.x 9)
       (.jump [(.c (.v (.bool true)))])
       (.op (.elem 12 (.cell 0 6) (.x 3)) (
       .op (.loadc 5 7 (.x 10)) (
       .op (.call F.spec_ExpOk [(.x 11)] false) (
       .op (.un .not (.x 12)) (
       .jump [(.x 13)])))))))))) (
     .ite (.x 6)
      (.esc (.esc (.esc (.ret [(.c (.v (.bool false)))]))))
      (.jump []))) (
    .op (.bin .add (.x 3) (.c (.v (.int .i64 1)))) (
    .jump [(.x 6)])))
    (.esc (.jump [])))))) (
 .ret [(.c (.v (.bool true)))])))))))

theorem T.spec_ExpOk_l : leftF Try.prog CF Try.f90 = some (1, T.spec_ExpOk) := by kernel_rfl

theorem T.spec_ExpOk_con {args : List AV} {res : AV} (hl : args.length = 1) (hn : AV.norefs args = true) (hw : wpT Try.prog (fun _ _ _ => False) (fun a => a = res) T.spec_ExpOk args []) : PCon Try.prog F.spec_ExpOk args res :=
  con_auto Try.func90 T.spec_ExpOk_l hl hn hw

def T.spec_l19Same : T :=
.chk (.cells (.x 0) 7) (
.chk (.cells (.x 1) 7) (
.bind 0 (
 .bind 1 (
  .op (.bin .neq (.cell 0 0) (.cell 1 0)) (
  .ite (.x 4)
   (.jump [(.c (.v (.bool true)))])
   (.op (.bin .neq (.cell 0 2) (.cell 1 2)) (
   .ite (.x 5)
    (.jump [(.c (.v (.bool true)))])
    (.op (.lenL (.cell 0 5)) (
    .op (.lenL (.cell 1 5)) (
    .op (.bin .neq (.x 6) (.x 7)) (
    .ite (.x 8)
     (.jump [(.c (.v (.bool true)))])
     (.op (.lenL (.cell 0 6)) (
     .op (.lenL (.cell 1 6)) (
     .op (.bin .neq (.x 9) (.x 10)) (
     .jump [(.x 11)])))))))))))) (
 .ite (.x 4)
  (.esc (.ret [(.c (.v (.bool false)))]))
  (.jump []))) (
.bind 0 (
 .op (.bin .eql (.cell 0 0) (.c (.v (.int .i64 5)))) (
 .ite (.x 4)
  (.op (.call F.spec_l19Name [(.x 2), (.x 3), (.cell 0 1), (.cell 1 1)] false) (
  .esc (.ret [(.x 5)])))
  (.op (.bin .eql (.cell 0 0) (.c (.v (.int .i64 8)))) (
  .ite (.x 5)
   (.op (.elem 7 (.cell 0 5) (.c (.v (.int .i64 0)))) (
   .chk (.cells (.x 6) 7) (
   .op (.elem 7 (.cell 1 5) (.c (.v (.int .i64 0)))) (
   .chk (.cells (.x 7) 7) (
   .chk (.one (.cell 0 1)) (
   .op (.mkl (.v (.string ⟨#[]⟩)) 1 [(0, (.cell 0 1))]) (
   .op (.call F.spec_l5With [(.x 2), (.x 8)] false) (
   .chk (.one (.cell 1 1)) (
   .op (.mkl (.v (.string ⟨#[]⟩)) 1 [(0, (.cell 1 1))]) (
   .op (.call F.spec_l5With [(.x 3), (.x 10)] false) (
   .op (.call F.spec_l19Same [(.x 6), (.x 7), (.x 9), (.x 11)] true) (
   .esc (.ret [(.x 12)])))))))))))))
   (.op (.bin .eql (.cell 0 0) (.c (.v (.int .i64 10)))) (
   .ite (.x 6)
    (.bind 1 (
     .op (.elem 7 (.cell 0 5) (.c (.v (.int .i64 0)))) (
     .chk (.cells (.x 7) 7) (
     .op (.elem 7 (.cell 1 5) (.c (.v (.int .i64 0)))) (
     .chk (.cells (.x 8) 7) (
     .op (.call F.spec_l19Same [(.x 7), (.x 8), (.x 2), (.x 3)] true) (
     .ite (.x 9)
      (.op (.elem 7 (.cell 0 5) (.c (.v (.int .i64 1)))) (
      .chk (.cells (.x 10) 7) (
      .op (.elem 7 (.cell 1 5) (.c (.v (.int .i64 1)))) (
      .chk (.cells (.x 11) 7) (
      .chk (.one (.cell 0 1)) (
      .op (.mkl (.v (.string ⟨#[]⟩)) 1 [(0, (.cell 0 1))]) (
      .op (.call F.spec_l5With [(.x 2), (.x 12)] false) (
      .chk (.one (.cell 1 1)) (
      .op (.mkl (.v (.string ⟨#[]⟩)) 1 [(0, (.cell 1 1))]) (
      .op (.call F.spec_l5With [(.x 3), (.x 14)] false) (
      .op (.call F.spec_l19Same [(.x 10), (.x 11), (.x 13), (.x 15)] true) (
      .jump [(.x 16)]))))))))))))
      (.jump [(.c (.v (.bool false)))]))))))) (
    .esc (.ret [(.x 7)])))
    (.op (.bin .eql (.cell 0 0) (.c (.v (.int .i64 11)))) (
    .ite (.x 7)
     (.chk (.one (.cell 0 1)) (
     .op (.mkl (.v (.string ⟨#[]⟩)) 1 [(0, (.cell 0 1))]) (
     .op (.call F.spec_l5With [(.x 2), (.sl (.x 8))] false) (
     .chk (.one (.cell 1 1)) (
     .op (.mkl (.v (.string ⟨#[]⟩)) 1 [(0, (.cell 1 1))]) (
     .op (.call F.spec_l5With [(.x 3), (.sl (.x 10))] false) (
     .bind 1 (
      .op (.elem 7 (.cell 0 5) (.c (.v (.int .i64 0)))) (
      .chk (.cells (.x 12) 7) (
      .op (.elem 7 (.cell 1 5) (.c (.v (.int .i64 0)))) (
      .chk (.cells (.x 13) 7) (
      .chk (.one (.cell 0 3)) (
      .op (.mkl (.v (.string ⟨#[]⟩)) 1 [(0, (.cell 0 3))]) (
      .op (.call F.spec_l5With [(.x 9), (.x 14)] false) (
      .chk (.one (.cell 1 3)) (
      .op (.mkl (.v (.string ⟨#[]⟩)) 1 [(0, (.cell 1 3))]) (
      .op (.call F.spec_l5With [(.x 11), (.x 16)] false) (
      .op (.call F.spec_l19Same [(.x 12), (.x 13), (.x 15), (.x 17)] true) (
      .ite (.x 18)
       (.op (.elem 7 (.cell 0 5) (.c (.v (.int .i64 1)))) (
       .chk (.cells (.x 19) 7) (
       .op (.elem 7 (.cell 1 5) (.c (.v (.int .i64 1)))) (
       .chk (.cells (.x 20) 7) (
       .op (.call F.spec_l19Same [(.x 19), (.x 20), (.x 9), (.x 11)] true) (
       .jump [(.x 21)]))))))
       (.jump [(.c (.v (.bool false)))]))))))))))))) (
     .esc (.ret [(.x 12)])))))))))
     (.jump []))))))))) (
.bind 0 (
 .bind 1 (
  .op (.bin .neq (.cell 0 1) (.cell 1 1)) (
  .ite (.x 4)
   (.jump [(.c (.v (.bool true)))])
   (.op (.bin .neq (.cell 0 3) (.cell 1 3)) (
   .jump [(.x 5)])))) (
 .ite (.x 4)
  (.esc (.ret [(.c (.v (.bool false)))]))
  (.jump []))) (
.bind 0 (
 .loop [(.c (.v (.int .i64 0)))] (
  .op (.lenL (.cell 0 5)) (
  .op (.bin .lss (.x 4) (.x 5)) (
  .ite (.x 6)
   (.op (.elem 7 (.cell 0 5) (.x 4)) (
   .chk (.cells (.x 7) 7) (
   .op (.elem 7 (.cell 1 5) (.x 4)) (
   .chk (.cells (.x 8) 7) (
   .op (.call F.spec_l19Same [(.x 7), (.x 8), (.x 2), (.x 3)] true) (
   .op (.un .not (.x 9)) (
   .ite (.x 10)
    (.esc (.esc (.ret [(.c (.v (.bool false)))])))
    (.op (.bin .add (.x 4) (.c (.v (.int .i64 1)))) (
    .jump [(.x 11)])))))))))
   (.esc (.jump [])))))) (
.bind 0 (
 .loop [(.c (.v (.int .i64 0)))] (
  .op (.lenL (.cell 0 6)) (
  .op (.bin .lss (.x 4) (.x 5)) (
  .ite (.x 6)
   (.bind 0 (
    .op (.elem 12 (.cell 0 6) (.x 4)) (
    .op (.loadc 0 5 (.x 7)) (
    .op (.elem 12 (.cell 1 6) (.x 4)) (
    .op (.loadc 0 5 (.x 9)) (
    .op (.call F.spec_l19Pats [(.x 8), (.x 10), (.x 2), (.x 3)] false) (
    .chk (.tup (.x 11) 0) (
    .chk (.tup (.x 11) 1) (
    .chk (.tup (.x 11) 2) (
    .bind 1 (
     .op (.un .not (.ext 11 2)) (
     .ite (.x 12)
      (.jump [(.c (.v (.bool true)))])
      (.op (.elem 12 (.cell 0 6) (.x 4)) (
      .op (.loadc 5 7 (.x 13)) (
      .op (.elem 12 (.cell 1 6) (.x 4)) (
      .op (.loadc 5 7 (.x 15)) (
      .op (.call F.spec_l19Same [(.x 14), (.x 16), (.ext 11 0), (.ext 11 1)] true) (
      .op (.un .not (.x 17)) (
      .jump [(.x 18)]))))))))) (
    .ite (.x 12)
     (.esc (.esc (.esc (.ret [(.c (.v (.bool false)))]))))
     (.jump []))))))))))) (
   .op (.bin .add (.x 4) (.c (.v (.int .i64 1)))) (
   .jump [(.x 7)])))
   (.esc (.jump [])))))) (
.ret [(.c (.v (.bool true)))])))))))

theorem T.spec_l19Same_l : leftF Try.prog CF Try.f91 = some (4, T.spec_l19Same) := by kernel_rfl

theorem T.spec_l19Same_con {args : List AV} {res : AV} (hl : args.length = 4) (hn : AV.norefs args = true) (hw : wpT Try.prog (fun _ _ _ => False) (fun a => a = res) T.spec_l19Same args []) : PCon Try.prog F.spec_l19Same args res :=
  con_auto Try.func91 T.spec_l19Same_l hl hn hw

def T.laws_toExpS : T :=
.op (.lenL (.x 0)) (
.op (.rep 104 (.agg [(.v (.int .i64 0)), (.v (.string ⟨#[]⟩)), (.v (.int .i64 0)), (.v (.string ⟨#[]⟩)), (.v (.int .i64 0)), .nils, .nils]) (.x 1) (.x 1)) (
.bind 1 (
 .loop [(.x 2), (.c (.v (.int .i64 0)))] (
  .op (.lenL (.x 0)) (
  .op (.bin .lss (.x 4) (.x 5)) (
  .ite (.x 6)
   (.op (.elem 7 (.x 0) (.x 4)) (
   .chk (.cells (.x 7) 7) (
   .op (.call F.laws_toExp [(.x 7)] false) (
   .chk (.idx (.x 3) (.x 4)) (
   .chk (.cells (.x 8) 7) (
   .op (.set (.x 3) (.x 4) 0 7 (.x 8)) (
   .op (.bin .add (.x 4) (.c (.v (.int .i64 1)))) (
   .jump [(.x 9), (.x 10)]))))))))
   (.esc (.jump [(.x 3)])))))) (
.ret [(.sl (.x 3))])))

theorem T.laws_toExpS_l : leftF Try.prog CF Try.f92 = some (1, T.laws_toExpS) := by kernel_rfl

theorem T.laws_toExpS_con {args : List AV} {res : AV} (hl : args.length = 1) (hn : AV.norefs args = true) (hw : wpT Try.prog (fun _ _ _ => False) (fun a => a = res) T.laws_toExpS args []) : PCon Try.prog F.laws_toExpS args res :=
  con_auto Try.func92 T.laws_toExpS_l hl hn hw

def T.laws_toArmS : T :=
.op (.lenL (.x 0)) (
.op (.rep 168 (.agg [(.v (.int .i64 0)), (.v (.string ⟨#[]⟩)), (.v (.int .i64 0)), (.v (.int .i64 0)), .nils, (.v (.int .i64 0)), (.v (.string ⟨#[]⟩)), (.v (.int .i64 0)), (.v (.string ⟨#[]⟩)), (.v (.int .i64 0)), .nils, .nils]) (.x 1) (.x 1)) (
.bind 1 (
 .loop [(.x 2), (.c (.v (.int .i64 0)))] (
  .op (.lenL (.x 0)) (
  .op (.bin .lss (.x 4) (.x 5)) (
  .ite (.x 6)
   (.op (.elem 12 (.x 0) (.x 4)) (
   .chk (.cells (.x 7) 12) (
   .op (.call F.laws_toArm [(.x 7)] false) (
   .chk (.idx (.x 3) (.x 4)) (
   .chk (.cells (.x 8) 12) (
   .op (.set (.x 3) (.x 4) 0 12 (.x 8)) (
   .op (.bin .add (.x 4) (.c (.v (.int .i64 1)))) (
   .jump [(.x 9), (.x 10)]))))))))
   (.esc (.jump [(.x 3)])))))) (
.ret [(.sl (.x 3))])))

theorem T.laws_toArmS_l : leftF Try.prog CF Try.f93 = some (1, T.laws_toArmS) := by kernel_rfl

theorem T.laws_toArmS_con {args : List AV} {res : AV} (hl : args.length = 1) (hn : AV.norefs args = true) (hw : wpT Try.prog (fun _ _ _ => False) (fun a => a = res) T.laws_toArmS args []) : PCon Try.prog F.laws_toArmS args res :=
  con_auto Try.func93 T.laws_toArmS_l hl hn hw

def T.laws_eqExpS : T :=
.op (.lenL (.x 0)) (
.op (.lenL (.x 1)) (
.op (.bin .neq (.x 2) (.x 3)) (
.ite (.x 4)
 (.ret [(.c (.v (.bool false)))])
 (.bind 0 (
  .loop [(.c (.v (.int .i64 0)))] (
   .op (.lenL (.x 0)) (
   .op (.bin .lss (.x 5) (.x 6)) (
   .ite (.x 7)
    (.op (.elem 7 (.x 0) (.x 5)) (
    .chk (.cells (.x 8) 7) (
    .op (.elem 7 (.x 1) (.x 5)) (
    .chk (.cells (.x 9) 7) (
    .op (.call F.laws_eqExp [(.x 8), (.x 9)] true) (
    .op (.un .not (.x 10)) (
    .ite (.x 11)
     (.esc (.esc (.ret [(.c (.v (.bool false)))])))
     (.op (.bin .add (.x 5) (.c (.v (.int .i64 1)))) (
     .jump [(.x 12)])))))))))
    (.esc (.jump [])))))) (
 .ret [(.c (.v (.bool true)))])))))

theorem T.laws_eqExpS_l : leftF Try.prog CF Try.f94 = some (2, T.laws_eqExpS) := by kernel_rfl

theorem T.laws_eqExpS_con {args : List AV} {res : AV} (hl : args.length = 2) (hn : AV.norefs args = true) (hw : wpT Try.prog (fun _ _ _ => False) (fun a => a = res) T.laws_eqExpS args []) : PCon Try.prog F.laws_eqExpS args res :=
  con_auto Try.func94 T.laws_eqExpS_l hl hn hw

def T.laws_eqArmS : T :=
.op (.lenL (.x 0)) (
.op (.lenL (.x 1)) (
.op (.bin .neq (.x 2) (.x 3)) (
.ite (.x 4)
 (.ret [(.c (.v (.bool false)))])
 (.bind 0 (
  .loop [(.c (.v (.int .i64 0)))] (
   .op (.lenL (.x 0)) (
   .op (.bin .lss (.x 5) (.x 6)) (
   .ite (.x 7)
    (.op (.elem 12 (.x 0) (.x 5)) (
    .chk (.cells (.x 8) 12) (
    .op (.elem 12 (.x 1) (.x 5)) (
    .chk (.cells (.x 9) 12) (
    .op (.call F.laws_eqArm [(.x 8), (.x 9)] true) (
    .op (.un .not (.x 10)) (
    .ite (.x 11)
     (.esc (.esc (.ret [(.c (.v (.bool false)))])))
     (.op (.bin .add (.x 5) (.c (.v (.int .i64 1)))) (
     .jump [(.x 12)])))))))))
    (.esc (.jump [])))))) (
 .ret [(.c (.v (.bool true)))])))))

theorem T.laws_eqArmS_l : leftF Try.prog CF Try.f95 = some (2, T.laws_eqArmS) := by kernel_rfl

theorem T.laws_eqArmS_con {args : List AV} {res : AV} (hl : args.length = 2) (hn : AV.norefs args = true) (hw : wpT Try.prog (fun _ _ _ => False) (fun a => a = res) T.laws_eqArmS args []) : PCon Try.prog F.laws_eqArmS args res :=
  con_auto Try.func95 T.laws_eqArmS_l hl hn hw

def T.laws_szKValS : T :=
.op (.lenL (.x 0)) (
.op (.bin .sub (.x 1) (.x 2)) (
.op (.bin .lss (.x 3) (.c (.v (.int .i64 0)))) (
.ite (.x 4)
 (.ret [(.c (.v (.int .i64 (-1))))])
 (.bind 1 (
  .loop [(.x 3), (.c (.v (.int .i64 0)))] (
   .op (.lenL (.x 0)) (
   .op (.bin .lss (.x 6) (.x 7)) (
   .ite (.x 8)
    (.op (.elem 4 (.x 0) (.x 6)) (
    .chk (.cells (.x 9) 4) (
    .op (.call F.laws_szKVal [(.x 9), (.x 5)] false) (
    .op (.bin .lss (.x 10) (.c (.v (.int .i64 0)))) (
    .ite (.x 11)
     (.esc (.esc (.ret [(.c (.v (.int .i64 (-1))))])))
     (.op (.bin .add (.x 6) (.c (.v (.int .i64 1)))) (
     .jump [(.x 10), (.x 12)])))))))
    (.esc (.jump [(.x 5)])))))) (
 .ret [(.x 5)])))))

theorem T.laws_szKValS_l : leftF Try.prog CF Try.f96 = some (2, T.laws_szKValS) := by kernel_rfl

theorem T.laws_szKValS_con {args : List AV} {res : AV} (hl : args.length = 2) (hn : AV.norefs args = true) (hw : wpT Try.prog (fun _ _ _ => False) (fun a => a = res) T.laws_szKValS args []) : PCon Try.prog F.laws_szKValS args res :=
  con_auto Try.func96 T.laws_szKValS_l hl hn hw

def T.laws_szKTermS : T :=
.op (.lenL (.x 0)) (
.op (.bin .sub (.x 1) (.x 2)) (
.op (.bin .lss (.x 3) (.c (.v (.int .i64 0)))) (
.ite (.x 4)
 (.ret [(.c (.v (.int .i64 (-1))))])
 (.bind 1 (
  .loop [(.x 3), (.c (.v (.int .i64 0)))] (
   .op (.lenL (.x 0)) (
   .op (.bin .lss (.x 6) (.x 7)) (
   .ite (.x 8)
    (.op (.elem 11 (.x 0) (.x 6)) (
    .chk (.cells (.x 9) 11) (
    .op (.call F.laws_szKTerm [(.x 9), (.x 5)] false) (
    .op (.bin .lss (.x 10) (.c (.v (.int .i64 0)))) (
    .ite (.x 11)
     (.esc (.esc (.ret [(.c (.v (.int .i64 (-1))))])))
     (.op (.bin .add (.x 6) (.c (.v (.int .i64 1)))) (
     .jump [(.x 10), (.x 12)])))))))
    (.esc (.jump [(.x 5)])))))) (
 .ret [(.x 5)])))))

theorem T.laws_szKTermS_l : leftF Try.prog CF Try.f97 = some (2, T.laws_szKTermS) := by kernel_rfl

theorem T.laws_szKTermS_con {args : List AV} {res : AV} (hl : args.length = 2) (hn : AV.norefs args = true) (hw : wpT Try.prog (fun _ _ _ => False) (fun a => a = res) T.laws_szKTermS args []) : PCon Try.prog F.laws_szKTermS args res :=
  con_auto Try.func97 T.laws_szKTermS_l hl hn hw

def T.spec_l13Fine : T :=
.chk (.cells (.x 0) 11) (
.bind 1 (
 .op (.call F.spec_l1In [(.x 1), (.c (.v (.int .i64 0))), (.c (.v (.int .i64 9000)))] false) (
 .ite (.x 2)
  (.chk (.cells (.x 0) 11) (
  .op (.call F.spec_KSize [(.x 0)] false) (
  .op (.bin .leq (.x 3) (.c (.v (.int .i64 9000)))) (
  .jump [(.x 4)]))))
  (.jump [(.c (.v (.bool false)))]))) (
.ret [(.x 2)]))

theorem T.spec_l13Fine_l : leftF Try.prog CF Try.f98 = some (2, T.spec_l13Fine) := by kernel_rfl

theorem T.spec_l13Fine_con {args : List AV} {res : AV} (hl : args.length = 2) (hn : AV.norefs args = true) (hw : wpT Try.prog (fun _ _ _ => False) (fun a => a = res) T.spec_l13Fine args []) : PCon Try.prog F.spec_l13Fine args res :=
  con_auto Try.func98 T.spec_l13Fine_l hl hn hw

def T.spec_l13Bound : T :=
.chk (.cells (.x 0) 11) (
.bind 1 (
 .chk (.cells (.x 0) 11) (
 .op (.call F.spec_l13Binds [(.x 0)] false) (
 .ite (.x 2)
  (.op (.bin .add (.x 1) (.c (.v (.int .i64 1)))) (
  .jump [(.x 3)]))
  (.jump [(.c (.v (.int .i64 0)))])))) (
.bind 1 (
 .loop [(.x 2), (.c (.v (.int .i64 0)))] (
  .op (.lenL (.cell 0 10)) (
  .op (.bin .lss (.x 4) (.x 5)) (
  .ite (.x 6)
   (.bind 1 (
    .op (.elem 11 (.cell 0 10) (.x 4)) (
    .chk (.cells (.x 7) 11) (
    .chk (.cells (.x 0) 11) (
    .op (.call F.spec_l13Kid [(.x 0), (.x 4), (.x 1)] true) (
    .op (.call F.spec_l13Bound [(.x 7), (.x 8)] true) (
    .op (.bin .gtr (.x 9) (.x 3)) (
    .ite (.x 10)
     (.jump [(.x 9)])
     (.jump [(.x 3)])))))))) (
   .op (.bin .add (.x 4) (.c (.v (.int .i64 1)))) (
   .jump [(.x 7), (.x 8)])))
   (.esc (.jump [(.x 3)])))))) (
.ret [(.x 3)])))

theorem T.spec_l13Bound_l : leftF Try.prog CF Try.f99 = some (2, T.spec_l13Bound) := by kernel_rfl

theorem T.spec_l13Bound_con {args : List AV} {res : AV} (hl : args.length = 2) (hn : AV.norefs args = true) (hw : wpT Try.prog (fun _ _ _ => False) (fun a => a = res) T.spec_l13Bound args []) : PCon Try.prog F.spec_l13Bound args res :=
  con_auto Try.func99 T.spec_l13Bound_l hl hn hw

def T.spec_l13Uses : T :=
.chk (.cells (.x 0) 11) (
.bind 1 (
 .op (.bin .gtr (.x 2) (.x 1)) (
 .ite (.x 4)
  (.jump [(.x 2)])
  (.jump [(.x 1)]))) (
.bind 1 (
 .loop [(.x 3), (.c (.v (.int .i64 0)))] (
  .op (.lenL (.cell 0 9)) (
  .op (.bin .lss (.x 6) (.x 7)) (
  .ite (.x 8)
   (.bind 5 (
    .op (.elem 4 (.cell 0 9) (.x 6)) (
    .chk (.cells (.x 9) 4) (
    .chk (.cells (.x 9) 4) (
    .bind 1 (
     .op (.bin .eql (.cell 9 0) (.c (.v (.int .i64 1)))) (
     .ite (.x 10)
      (.op (.lenL (.sl (.x 5))) (
      .op (.bin .sub (.x 11) (.c (.v (.int .i64 1)))) (
      .op (.call F.spec_l1In [(.cell 9 1), (.c (.v (.int .i64 0))), (.x 12)] false) (
      .ite (.x 13)
       (.chk (.idx (.x 5) (.cell 9 1)) (
       .op (.get (.x 5) (.cell 9 1) 0 none) (
       .op (.bin .lss (.x 14) (.x 4)) (
       .jump [(.x 15)]))))
       (.jump [(.c (.v (.bool false)))])))))
      (.jump [(.c (.v (.bool false)))]))) (
    .ite (.x 10)
     (.chk (.idx (.x 5) (.cell 9 1)) (
     .chk (.one (.x 4)) (
     .op (.set (.x 5) (.cell 9 1) 0 1 (.x 4)) (
     .jump [(.x 11), (.cell 9 0), (.cell 9 1), (.cell 9 2), (.cell 9 3)]))))
     (.jump [(.x 5), (.cell 9 0), (.cell 9 1), (.cell 9 2), (.cell 9 3)])))))) (
   .op (.bin .add (.x 6) (.c (.v (.int .i64 1)))) (
   .jump [(.x 9), (.x 14)])))
   (.esc (.jump [(.x 5)])))))) (
.loop [(.x 5), (.c (.v (.int .i64 0)))] (
 .op (.lenL (.cell 0 10)) (
 .op (.bin .lss (.x 7) (.x 8)) (
 .ite (.x 9)
  (.bind 1 (
   .bind 1 (
    .bind 1 (
     .op (.bin .eql (.cell 0 0) (.c (.v (.int .i64 9)))) (
     .ite (.x 10)
      (.op (.bin .eql (.x 7) (.c (.v (.int .i64 1)))) (
      .jump [(.x 11)]))
      (.jump [(.c (.v (.bool false)))]))) (
    .ite (.x 10)
     (.op (.elem 11 (.cell 0 10) (.c (.v (.int .i64 0)))) (
     .chk (.cells (.x 11) 11) (
     .op (.call F.spec_l13Most [(.x 11), (.x 1)] false) (
     .op (.bin .gtr (.x 12) (.x 2)) (
     .ite (.x 13)
      (.jump [(.x 12)])
      (.jump [(.x 2)]))))))
     (.jump [(.x 2)]))) (
   .op (.elem 11 (.cell 0 10) (.x 7)) (
   .chk (.cells (.x 11) 11) (
   .chk (.cells (.x 0) 11) (
   .op (.call F.spec_l13Kid [(.x 0), (.x 7), (.x 1)] true) (
   .op (.scall F.spec_l13Uses G.spec_l13Uses [(.x 11), (.x 12), (.x 10), (.x 6)]) (
   .chk (.eql (.x 6) (.ext 13 0)) (
   .jump [(.ext 13 0)])))))))) (
  .op (.bin .add (.x 7) (.c (.v (.int .i64 1)))) (
  .jump [(.x 10), (.x 11)])))
  (.esc (.ret [(.x 6)]))))))))

theorem T.spec_l13Uses_l : leftS Try.prog CF G.spec_l13Uses Try.f100 = some T.spec_l13Uses := by kernel_rfl

theorem T.spec_l13Uses_scon {ins outs : List AV} (hl : ins.length = 4) (ho : outs.length = 1) (hn : AV.norefs ins = true) (hw : wpT Try.prog (fun _ _ _ => False) (fun a => a = packR outs) T.spec_l13Uses ins []) : SCon Try.prog F.spec_l13Uses G.spec_l13Uses ins outs :=
  scon_auto Try.func100 T.spec_l13Uses_l hl hn ho hw

def T.laws_toKValS : T :=
.op (.lenL (.x 0)) (
.op (.rep 40 (.agg [(.v (.int .i64 0)), (.v (.int .i64 0)), (.v (.int .i64 0)), (.v (.string ⟨#[]⟩))]) (.x 1) (.x 1)) (
.bind 1 (
 .loop [(.x 2), (.c (.v (.int .i64 0)))] (
  .op (.lenL (.x 0)) (
  .op (.bin .lss (.x 4) (.x 5)) (
  .ite (.x 6)
   (.op (.elem 4 (.x 0) (.x 4)) (
   .chk (.cells (.x 7) 4) (
   .op (.call F.laws_toKVal [(.x 7)] false) (
   .chk (.idx (.x 3) (.x 4)) (
   .chk (.cells (.x 8) 4) (
   .op (.set (.x 3) (.x 4) 0 4 (.x 8)) (
   .op (.bin .add (.x 4) (.c (.v (.int .i64 1)))) (
   .jump [(.x 9), (.x 10)]))))))))
   (.esc (.jump [(.x 3)])))))) (
.ret [(.sl (.x 3))])))

theorem T.laws_toKValS_l : leftF Try.prog CF Try.f101 = some (1, T.laws_toKValS) := by kernel_rfl

theorem T.laws_toKValS_con {args : List AV} {res : AV} (hl : args.length = 1) (hn : AV.norefs args = true) (hw : wpT Try.prog (fun _ _ _ => False) (fun a => a = res) T.laws_toKValS args []) : PCon Try.prog F.laws_toKValS args res :=
  con_auto Try.func101 T.laws_toKValS_l hl hn hw

def T.laws_toKTermS : T :=
.op (.lenL (.x 0)) (
.op (.rep 168 (.agg [(.v (.int .i64 0)), (.v (.string ⟨#[]⟩)), (.v (.int .i64 0)), (.v (.int .i64 0)), (.v (.int .i64 0)), (.v (.int .i64 0)), (.v (.string ⟨#[]⟩)), .nils, .nils, .nils, .nils]) (.x 1) (.x 1)) (
.bind 1 (
 .loop [(.x 2), (.c (.v (.int .i64 0)))] (
  .op (.lenL (.x 0)) (
  .op (.bin .lss (.x 4) (.x 5)) (
  .ite (.x 6)
   (.op (.elem 11 (.x 0) (.x 4)) (
   .chk (.cells (.x 7) 11) (
   .op (.call F.laws_toKTerm [(.x 7)] false) (
   .chk (.idx (.x 3) (.x 4)) (
   .chk (.cells (.x 8) 11) (
   .op (.set (.x 3) (.x 4) 0 11 (.x 8)) (
   .op (.bin .add (.x 4) (.c (.v (.int .i64 1)))) (
   .jump [(.x 9), (.x 10)]))))))))
   (.esc (.jump [(.x 3)])))))) (
.ret [(.sl (.x 3))])))

theorem T.laws_toKTermS_l : leftF Try.prog CF Try.f102 = some (1, T.laws_toKTermS) := by kernel_rfl

theorem T.laws_toKTermS_con {args : List AV} {res : AV} (hl : args.length = 1) (hn : AV.norefs args = true) (hw : wpT Try.prog (fun _ _ _ => False) (fun a => a = res) T.laws_toKTermS args []) : PCon Try.prog F.laws_toKTermS args res :=
  con_auto Try.func102 T.laws_toKTermS_l hl hn hw

def T.impl_KSize : T :=
.chk (.cells (.x 0) 11) (
.bind 1 (
 .op (.lenL (.cell 0 10)) (
 .loop [(.c (.v (.int .i64 1))), (.c (.v (.int .i64 0)))] (
  .op (.bin .lss (.x 3) (.x 1)) (
  .ite (.x 4)
   (.op (.elem 11 (.cell 0 10) (.x 3)) (
   .chk (.cells (.x 5) 11) (
   .chk (.cells (.x 5) 11) (
   .chk (.cells (.x 5) 11) (
   .op (.call F.impl_KSize [(.x 5)] false) (
   .op (.bin .add (.x 2) (.x 6)) (
   .op (.bin .add (.x 3) (.c (.v (.int .i64 1)))) (
   .jump [(.x 7), (.x 8)]))))))))
   (.esc (.jump [(.x 2)])))))) (
.ret [(.x 1)]))

theorem T.impl_KSize_l : leftF Try.prog CF Try.f103 = some (1, T.impl_KSize) := by kernel_rfl

theorem T.impl_KSize_con {args : List AV} {res : AV} (hl : args.length = 1) (hn : AV.norefs args = true) (hw : wpT Try.prog (fun _ _ _ => False) (fun a => a = res) T.impl_KSize args []) : PCon Try.prog F.impl_KSize args res :=
  con_auto Try.func103 T.impl_KSize_l hl hn hw

def T.impl_greatestBound : T :=
.chk (.cells (.x 0) 11) (
.bind 1 (
 .chk (.cells (.x 0) 11) (
 .op (.call F.impl_binding [(.x 0)] false) (
 .ite (.x 2)
  (.op (.bin .add (.x 1) (.c (.v (.int .i64 1)))) (
  .jump [(.x 3)]))
  (.jump [(.x 1)])))) (
.bind 1 (
 .op (.lenL (.cell 0 10)) (
 .loop [(.x 2), (.c (.v (.int .i64 0)))] (
  .op (.bin .lss (.x 5) (.x 3)) (
  .ite (.x 6)
   (.op (.elem 11 (.cell 0 10) (.x 5)) (
   .chk (.cells (.x 7) 11) (
   .chk (.cells (.x 7) 11) (
   .chk (.cells (.x 7) 11) (
   .chk (.cells (.x 0) 11) (
   .op (.call F.impl_homeScope [(.x 0), (.x 5), (.x 1)] true) (
   .op (.call F.impl_greatestBound [(.x 7), (.x 8)] true) (
   .op (.pu .max [(.x 4), (.x 9)]) (
   .op (.bin .add (.x 5) (.c (.v (.int .i64 1)))) (
   .jump [(.x 10), (.x 11)]))))))))))
   (.esc (.jump [(.x 4)])))))) (
.ret [(.x 3)])))

theorem T.impl_greatestBound_l : leftF Try.prog CF Try.f104 = some (2, T.impl_greatestBound) := by kernel_rfl

theorem T.impl_greatestBound_con {args : List AV} {res : AV} (hl : args.length = 2) (hn : AV.norefs args = true) (hw : wpT Try.prog (fun _ _ _ => False) (fun a => a = res) T.impl_greatestBound args []) : PCon Try.prog F.impl_greatestBound args res :=
  con_auto Try.func104 T.impl_greatestBound_l hl hn hw

def T.impl_eachAt : T :=
.chk (.cells (.x 0) 11) (
.bind 0 (
 .op (.lenL (.cell 0 9)) (
 .loop [(.c (.v (.int .i64 0)))] (
  .op (.bin .lss (.x 5) (.x 4)) (
  .ite (.x 6)
   (.bind 4 (
    .op (.elem 4 (.cell 0 9) (.x 5)) (
    .chk (.cells (.x 7) 4) (
    .chk (.cells (.x 7) 4) (
    .op (.bin .eql (.cell 7 0) (.c (.v (.int .i64 1)))) (
    .ite (.x 8)
     (.op (.pu .max [(.x 1), (.x 2)]) (
     .op (.callv (.x 3) [(.cell 7 1), (.x 9)] false) (
     .jump [(.cell 7 0), (.cell 7 1), (.cell 7 2), (.cell 7 3)])))
     (.jump [(.cell 7 0), (.cell 7 1), (.cell 7 2), (.cell 7 3)])))))) (
   .op (.bin .add (.x 5) (.c (.v (.int .i64 1)))) (
   .jump [(.x 11)])))
   (.esc (.jump [])))))) (
.op (.lenL (.cell 0 10)) (
.loop [(.c (.v (.int .i64 0)))] (
 .op (.bin .lss (.x 5) (.x 4)) (
 .ite (.x 6)
  (.bind 11 (
   .op (.elem 11 (.cell 0 10) (.x 5)) (
   .chk (.cells (.x 7) 11) (
   .chk (.cells (.x 7) 11) (
   .bind 1 (
    .bind 1 (
     .op (.bin .eql (.cell 0 0) (.c (.v (.int .i64 9)))) (
     .ite (.x 8)
      (.op (.bin .eql (.x 5) (.c (.v (.int .i64 1)))) (
      .jump [(.x 9)]))
      (.jump [(.c (.v (.bool false)))]))) (
    .ite (.x 8)
     (.op (.elem 11 (.cell 0 10) (.c (.v (.int .i64 0)))) (
     .chk (.cells (.x 9) 11) (
     .op (.call F.impl_greatestScope [(.x 9), (.x 1)] false) (
     .op (.pu .max [(.x 2), (.x 10)]) (
     .jump [(.x 11)])))))
     (.jump [(.x 2)]))) (
   .chk (.cells (.x 7) 11) (
   .chk (.cells (.x 0) 11) (
   .op (.call F.impl_homeScope [(.x 0), (.x 5), (.x 1)] true) (
   .op (.call F.impl_eachAt [(.x 7), (.x 9), (.x 8), (.x 3)] false) (
   .jump [(.cell 7 0), (.cell 7 1), (.cell 7 2), (.cell 7 3), (.cell 7 4), (.cell 7 5), (.cell 7 6), (.cell 7 7), (.cell 7 8), (.cell 7 9), (.cell 7 10)]))))))))) (
  .op (.bin .add (.x 5) (.c (.v (.int .i64 1)))) (
  .jump [(.x 18)])))
  (.esc (.ret [])))))))

theorem T.impl_eachAt_l : leftF Try.prog CF Try.f105 = some (4, T.impl_eachAt) := by kernel_rfl

theorem T.impl_eachAt_con {args : List AV} {res : AV} (hl : args.length = 4) (hn : AV.norefs args = true) (hw : wpT Try.prog (fun _ _ _ => False) (fun a => a = res) T.impl_eachAt args []) : PCon Try.prog F.impl_eachAt args res :=
  con_auto Try.func105 T.impl_eachAt_l hl hn hw

-- impl_Uses_1: no walk
def T.laws_eqKValS : T :=
.op (.lenL (.x 0)) (
.op (.lenL (.x 1)) (
.op (.bin .neq (.x 2) (.x 3)) (
.ite (.x 4)
 (.ret [(.c (.v (.bool false)))])
 (.bind 0 (
  .loop [(.c (.v (.int .i64 0)))] (
   .op (.lenL (.x 0)) (
   .op (.bin .lss (.x 5) (.x 6)) (
   .ite (.x 7)
    (.op (.elem 4 (.x 0) (.x 5)) (
    .chk (.cells (.x 8) 4) (
    .op (.elem 4 (.x 1) (.x 5)) (
    .chk (.cells (.x 9) 4) (
    .op (.call F.laws_eqKVal [(.x 8), (.x 9)] true) (
    .op (.un .not (.x 10)) (
    .ite (.x 11)
     (.esc (.esc (.ret [(.c (.v (.bool false)))])))
     (.op (.bin .add (.x 5) (.c (.v (.int .i64 1)))) (
     .jump [(.x 12)])))))))))
    (.esc (.jump [])))))) (
 .ret [(.c (.v (.bool true)))])))))

theorem T.laws_eqKValS_l : leftF Try.prog CF Try.f107 = some (2, T.laws_eqKValS) := by kernel_rfl

theorem T.laws_eqKValS_con {args : List AV} {res : AV} (hl : args.length = 2) (hn : AV.norefs args = true) (hw : wpT Try.prog (fun _ _ _ => False) (fun a => a = res) T.laws_eqKValS args []) : PCon Try.prog F.laws_eqKValS args res :=
  con_auto Try.func107 T.laws_eqKValS_l hl hn hw

def T.laws_eqKTermS : T :=
.op (.lenL (.x 0)) (
.op (.lenL (.x 1)) (
.op (.bin .neq (.x 2) (.x 3)) (
.ite (.x 4)
 (.ret [(.c (.v (.bool false)))])
 (.bind 0 (
  .loop [(.c (.v (.int .i64 0)))] (
   .op (.lenL (.x 0)) (
   .op (.bin .lss (.x 5) (.x 6)) (
   .ite (.x 7)
    (.op (.elem 11 (.x 0) (.x 5)) (
    .chk (.cells (.x 8) 11) (
    .op (.elem 11 (.x 1) (.x 5)) (
    .chk (.cells (.x 9) 11) (
    .op (.call F.laws_eqKTerm [(.x 8), (.x 9)] true) (
    .op (.un .not (.x 10)) (
    .ite (.x 11)
     (.esc (.esc (.ret [(.c (.v (.bool false)))])))
     (.op (.bin .add (.x 5) (.c (.v (.int .i64 1)))) (
     .jump [(.x 12)])))))))))
    (.esc (.jump [])))))) (
 .ret [(.c (.v (.bool true)))])))))

theorem T.laws_eqKTermS_l : leftF Try.prog CF Try.f108 = some (2, T.laws_eqKTermS) := by kernel_rfl

theorem T.laws_eqKTermS_con {args : List AV} {res : AV} (hl : args.length = 2) (hn : AV.norefs args = true) (hw : wpT Try.prog (fun _ _ _ => False) (fun a => a = res) T.laws_eqKTermS args []) : PCon Try.prog F.laws_eqKTermS args res :=
  con_auto Try.func108 T.laws_eqKTermS_l hl hn hw

-- laws_markKValS: no walk
-- laws_markKTermS: no walk
def T.slices_Index__bool_bool : T :=
.bind 0 (
 .op (.lenL (.x 0)) (
 .loop [(.c (.v (.int .i64 0)))] (
  .op (.bin .lss (.x 3) (.x 2)) (
  .ite (.x 4)
   (.op (.elem 1 (.x 0) (.x 3)) (
   .chk (.lt (.x 5) 0) (
   .op (.beq false (.x 1) (.cell 5 0)) (
   .ite (.x 6)
    (.esc (.esc (.ret [(.x 3)])))
    (.op (.bin .add (.x 3) (.c (.v (.int .i64 1)))) (
    .jump [(.x 7)]))))))
   (.esc (.jump [])))))) (
.ret [(.c (.v (.int .i64 (-1))))])

theorem T.slices_Index__bool_bool_l : leftF Try.prog CF Try.f111 = some (2, T.slices_Index__bool_bool) := by kernel_rfl

theorem T.slices_Index__bool_bool_con {args : List AV} {res : AV} (hl : args.length = 2) (hn : AV.norefs args = true) (hw : wpT Try.prog (fun _ _ _ => False) (fun a => a = res) T.slices_Index__bool_bool args []) : PCon Try.prog F.slices_Index__bool_bool args res :=
  con_auto Try.func111 T.slices_Index__bool_bool_l hl hn hw

def T.spec_l4Right : T :=
.bind 0 (
 .loop [(.c (.v (.int .i64 0)))] (
  .op (.lenL (.x 0)) (
  .op (.bin .lss (.x 2) (.x 3)) (
  .ite (.x 4)
   (.bind 1 (
    .bind 0 (
     .bind 1 (
      .op (.elem 4 (.x 0) (.x 2)) (
      .chk (.cells (.x 5) 4) (
      .op (.call F.spec_TySize [(.x 5)] false) (
      .op (.bin .gtr (.x 6) (.c (.v (.int .i64 200)))) (
      .ite (.x 7)
       (.jump [(.c (.v (.bool true)))])
       (.op (.elem 4 (.x 0) (.x 2)) (
       .chk (.cells (.x 8) 4) (
       .op (.call F.spec_TyOk [(.x 8)] false) (
       .op (.un .not (.x 9)) (
       .jump [(.x 10)])))))))))) (
     .ite (.x 5)
      (.esc (.esc (.esc (.esc (.ret [(.c (.v (.bool false)))])))))
      (.jump []))) (
    .op (.elem 4 (.x 0) (.x 2)) (
    .chk (.cells (.x 5) 4) (
    .op (.fcall false 3 1 F.spec_Free [(.x 5), (.c (.v (.int .i64 11)))]) (
    .loop [(.c (.v (.int .i64 0)))] (
     .op (.lenL (.sl (.x 6))) (
     .op (.bin .lss (.x 7) (.x 8)) (
     .ite (.x 9)
      (.chk (.idx (.x 6) (.x 7)) (
      .op (.get (.x 6) (.x 7) 0 none) (
      .op (.bin .geq (.x 10) (.x 1)) (
      .ite (.x 11)
       (.esc (.esc (.esc (.esc (.ret [(.c (.v (.bool false)))])))))
       (.op (.bin .add (.x 7) (.c (.v (.int .i64 1)))) (
       .jump [(.x 12)]))))))
      (.esc (.jump [(.x 6)])))))))))) (
   .op (.bin .add (.x 2) (.c (.v (.int .i64 1)))) (
   .jump [(.x 6)])))
   (.esc (.jump [])))))) (
.ret [(.c (.v (.bool true)))])

theorem T.spec_l4Right_l : leftF Try.prog CF Try.f112 = some (2, T.spec_l4Right) := by kernel_rfl

theorem T.spec_l4Right_con {args : List AV} {res : AV} (hl : args.length = 2) (hn : AV.norefs args = true) (hw : wpT Try.prog (fun _ _ _ => False) (fun a => a = res) T.spec_l4Right args []) : PCon Try.prog F.spec_l4Right args res :=
  con_auto Try.func112 T.spec_l4Right_l hl hn hw

-- spec_l4Metas: result not plain
def T.spec_l4Lay : T :=
.chk (.cells (.x 1) 4) (
.op (.bin .eql (.cell 1 0) (.c (.v (.int .i64 11)))) (
.ite (.x 2)
 (.ret [(.cell 1 1)])
 (.op (.mkl (.v (.int .i64 0)) 0 []) (
 .bind 1 (
  .loop [(.x 3), (.c (.v (.int .i64 0)))] (
   .op (.lenL (.cell 1 3)) (
   .op (.bin .lss (.x 5) (.x 6)) (
   .ite (.x 7)
    (.op (.elem 4 (.cell 1 3) (.x 5)) (
    .chk (.cells (.x 8) 4) (
    .op (.call F.spec_l4Lay [(.x 0), (.x 8)] false) (
    .chk (.one (.x 9)) (
    .op (.mkl (.v (.int .i64 0)) 1 [(0, (.x 9))]) (
    .op (.app 1 8 (.x 4) (.sl (.x 10))) (
    .op (.bin .add (.x 5) (.c (.v (.int .i64 1)))) (
    .jump [(.x 11), (.x 12)]))))))))
    (.esc (.jump [(.x 4)])))))) (
 .chk (.cells (.x 1) 4) (
 .op (.call F.spec_l4Add [(.x 0), (.x 1), (.sl (.x 4))] true) (
 .ret [(.x 5)])))))))

theorem T.spec_l4Lay_l : leftF Try.prog CF Try.f114 = some (2, T.spec_l4Lay) := by kernel_rfl

theorem T.spec_l4Lay_con {args : List AV} {res : AV} (hl : args.length = 2) (hn : AV.norefs args = true) (hw : wpT Try.prog (fun _ _ _ => False) (fun a => a = res) T.spec_l4Lay args []) : PCon Try.prog F.spec_l4Lay args res :=
  con_auto Try.func114 T.spec_l4Lay_l hl hn hw

-- spec_l4Join: no walk
-- spec_l4Sizes: no walk
def T.spec_l4Find : T :=
.bind 1 (
 .loop [(.x 1)] (
  .chk (.isFn (.x 0)) (
  .op (.fap 2 (.x 0)) (
  .op (.ldp none (.x 3)) (
  .op (.elem 1 (.x 4) (.x 2)) (
  .chk (.lt (.x 5) 0) (
  .op (.bin .neq (.cell 5 0) (.x 2)) (
  .ite (.x 6)
   (.chk (.isFn (.x 0)) (
   .op (.fap 2 (.x 0)) (
   .op (.ldp none (.x 7)) (
   .op (.elem 1 (.x 8) (.x 2)) (
   .chk (.lt (.x 9) 0) (
   .jump [(.cell 9 0)]))))))
   (.esc (.jump [(.x 2)])))))))))) (
.ret [(.x 2)])

theorem T.spec_l4Find_l : leftF Try.prog CF Try.f117 = some (2, T.spec_l4Find) := by kernel_rfl

theorem T.spec_l4Find_con {args : List AV} {res : AV} (hl : args.length = 2) (hn : AV.norefs args = true) (hw : wpT Try.prog (fun _ _ _ => False) (fun a => a = res) T.spec_l4Find args []) : PCon Try.prog F.spec_l4Find args res :=
  con_auto Try.func117 T.spec_l4Find_l hl hn hw

def T.spec_l4Read : T :=
.op (.call F.spec_l4Find [(.x 0), (.x 1)] false) (
.chk (.isFn (.x 0)) (
.op (.fap 0 (.x 0)) (
.op (.ldp none (.x 3)) (
.op (.elem 4 (.x 4) (.x 2)) (
.chk (.cells (.x 5) 4) (
.chk (.cells (.x 5) 4) (
.op (.mkl (.agg [(.v (.int .i64 0)), (.v (.int .i64 0)), (.v (.string ⟨#[]⟩)), .nils]) 0 []) (
.bind 1 (
 .loop [(.x 6), (.c (.v (.int .i64 0)))] (
  .chk (.isFn (.x 0)) (
  .op (.fap 1 (.x 0)) (
  .op (.ldp none (.x 9)) (
  .op (.elem 1 (.x 10) (.x 2)) (
  .chk (.lt (.x 11) 0) (
  .op (.lenL (.cell 11 0)) (
  .op (.bin .lss (.x 8) (.x 12)) (
  .ite (.x 13)
   (.chk (.isFn (.x 0)) (
   .op (.fap 1 (.x 0)) (
   .op (.ldp none (.x 14)) (
   .op (.elem 1 (.x 15) (.x 2)) (
   .chk (.lt (.x 16) 0) (
   .op (.elem 1 (.cell 16 0) (.x 8)) (
   .chk (.lt (.x 17) 0) (
   .op (.call F.spec_l4Read [(.x 0), (.cell 17 0)] false) (
   .chk (.cells (.x 18) 4) (
   .op (.mkl (.agg [(.v (.int .i64 0)), (.v (.int .i64 0)), (.v (.string ⟨#[]⟩)), .nils]) 1 [(0, (.x 18))]) (
   .op (.app 4 56 (.x 7) (.x 19)) (
   .op (.bin .add (.x 8) (.c (.v (.int .i64 1)))) (
   .jump [(.x 20), (.x 21)])))))))))))))
   (.esc (.jump [(.x 7)]))))))))))) (
.chk (.one (.cell 5 0)) (
.chk (.one (.cell 5 1)) (
.chk (.one (.cell 5 2)) (
.ret [(.agg [(.cell 5 0), (.cell 5 1), (.cell 5 2), (.sl (.x 7))])]))))))))))))

theorem T.spec_l4Read_l : leftF Try.prog CF Try.f118 = some (2, T.spec_l4Read) := by kernel_rfl

theorem T.spec_l4Read_con {args : List AV} {res : AV} (hl : args.length = 2) (hn : AV.norefs args = true) (hw : wpT Try.prog (fun _ _ _ => False) (fun a => a = res) T.spec_l4Read args []) : PCon Try.prog F.spec_l4Read args res :=
  con_auto Try.func118 T.spec_l4Read_l hl hn hw

-- impl_unifyOk: no walk
def T.impl_Unify_1 : T :=
.op (.ldp none (.x 1)) (
.op (.elem 1 (.x 2) (.x 0)) (
.chk (.lt (.x 3) 0) (
.ret [(.cell 3 0)])))

theorem T.impl_Unify_1_l : leftF Try.prog CF Try.f120 = some (2, T.impl_Unify_1) := by kernel_rfl

theorem T.impl_Unify_1_con {args : List AV} {res : AV} (hl : args.length = 2) (hn : AV.norefs args = true) (hw : wpT Try.prog (fun _ _ _ => False) (fun a => a = res) T.impl_Unify_1 args []) : PCon Try.prog F.impl_Unify_1 args res :=
  con_auto Try.func120 T.impl_Unify_1_l hl hn hw

-- impl_join: no walk
-- impl_nodeOf: no walk
def T.impl_endless : T :=
.op (.call F.impl_find [(.x 0)] false) (
.chk (.no) (
.op (.bin .neq (.c .top) (.c (.v (.int .i64 0)))) (
.ite (.x 3)
 (.chk (.no) (
 .op (.bin .eql (.c .top) (.c (.v (.int .i64 1)))) (
 .ret [(.x 4)])))
 (.chk (.no) (
 .bind 0 (
  .chk (.isFn (.x 2)) (
  .op (.fap 3 (.x 2)) (
  .op (.ldp none (.x 4)) (
  .op (.lenL (.x 5)) (
  .loop [(.c (.v (.int .i64 0)))] (
   .op (.bin .lss (.x 7) (.x 6)) (
   .ite (.x 8)
    (.op (.elem 1 (.x 5) (.x 7)) (
    .chk (.lt (.x 9) 0) (
    .op (.call F.impl_endless [(.cell 9 0), (.x 1)] false) (
    .ite (.x 10)
     (.esc (.esc (.ret [(.c (.v (.bool true)))])))
     (.op (.bin .add (.x 7) (.c (.v (.int .i64 1)))) (
     .jump [(.x 11)]))))))
    (.esc (.jump []))))))))) (
 .chk (.no) (
 .ret [(.c (.v (.bool false)))])))))))

theorem T.impl_endless_l : leftF Try.prog CF Try.f123 = some (2, T.impl_endless) := by kernel_rfl

theorem T.impl_endless_con {args : List AV} {res : AV} (hl : args.length = 2) (hn : AV.norefs args = true) (hw : wpT Try.prog (fun _ _ _ => False) (fun a => a = res) T.impl_endless args []) : PCon Try.prog F.impl_endless args res :=
  con_auto Try.func123 T.impl_endless_l hl hn hw

-- impl_nodeSize: no walk
def T.impl_tyOf : T :=
.op (.call F.impl_find [(.x 0)] false) (
.chk (.isFn (.x 2)) (
.op (.fap 0 (.x 2)) (
.op (.ldp none (.x 3)) (
.op (.call F.impl_isVarKind [(.x 4)] false) (
.ite (.x 5)
 (.op (.callv (.x 1) [(.x 2)] false) (
 .chk (.cells (.x 6) 4) (
 .ret [(.agg [(.cell 6 0), (.cell 6 1), (.cell 6 2), (.cell 6 3)])])))
 (.chk (.isFn (.x 2)) (
 .op (.fap 0 (.x 2)) (
 .op (.ldp none (.x 6)) (
 .chk (.isFn (.x 2)) (
 .op (.fap 1 (.x 2)) (
 .op (.ldp none (.x 8)) (
 .chk (.isFn (.x 2)) (
 .op (.fap 2 (.x 2)) (
 .op (.ldp none (.x 10)) (
 .chk (.one (.x 7)) (
 .chk (.one (.x 9)) (
 .chk (.one (.x 11)) (
 .chk (.cells (.agg [(.x 7), (.x 9), (.x 11), (.c .nils)]) 4) (
 .bind 1 (
  .chk (.isFn (.x 2)) (
  .op (.fap 3 (.x 2)) (
  .op (.ldp none (.x 12)) (
  .op (.lenL (.x 13)) (
  .loop [(.c (.sl [])), (.c (.v (.int .i64 0)))] (
   .op (.bin .lss (.x 16) (.x 14)) (
   .ite (.x 17)
    (.op (.elem 1 (.x 13) (.x 16)) (
    .chk (.lt (.x 18) 0) (
    .op (.call F.impl_tyOf [(.cell 18 0), (.x 1)] false) (
    .chk (.cells (.x 19) 4) (
    .op (.mkl (.agg [(.v (.int .i64 0)), (.v (.int .i64 0)), (.v (.string ⟨#[]⟩)), .nils]) 1 [(0, (.x 19))]) (
    .op (.app 4 56 (.x 15) (.x 20)) (
    .op (.bin .add (.x 16) (.c (.v (.int .i64 1)))) (
    .jump [(.x 21), (.x 22)]))))))))
    (.esc (.jump [(.x 15)]))))))))) (
 .chk (.one (.x 7)) (
 .chk (.one (.x 9)) (
 .chk (.one (.x 11)) (
 .ret [(.agg [(.x 7), (.x 9), (.x 11), (.sl (.x 12))])])))))))))))))))))))))))

theorem T.impl_tyOf_l : leftF Try.prog CF Try.f125 = some (2, T.impl_tyOf) := by kernel_rfl

theorem T.impl_tyOf_con {args : List AV} {res : AV} (hl : args.length = 2) (hn : AV.norefs args = true) (hw : wpT Try.prog (fun _ _ _ => False) (fun a => a = res) T.impl_tyOf args []) : PCon Try.prog F.impl_tyOf args res :=
  con_auto Try.func125 T.impl_tyOf_l hl hn hw

def T.impl_Unify_2 : T :=
.chk (.isFn (.x 0)) (
.op (.fap 0 (.x 0)) (
.op (.ldp none (.x 1)) (
.chk (.isFn (.x 0)) (
.op (.fap 1 (.x 0)) (
.op (.ldp none (.x 3)) (
.chk (.one (.x 2)) (
.chk (.one (.x 4)) (
.chk (.cells (.agg [(.x 2), (.x 4), (.c (.v (.string ⟨#[]⟩))), (.c .nils)]) 4) (
.ret [(.agg [(.x 2), (.x 4), (.c (.v (.string ⟨#[]⟩))), (.c .nils)])])))))))))

theorem T.impl_Unify_2_l : leftF Try.prog CF Try.f126 = some (1, T.impl_Unify_2) := by kernel_rfl

theorem T.impl_Unify_2_con {args : List AV} {res : AV} (hl : args.length = 1) (hn : AV.norefs args = true) (hw : wpT Try.prog (fun _ _ _ => False) (fun a => a = res) T.impl_Unify_2 args []) : PCon Try.prog F.impl_Unify_2 args res :=
  con_auto Try.func126 T.impl_Unify_2_l hl hn hw

def T.spec_l1Int : T :=
.op (.lenL (.x 3)) (
.op (.scall F.spec_l1Below G.spec_l1Below [(.x 0), (.x 1), (.x 2), (.x 4)]) (
.op (.elem 1 (.x 3) (.ext 5 0)) (
.chk (.lt (.x 6) 0) (
.ret [(.cell 6 0), (.ext 5 1), (.ext 5 2), (.ext 5 3)]))))

theorem T.spec_l1Int_l : leftS Try.prog CF G.spec_l1Int Try.f127 = some T.spec_l1Int := by kernel_rfl

theorem T.spec_l1Int_scon {ins outs : List AV} (hl : ins.length = 4) (ho : outs.length = 4) (hn : AV.norefs ins = true) (hw : wpT Try.prog (fun _ _ _ => False) (fun a => a = packR outs) T.spec_l1Int ins []) : SCon Try.prog F.spec_l1Int G.spec_l1Int ins outs :=
  scon_auto Try.func127 T.spec_l1Int_l hl hn ho hw

def T.spec_l1Byte : T :=
.op (.bin .mul (.x 2) (.c (.v (.int .i64 6364136223846793005)))) (
.op (.bin .add (.x 3) (.c (.v (.int .i64 1442695040888963407)))) (
.chk (.one (.x 4)) (
.op (.bin .shr (.x 4) (.c (.v (.int .u64 33)))) (
.op (.bin .shr (.x 4) (.c (.v (.int .u64 47)))) (
.op (.bin .xor (.x 5) (.x 6)) (
.op (.bin .and (.x 7) (.c (.v (.int .i64 255)))) (
.bind 2 (
 .op (.lenL (.x 0)) (
 .op (.bin .lss (.x 1) (.x 9)) (
 .ite (.x 10)
  (.op (.elem 1 (.x 0) (.x 1)) (
  .chk (.lt (.x 11) 0) (
  .op (.conv .i64 (.cell 11 0)) (
  .op (.bin .add (.x 8) (.x 12)) (
  .op (.bin .and (.x 13) (.c (.v (.int .i64 255)))) (
  .op (.bin .add (.x 1) (.c (.v (.int .i64 1)))) (
  .chk (.one (.x 15)) (
  .jump [(.x 15), (.x 14)]))))))))
  (.jump [(.x 1), (.x 8)])))) (
.ret [(.x 10), (.x 0), (.x 9), (.x 4)]))))))))

theorem T.spec_l1Byte_l : leftS Try.prog CF G.spec_l1Byte Try.f128 = some T.spec_l1Byte := by kernel_rfl

theorem T.spec_l1Byte_scon {ins outs : List AV} (hl : ins.length = 3) (ho : outs.length = 4) (hn : AV.norefs ins = true) (hw : wpT Try.prog (fun _ _ _ => False) (fun a => a = packR outs) T.spec_l1Byte ins []) : SCon Try.prog F.spec_l1Byte G.spec_l1Byte ins outs :=
  scon_auto Try.func128 T.spec_l1Byte_l hl hn ho hw

def T.laws_szInstr : T :=
.chk (.cells (.x 0) 6) (
.op (.lenS (.cell 0 5)) (
.op (.bin .sub (.x 1) (.x 2)) (
.op (.bin .lss (.x 3) (.c (.v (.int .i64 0)))) (
.ite (.x 4)
 (.ret [(.c (.v (.int .i64 (-1))))])
 (.ret [(.x 3)])))))

theorem T.laws_szInstr_l : leftF Try.prog CF Try.f129 = some (2, T.laws_szInstr) := by kernel_rfl

theorem T.laws_szInstr_con {args : List AV} {res : AV} (hl : args.length = 2) (hn : AV.norefs args = true) (hw : wpT Try.prog (fun _ _ _ => False) (fun a => a = res) T.laws_szInstr args []) : PCon Try.prog F.laws_szInstr args res :=
  con_auto Try.func129 T.laws_szInstr_l hl hn hw

def T.laws_toInstr : T :=
.chk (.cells (.x 0) 6) (
.chk (.one (.cell 0 0)) (
.chk (.one (.cell 0 1)) (
.chk (.one (.cell 0 2)) (
.chk (.one (.cell 0 3)) (
.chk (.one (.cell 0 4)) (
.chk (.one (.cell 0 5)) (
.chk (.cells (.x 0) 6) (
.chk (.cells (.x 0) 6) (
.ret [(.agg [(.cell 0 0), (.cell 0 1), (.cell 0 2), (.cell 0 3), (.cell 0 4), (.cell 0 5)])])))))))))

theorem T.laws_toInstr_l : leftF Try.prog CF Try.f130 = some (1, T.laws_toInstr) := by kernel_rfl

theorem T.laws_toInstr_con {args : List AV} {res : AV} (hl : args.length = 1) (hn : AV.norefs args = true) (hw : wpT Try.prog (fun _ _ _ => False) (fun a => a = res) T.laws_toInstr args []) : PCon Try.prog F.laws_toInstr args res :=
  con_auto Try.func130 T.laws_toInstr_l hl hn hw

def T.laws_eqInstr : T :=
.chk (.cells (.x 0) 6) (
.chk (.cells (.x 1) 6) (
.op (.bin .neq (.cell 0 0) (.cell 1 0)) (
.ite (.x 2)
 (.ret [(.c (.v (.bool false)))])
 (.op (.bin .neq (.cell 0 1) (.cell 1 1)) (
 .ite (.x 3)
  (.ret [(.c (.v (.bool false)))])
  (.op (.bin .neq (.cell 0 2) (.cell 1 2)) (
  .ite (.x 4)
   (.ret [(.c (.v (.bool false)))])
   (.op (.bin .neq (.cell 0 3) (.cell 1 3)) (
   .ite (.x 5)
    (.ret [(.c (.v (.bool false)))])
    (.op (.bin .neq (.cell 0 4) (.cell 1 4)) (
    .ite (.x 6)
     (.ret [(.c (.v (.bool false)))])
     (.op (.bin .neq (.cell 0 5) (.cell 1 5)) (
     .ite (.x 7)
      (.ret [(.c (.v (.bool false)))])
      (.ret [(.c (.v (.bool true)))]))))))))))))))

theorem T.laws_eqInstr_l : leftF Try.prog CF Try.f131 = some (2, T.laws_eqInstr) := by kernel_rfl

theorem T.laws_eqInstr_con {args : List AV} {res : AV} (hl : args.length = 2) (hn : AV.norefs args = true) (hw : wpT Try.prog (fun _ _ _ => False) (fun a => a = res) T.laws_eqInstr args []) : PCon Try.prog F.laws_eqInstr args res :=
  con_auto Try.func131 T.laws_eqInstr_l hl hn hw

def T.impl_headOk : T :=
.chk (.cells (.x 0) 7) (
.op (.lenL (.cell 0 5)) (
.op (.bin .eql (.x 1) (.c (.v (.int .i64 0)))) (
.op (.bin .eql (.cell 0 1) (.c (.v (.string ⟨#[]⟩)))) (
.op (.bin .eql (.cell 0 2) (.c (.v (.int .i64 0)))) (
.op (.bin .eql (.cell 0 3) (.c (.v (.string ⟨#[]⟩)))) (
.bind 4 (
 .op (.bin .eql (.cell 0 0) (.c (.v (.int .i64 1)))) (
 .ite (.x 6)
  (.op (.bin .geq (.cell 0 2) (.c (.v (.int .i64 0)))) (
  .jump [(.x 2), (.x 3), (.x 7), (.x 5)]))
  (.op (.bin .eql (.cell 0 0) (.c (.v (.int .i64 2)))) (
  .ite (.x 7)
   (.op (.call F.impl_plain [(.cell 0 3)] false) (
   .jump [(.x 2), (.x 3), (.x 4), (.x 8)]))
   (.op (.bin .eql (.cell 0 0) (.c (.v (.int .i64 3)))) (
   .ite (.x 8)
    (.op (.call F.impl_within [(.cell 0 2), (.c (.v (.int .i64 0))), (.c (.v (.int .i64 1)))] false) (
    .jump [(.x 2), (.x 3), (.x 9), (.x 5)]))
    (.op (.bin .eql (.cell 0 0) (.c (.v (.int .i64 4)))) (
    .ite (.x 9)
     (.jump [(.x 2), (.x 3), (.x 4), (.x 5)])
     (.op (.bin .eql (.cell 0 0) (.c (.v (.int .i64 5)))) (
     .ite (.x 10)
      (.op (.call F.impl_lowOk [(.cell 0 1)] false) (
      .jump [(.x 2), (.x 11), (.x 4), (.x 5)]))
      (.op (.bin .eql (.cell 0 0) (.c (.v (.int .i64 6)))) (
      .ite (.x 11)
       (.op (.lenL (.cell 0 5)) (
       .op (.bin .leq (.x 12) (.c (.v (.int .i64 1)))) (
       .op (.call F.impl_upOk [(.cell 0 1)] true) (
       .jump [(.x 13), (.x 14), (.x 4), (.x 5)]))))
       (.op (.bin .eql (.cell 0 0) (.c (.v (.int .i64 7)))) (
       .ite (.x 12)
        (.op (.lenL (.cell 0 5)) (
        .op (.bin .geq (.x 13) (.c (.v (.int .i64 2)))) (
        .jump [(.x 14), (.x 3), (.x 4), (.x 5)])))
        (.op (.bin .eql (.cell 0 0) (.c (.v (.int .i64 8)))) (
        .ite (.x 13)
         (.op (.lenL (.cell 0 5)) (
         .op (.bin .eql (.x 14) (.c (.v (.int .i64 1)))) (
         .op (.call F.impl_lowOk [(.cell 0 1)] true) (
         .jump [(.x 15), (.x 16), (.x 4), (.x 5)]))))
         (.op (.bin .eql (.cell 0 0) (.c (.v (.int .i64 9)))) (
         .ite (.x 14)
          (.op (.lenL (.cell 0 5)) (
          .op (.bin .eql (.x 15) (.c (.v (.int .i64 2)))) (
          .jump [(.x 16), (.x 3), (.x 4), (.x 5)])))
          (.op (.bin .eql (.cell 0 0) (.c (.v (.int .i64 10)))) (
          .ite (.x 15)
           (.op (.lenL (.cell 0 5)) (
           .op (.bin .eql (.x 16) (.c (.v (.int .i64 2)))) (
           .op (.call F.impl_lowOk [(.cell 0 1)] true) (
           .jump [(.x 17), (.x 18), (.x 4), (.x 5)]))))
           (.op (.bin .eql (.cell 0 0) (.c (.v (.int .i64 11)))) (
           .ite (.x 16)
            (.op (.lenL (.cell 0 5)) (
            .op (.bin .eql (.x 17) (.c (.v (.int .i64 2)))) (
            .op (.call F.impl_lowOk [(.cell 0 1)] true) (
            .op (.call F.impl_lowOk [(.cell 0 3)] true) (
            .jump [(.x 18), (.x 19), (.x 4), (.x 20)])))))
            (.op (.bin .eql (.cell 0 0) (.c (.v (.int .i64 12)))) (
            .ite (.x 17)
             (.op (.lenL (.cell 0 5)) (
             .op (.bin .eql (.x 18) (.c (.v (.int .i64 3)))) (
             .jump [(.x 19), (.x 3), (.x 4), (.x 5)])))
             (.op (.bin .eql (.cell 0 0) (.c (.v (.int .i64 13)))) (
             .ite (.x 18)
              (.op (.lenL (.cell 0 5)) (
              .op (.bin .eql (.x 19) (.c (.v (.int .i64 1)))) (
              .jump [(.x 20), (.x 3), (.x 4), (.x 5)])))
              (.op (.bin .eql (.cell 0 0) (.c (.v (.int .i64 14)))) (
              .ite (.x 19)
               (.op (.lenL (.cell 0 5)) (
               .op (.bin .eql (.x 20) (.c (.v (.int .i64 2)))) (
               .op (.call F.impl_binarySign [(.cell 0 1)] true) (
               .jump [(.x 21), (.x 22), (.x 4), (.x 5)]))))
               (.op (.bin .eql (.cell 0 0) (.c (.v (.int .i64 15)))) (
               .ite (.x 20)
                (.op (.lenL (.cell 0 5)) (
                .op (.call F.impl_primArity [(.cell 0 1)] true) (
                .op (.bin .eql (.x 21) (.x 22)) (
                .jump [(.x 23), (.c (.v (.bool true))), (.x 4), (.x 5)]))))
                (.esc (.ret [(.c (.v (.bool false)))])))))))))))))))))))))))))))))))) (
.bind 1 (
 .ite (.x 6)
  (.ite (.x 7)
   (.ite (.x 8)
    (.ite (.x 9)
     (.op (.bin .geq (.cell 0 4) (.c (.v (.int .i64 0)))) (
     .ite (.x 10)
      (.op (.bin .eql (.cell 0 0) (.c (.v (.int .i64 13)))) (
      .op (.lenL (.cell 0 6)) (
      .op (.bin .gtr (.x 12) (.c (.v (.int .i64 0)))) (
      .op (.beq false (.x 11) (.x 13)) (
      .jump [(.x 14)])))))
      (.jump [(.c (.v (.bool false)))])))
     (.jump [(.c (.v (.bool false)))]))
    (.jump [(.c (.v (.bool false)))]))
   (.jump [(.c (.v (.bool false)))]))
  (.jump [(.c (.v (.bool false)))])) (
.ret [(.x 10)]))))))))

theorem T.impl_headOk_l : leftF Try.prog CF Try.f132 = some (1, T.impl_headOk) := by kernel_rfl

theorem T.impl_headOk_con {args : List AV} {res : AV} (hl : args.length = 1) (hn : AV.norefs args = true) (hw : wpT Try.prog (fun _ _ _ => False) (fun a => a = res) T.impl_headOk args []) : PCon Try.prog F.impl_headOk args res :=
  con_auto Try.func132 T.impl_headOk_l hl hn hw

def T.impl_patOk : T :=
.chk (.cells (.x 0) 5) (
.op (.lenL (.cell 0 4)) (
.op (.bin .eql (.x 1) (.c (.v (.int .i64 0)))) (
.op (.bin .eql (.cell 0 1) (.c (.v (.string ⟨#[]⟩)))) (
.op (.bin .eql (.cell 0 2) (.c (.v (.int .i64 0)))) (
.bind 3 (
 .bind 1 (
  .op (.bin .eql (.cell 0 0) (.c (.v (.int .i64 1)))) (
  .ite (.x 5)
   (.jump [(.x 5)])
   (.op (.bin .eql (.cell 0 0) (.c (.v (.int .i64 5)))) (
   .jump [(.x 6)])))) (
 .ite (.x 5)
  (.jump [(.x 2), (.x 3), (.x 4)])
  (.op (.bin .eql (.cell 0 0) (.c (.v (.int .i64 2)))) (
  .ite (.x 6)
   (.op (.call F.impl_lowOk [(.cell 0 1)] false) (
   .jump [(.x 2), (.x 7), (.x 4)]))
   (.op (.bin .eql (.cell 0 0) (.c (.v (.int .i64 3)))) (
   .ite (.x 7)
    (.op (.bin .geq (.cell 0 2) (.c (.v (.int .i64 0)))) (
    .jump [(.x 2), (.x 3), (.x 8)]))
    (.op (.bin .eql (.cell 0 0) (.c (.v (.int .i64 4)))) (
    .ite (.x 8)
     (.op (.call F.impl_within [(.cell 0 2), (.c (.v (.int .i64 0))), (.c (.v (.int .i64 1)))] false) (
     .jump [(.x 2), (.x 3), (.x 9)]))
     (.op (.bin .eql (.cell 0 0) (.c (.v (.int .i64 6)))) (
     .ite (.x 9)
      (.op (.lenL (.cell 0 4)) (
      .op (.bin .geq (.x 10) (.c (.v (.int .i64 2)))) (
      .jump [(.x 11), (.x 3), (.x 4)])))
      (.op (.bin .eql (.cell 0 0) (.c (.v (.int .i64 7)))) (
      .ite (.x 10)
       (.op (.lenL (.cell 0 4)) (
       .op (.bin .leq (.x 11) (.c (.v (.int .i64 1)))) (
       .op (.call F.impl_upOk [(.cell 0 1)] true) (
       .jump [(.x 12), (.x 13), (.x 4)]))))
       (.esc (.ret [(.c (.v (.bool false)))])))))))))))))) (
.bind 1 (
 .ite (.x 5)
  (.ite (.x 6)
   (.ite (.x 7)
    (.op (.bin .geq (.cell 0 3) (.c (.v (.int .i64 0)))) (
    .ite (.x 8)
     (.op (.call F.slices_ContainsFunc__impl_Pat_impl_Pat [(.cell 0 4), (.c (.fn F.impl_patOk_1 []))] false) (
     .op (.un .not (.x 9)) (
     .jump [(.x 10)])))
     (.jump [(.c (.v (.bool false)))])))
    (.jump [(.c (.v (.bool false)))]))
   (.jump [(.c (.v (.bool false)))]))
  (.jump [(.c (.v (.bool false)))])) (
.ret [(.x 8)])))))))

theorem T.impl_patOk_l : leftF Try.prog CF Try.f133 = some (1, T.impl_patOk) := by kernel_rfl

theorem T.impl_patOk_con {args : List AV} {res : AV} (hl : args.length = 1) (hn : AV.norefs args = true) (hw : wpT Try.prog (fun _ _ _ => False) (fun a => a = res) T.impl_patOk args []) : PCon Try.prog F.impl_patOk args res :=
  con_auto Try.func133 T.impl_patOk_l hl hn hw

def T.impl_names_at : T :=
.bind 0 (
 .op (.lenL (.x 0)) (
 .op (.bin .sub (.x 2) (.c (.v (.int .i64 1)))) (
 .loop [(.x 3)] (
  .op (.bin .geq (.x 4) (.c (.v (.int .i64 0)))) (
  .ite (.x 5)
   (.op (.elem 1 (.x 0) (.x 4)) (
   .chk (.lt (.x 6) 0) (
   .op (.bin .eql (.cell 6 0) (.x 1)) (
   .ite (.x 7)
    (.esc (.esc (.ret [(.x 4)])))
    (.op (.bin .sub (.x 4) (.c (.v (.int .i64 1)))) (
    .jump [(.x 8)]))))))
   (.esc (.jump []))))))) (
.ret [(.c (.v (.int .i64 (-1))))])

theorem T.impl_names_at_l : leftF Try.prog CF Try.f134 = some (2, T.impl_names_at) := by kernel_rfl

theorem T.impl_names_at_con {args : List AV} {res : AV} (hl : args.length = 2) (hn : AV.norefs args = true) (hw : wpT Try.prog (fun _ _ _ => False) (fun a => a = res) T.impl_names_at args []) : PCon Try.prog F.impl_names_at args res :=
  con_auto Try.func134 T.impl_names_at_l hl hn hw

-- slices_Concat_impl_names_string: no walk
def T.impl_bindsIn : T :=
.chk (.cells (.x 0) 7) (
.bind 0 (
 .bind 1 (
  .op (.bin .eql (.cell 0 0) (.c (.v (.int .i64 8)))) (
  .ite (.x 2)
   (.jump [(.x 2)])
   (.bind 1 (
    .op (.bin .eql (.cell 0 0) (.c (.v (.int .i64 10)))) (
    .ite (.x 3)
     (.op (.bin .eql (.x 1) (.c (.v (.int .i64 1)))) (
     .jump [(.x 4)]))
     (.jump [(.c (.v (.bool false)))]))) (
   .ite (.x 3)
    (.jump [(.x 3)])
    (.op (.bin .eql (.cell 0 0) (.c (.v (.int .i64 11)))) (
    .ite (.x 4)
     (.op (.bin .eql (.x 1) (.c (.v (.int .i64 1)))) (
     .jump [(.x 5)]))
     (.jump [(.c (.v (.bool false)))]))))))) (
 .ite (.x 2)
  (.chk (.one (.cell 0 1)) (
  .op (.mkl (.v (.string ⟨#[]⟩)) 1 [(0, (.cell 0 1))]) (
  .esc (.ret [(.sl (.x 3))]))))
  (.op (.bin .eql (.cell 0 0) (.c (.v (.int .i64 11)))) (
  .ite (.x 3)
   (.chk (.one (.cell 0 1)) (
   .chk (.one (.cell 0 3)) (
   .op (.mkl (.v (.string ⟨#[]⟩)) 2 [(0, (.cell 0 1)), (1, (.cell 0 3))]) (
   .esc (.ret [(.sl (.x 4))])))))
   (.jump []))))) (
.ret [(.c .nils)]))

theorem T.impl_bindsIn_l : leftF Try.prog CF Try.f136 = some (2, T.impl_bindsIn) := by kernel_rfl

theorem T.impl_bindsIn_con {args : List AV} {res : AV} (hl : args.length = 2) (hn : AV.norefs args = true) (hw : wpT Try.prog (fun _ _ _ => False) (fun a => a = res) T.impl_bindsIn args []) : PCon Try.prog F.impl_bindsIn args res :=
  con_auto Try.func136 T.impl_bindsIn_l hl hn hw

def T.impl_alikePat : T :=
.chk (.cells (.x 0) 5) (
.chk (.cells (.x 1) 5) (
.bind 1 (
 .op (.bin .eql (.cell 0 0) (.cell 1 0)) (
 .ite (.x 2)
  (.op (.bin .eql (.cell 0 0) (.c (.v (.int .i64 2)))) (
  .ite (.x 3)
   (.op (.bin .eql (.cell 0 2) (.cell 1 2)) (
   .ite (.x 4)
    (.op (.call F.slices_EqualFunc__impl_Pat__impl_Pat_impl_Pat_impl_Pat [(.cell 0 4), (.cell 1 4), (.c (.fn F.impl_alikePat []))] false) (
    .jump [(.x 5)]))
    (.jump [(.c (.v (.bool false)))])))
   (.op (.bin .eql (.cell 0 1) (.cell 1 1)) (
   .ite (.x 4)
    (.op (.bin .eql (.cell 0 2) (.cell 1 2)) (
    .ite (.x 5)
     (.op (.call F.slices_EqualFunc__impl_Pat__impl_Pat_impl_Pat_impl_Pat [(.cell 0 4), (.cell 1 4), (.c (.fn F.impl_alikePat []))] false) (
     .jump [(.x 6)]))
     (.jump [(.c (.v (.bool false)))])))
    (.jump [(.c (.v (.bool false)))])))))
  (.jump [(.c (.v (.bool false)))]))) (
.ret [(.x 2)])))

theorem T.impl_alikePat_l : leftF Try.prog CF Try.f137 = some (2, T.impl_alikePat) := by kernel_rfl

theorem T.impl_alikePat_con {args : List AV} {res : AV} (hl : args.length = 2) (hn : AV.norefs args = true) (hw : wpT Try.prog (fun _ _ _ => False) (fun a => a = res) T.impl_alikePat args []) : PCon Try.prog F.impl_alikePat args res :=
  con_auto Try.func137 T.impl_alikePat_l hl hn hw

def T.impl_patNames : T :=
.chk (.cells (.x 0) 5) (
.bind 1 (
 .op (.bin .eql (.cell 0 0) (.c (.v (.int .i64 2)))) (
 .ite (.x 1)
  (.chk (.one (.cell 0 1)) (
  .op (.mkl (.v (.string ⟨#[]⟩)) 1 [(0, (.cell 0 1))]) (
  .op (.app 1 16 (.c (.sl [])) (.sl (.x 2))) (
  .jump [(.x 3)]))))
  (.jump [(.c (.sl []))]))) (
.bind 1 (
 .op (.lenL (.cell 0 4)) (
 .loop [(.x 1), (.c (.v (.int .i64 0)))] (
  .op (.bin .lss (.x 4) (.x 2)) (
  .ite (.x 5)
   (.op (.elem 5 (.cell 0 4) (.x 4)) (
   .chk (.cells (.x 6) 5) (
   .chk (.cells (.x 6) 5) (
   .chk (.cells (.x 6) 5) (
   .op (.call F.impl_patNames [(.x 6)] false) (
   .op (.app 1 16 (.x 3) (.x 7)) (
   .op (.bin .add (.x 4) (.c (.v (.int .i64 1)))) (
   .jump [(.x 8), (.x 9)]))))))))
   (.esc (.jump [(.x 3)])))))) (
.ret [(.sl (.x 2))])))

theorem T.impl_patNames_l : leftF Try.prog CF Try.f138 = some (1, T.impl_patNames) := by kernel_rfl

theorem T.impl_patNames_con {args : List AV} {res : AV} (hl : args.length = 1) (hn : AV.norefs args = true) (hw : wpT Try.prog (fun _ _ _ => False) (fun a => a = res) T.impl_patNames args []) : PCon Try.prog F.impl_patNames args res :=
  con_auto Try.func138 T.impl_patNames_l hl hn hw

def T.spec_l4Node : T :=
.chk (.cells (.x 0) 4) (
.op (.lenL (.cell 0 3)) (
.bind 0 (
 .bind 1 (
  .op (.bin .neq (.cell 0 0) (.c (.v (.int .i64 7)))) (
  .ite (.x 2)
   (.op (.bin .neq (.cell 0 2) (.c (.v (.string ⟨#[]⟩)))) (
   .ite (.x 3)
    (.jump [(.c (.v (.bool true)))])
    (.op (.bin .lss (.cell 0 0) (.c (.v (.int .i64 9)))) (
    .ite (.x 4)
     (.op (.bin .neq (.cell 0 1) (.c (.v (.int .i64 0)))) (
     .jump [(.x 5)]))
     (.jump [(.c (.v (.bool false)))])))))
   (.op (.bin .lss (.cell 0 0) (.c (.v (.int .i64 9)))) (
   .ite (.x 3)
    (.op (.bin .neq (.cell 0 1) (.c (.v (.int .i64 0)))) (
    .jump [(.x 4)]))
    (.jump [(.c (.v (.bool false)))]))))) (
 .ite (.x 2)
  (.esc (.ret [(.c (.v (.bool false)))]))
  (.jump []))) (
.bind 0 (
 .bind 1 (
  .op (.bin .eql (.cell 0 0) (.c (.v (.int .i64 1)))) (
  .ite (.x 2)
   (.jump [(.x 2)])
   (.op (.bin .eql (.cell 0 0) (.c (.v (.int .i64 2)))) (
   .ite (.x 3)
    (.jump [(.x 3)])
    (.op (.bin .eql (.cell 0 0) (.c (.v (.int .i64 3)))) (
    .ite (.x 4)
     (.jump [(.x 4)])
     (.op (.bin .eql (.cell 0 0) (.c (.v (.int .i64 4)))) (
     .jump [(.x 5)])))))))) (
 .ite (.x 2)
  (.op (.bin .eql (.x 1) (.c (.v (.int .i64 0)))) (
  .esc (.ret [(.x 3)])))
  (.op (.bin .eql (.cell 0 0) (.c (.v (.int .i64 5)))) (
  .ite (.x 3)
   (.op (.bin .eql (.x 1) (.c (.v (.int .i64 2)))) (
   .esc (.ret [(.x 4)])))
   (.op (.bin .eql (.cell 0 0) (.c (.v (.int .i64 6)))) (
   .ite (.x 4)
    (.op (.bin .geq (.x 1) (.c (.v (.int .i64 2)))) (
    .esc (.ret [(.x 5)])))
    (.op (.bin .eql (.cell 0 0) (.c (.v (.int .i64 7)))) (
    .ite (.x 5)
     (.op (.call F.spec_l1Low [(.cell 0 2)] false) (
     .esc (.ret [(.x 6)])))
     (.op (.bin .eql (.cell 0 0) (.c (.v (.int .i64 8)))) (
     .ite (.x 6)
      (.op (.bin .eql (.x 1) (.c (.v (.int .i64 1)))) (
      .esc (.ret [(.x 7)])))
      (.bind 1 (
       .op (.bin .eql (.cell 0 0) (.c (.v (.int .i64 9)))) (
       .ite (.x 7)
        (.jump [(.x 7)])
        (.op (.bin .eql (.cell 0 0) (.c (.v (.int .i64 10)))) (
        .ite (.x 8)
         (.jump [(.x 8)])
         (.op (.bin .eql (.cell 0 0) (.c (.v (.int .i64 11)))) (
         .jump [(.x 9)])))))) (
      .ite (.x 7)
       (.bind 1 (
        .op (.bin .eql (.x 1) (.c (.v (.int .i64 0)))) (
        .ite (.x 8)
         (.op (.bin .geq (.cell 0 1) (.c (.v (.int .i64 0)))) (
         .jump [(.x 9)]))
         (.jump [(.c (.v (.bool false)))]))) (
       .esc (.ret [(.x 8)])))
       (.jump []))))))))))))) (
.ret [(.c (.v (.bool false)))]))))

theorem T.spec_l4Node_l : leftF Try.prog CF Try.f139 = some (1, T.spec_l4Node) := by kernel_rfl

theorem T.spec_l4Node_con {args : List AV} {res : AV} (hl : args.length = 1) (hn : AV.norefs args = true) (hw : wpT Try.prog (fun _ _ _ => False) (fun a => a = res) T.spec_l4Node args []) : PCon Try.prog F.spec_l4Node args res :=
  con_auto Try.func139 T.spec_l4Node_l hl hn hw

def T.spec_l4Has : T :=
.bind 0 (
 .loop [(.c (.v (.int .i64 0)))] (
  .op (.lenL (.x 0)) (
  .op (.bin .lss (.x 2) (.x 3)) (
  .ite (.x 4)
   (.op (.elem 1 (.x 0) (.x 2)) (
   .chk (.lt (.x 5) 0) (
   .op (.bin .eql (.cell 5 0) (.x 1)) (
   .ite (.x 6)
    (.esc (.esc (.ret [(.c (.v (.bool true)))])))
    (.op (.bin .add (.x 2) (.c (.v (.int .i64 1)))) (
    .jump [(.x 7)]))))))
   (.esc (.jump [])))))) (
.ret [(.c (.v (.bool false)))])

theorem T.spec_l4Has_l : leftF Try.prog CF Try.f140 = some (2, T.spec_l4Has) := by kernel_rfl

theorem T.spec_l4Has_con {args : List AV} {res : AV} (hl : args.length = 2) (hn : AV.norefs args = true) (hw : wpT Try.prog (fun _ _ _ => False) (fun a => a = res) T.spec_l4Has args []) : PCon Try.prog F.spec_l4Has args res :=
  con_auto Try.func140 T.spec_l4Has_l hl hn hw

def T.impl_tyHeadOk : T :=
.chk (.cells (.x 0) 4) (
.op (.lenL (.cell 0 3)) (
.op (.bin .eql (.x 1) (.c (.v (.int .i64 0)))) (
.op (.bin .eql (.cell 0 2) (.c (.v (.string ⟨#[]⟩)))) (
.op (.bin .eql (.cell 0 1) (.c (.v (.int .i64 0)))) (
.bind 3 (
 .bind 1 (
  .op (.bin .eql (.cell 0 0) (.c (.v (.int .i64 1)))) (
  .ite (.x 5)
   (.jump [(.x 5)])
   (.op (.bin .eql (.cell 0 0) (.c (.v (.int .i64 2)))) (
   .ite (.x 6)
    (.jump [(.x 6)])
    (.op (.bin .eql (.cell 0 0) (.c (.v (.int .i64 3)))) (
    .ite (.x 7)
     (.jump [(.x 7)])
     (.op (.bin .eql (.cell 0 0) (.c (.v (.int .i64 4)))) (
     .jump [(.x 8)])))))))) (
 .ite (.x 5)
  (.jump [(.x 2), (.x 3), (.x 4)])
  (.op (.bin .eql (.cell 0 0) (.c (.v (.int .i64 5)))) (
  .ite (.x 6)
   (.op (.lenL (.cell 0 3)) (
   .op (.bin .eql (.x 7) (.c (.v (.int .i64 2)))) (
   .jump [(.x 8), (.x 3), (.x 4)])))
   (.op (.bin .eql (.cell 0 0) (.c (.v (.int .i64 6)))) (
   .ite (.x 7)
    (.op (.lenL (.cell 0 3)) (
    .op (.bin .geq (.x 8) (.c (.v (.int .i64 2)))) (
    .jump [(.x 9), (.x 3), (.x 4)])))
    (.op (.bin .eql (.cell 0 0) (.c (.v (.int .i64 7)))) (
    .ite (.x 8)
     (.op (.call F.impl_lowOk [(.cell 0 2)] false) (
     .jump [(.c (.v (.bool true))), (.x 9), (.x 4)]))
     (.op (.bin .eql (.cell 0 0) (.c (.v (.int .i64 8)))) (
     .ite (.x 9)
      (.op (.lenL (.cell 0 3)) (
      .op (.bin .eql (.x 10) (.c (.v (.int .i64 1)))) (
      .jump [(.x 11), (.x 3), (.x 4)])))
      (.bind 1 (
       .op (.bin .eql (.cell 0 0) (.c (.v (.int .i64 9)))) (
       .ite (.x 10)
        (.jump [(.x 10)])
        (.op (.bin .eql (.cell 0 0) (.c (.v (.int .i64 10)))) (
        .ite (.x 11)
         (.jump [(.x 11)])
         (.op (.bin .eql (.cell 0 0) (.c (.v (.int .i64 11)))) (
         .jump [(.x 12)])))))) (
      .ite (.x 10)
       (.op (.bin .geq (.cell 0 1) (.c (.v (.int .i64 0)))) (
       .jump [(.x 2), (.x 3), (.x 11)]))
       (.esc (.ret [(.c (.v (.bool false)))])))))))))))))) (
.bind 1 (
 .ite (.x 5)
  (.ite (.x 6)
   (.jump [(.x 7)])
   (.jump [(.c (.v (.bool false)))]))
  (.jump [(.c (.v (.bool false)))])) (
.ret [(.x 8)])))))))

theorem T.impl_tyHeadOk_l : leftF Try.prog CF Try.f141 = some (1, T.impl_tyHeadOk) := by kernel_rfl

theorem T.impl_tyHeadOk_con {args : List AV} {res : AV} (hl : args.length = 1) (hn : AV.norefs args = true) (hw : wpT Try.prog (fun _ _ _ => False) (fun a => a = res) T.impl_tyHeadOk args []) : PCon Try.prog F.impl_tyHeadOk args res :=
  con_auto Try.func141 T.impl_tyHeadOk_l hl hn hw

def T.slices_ContainsFunc__impl_Ty_impl_Ty : T :=
.op (.call F.slices_IndexFunc__impl_Ty_impl_Ty [(.x 0), (.x 1)] false) (
.op (.bin .geq (.x 2) (.c (.v (.int .i64 0)))) (
.ret [(.x 3)]))

theorem T.slices_ContainsFunc__impl_Ty_impl_Ty_l : leftF Try.prog CF Try.f142 = some (2, T.slices_ContainsFunc__impl_Ty_impl_Ty) := by kernel_rfl

theorem T.slices_ContainsFunc__impl_Ty_impl_Ty_con {args : List AV} {res : AV} (hl : args.length = 2) (hn : AV.norefs args = true) (hw : wpT Try.prog (fun _ _ _ => False) (fun a => a = res) T.slices_ContainsFunc__impl_Ty_impl_Ty args []) : PCon Try.prog F.slices_ContainsFunc__impl_Ty_impl_Ty args res :=
  con_auto Try.func142 T.slices_ContainsFunc__impl_Ty_impl_Ty_l hl hn hw

def T.impl_TyOk_1 : T :=
.chk (.cells (.x 0) 4) (
.chk (.cells (.x 0) 4) (
.op (.call F.impl_TyOk [(.x 0)] false) (
.op (.un .not (.x 1)) (
.ret [(.x 2)]))))

theorem T.impl_TyOk_1_l : leftF Try.prog CF Try.f143 = some (1, T.impl_TyOk_1) := by kernel_rfl

theorem T.impl_TyOk_1_con {args : List AV} {res : AV} (hl : args.length = 1) (hn : AV.norefs args = true) (hw : wpT Try.prog (fun _ _ _ => False) (fun a => a = res) T.impl_TyOk_1 args []) : PCon Try.prog F.impl_TyOk_1 args res :=
  con_auto Try.func143 T.impl_TyOk_1_l hl hn hw

def T.slices_Contains__int_int : T :=
.op (.call F.slices_Index__int_int [(.x 0), (.x 1)] false) (
.op (.bin .geq (.x 2) (.c (.v (.int .i64 0)))) (
.ret [(.x 3)]))

theorem T.slices_Contains__int_int_l : leftF Try.prog CF Try.f144 = some (2, T.slices_Contains__int_int) := by kernel_rfl

theorem T.slices_Contains__int_int_con {args : List AV} {res : AV} (hl : args.length = 2) (hn : AV.norefs args = true) (hw : wpT Try.prog (fun _ _ _ => False) (fun a => a = res) T.slices_Contains__int_int args []) : PCon Try.prog F.slices_Contains__int_int args res :=
  con_auto Try.func144 T.slices_Contains__int_int_l hl hn hw

def T.laws_szArm : T :=
.chk (.cells (.x 0) 12) (
.op (.call F.laws_szPat [(.agg [(.cell 0 0), (.cell 0 1), (.cell 0 2), (.cell 0 3), (.cell 0 4)]), (.x 1)] false) (
.op (.bin .lss (.x 2) (.c (.v (.int .i64 0)))) (
.ite (.x 3)
 (.ret [(.c (.v (.int .i64 (-1))))])
 (.op (.call F.laws_szExp [(.agg [(.cell 0 5), (.cell 0 6), (.cell 0 7), (.cell 0 8), (.cell 0 9), (.cell 0 10), (.cell 0 11)]), (.x 2)] false) (
 .op (.bin .lss (.x 4) (.c (.v (.int .i64 0)))) (
 .ite (.x 5)
  (.ret [(.c (.v (.int .i64 (-1))))])
  (.ret [(.x 4)])))))))

theorem T.laws_szArm_l : leftF Try.prog CF Try.f145 = some (2, T.laws_szArm) := by kernel_rfl

theorem T.laws_szArm_con {args : List AV} {res : AV} (hl : args.length = 2) (hn : AV.norefs args = true) (hw : wpT Try.prog (fun _ _ _ => False) (fun a => a = res) T.laws_szArm args []) : PCon Try.prog F.laws_szArm args res :=
  con_auto Try.func145 T.laws_szArm_l hl hn hw

def T.spec_l2Node : T :=
.chk (.cells (.x 0) 7) (
.op (.lenL (.cell 0 5)) (
.bind 0 (
 .op (.bin .eql (.cell 0 0) (.c (.v (.int .i64 1)))) (
 .ite (.x 2)
  (.bind 1 (
   .chk (.cells (.x 0) 7) (
   .op (.call F.spec_l2Plain [(.x 0), (.c (.v (.string ⟨#[117]⟩)))] false) (
   .ite (.x 3)
    (.op (.bin .geq (.cell 0 2) (.c (.v (.int .i64 0)))) (
    .ite (.x 4)
     (.op (.bin .eql (.x 1) (.c (.v (.int .i64 0)))) (
     .jump [(.x 5)]))
     (.jump [(.c (.v (.bool false)))])))
    (.jump [(.c (.v (.bool false)))])))) (
  .esc (.ret [(.x 3)])))
  (.op (.bin .eql (.cell 0 0) (.c (.v (.int .i64 2)))) (
  .ite (.x 3)
   (.bind 1 (
    .chk (.cells (.x 0) 7) (
    .op (.call F.spec_l2Plain [(.x 0), (.c (.v (.string ⟨#[116]⟩)))] false) (
    .ite (.x 4)
     (.op (.call F.spec_l1Chars [(.cell 0 3)] false) (
     .ite (.x 5)
      (.op (.bin .eql (.x 1) (.c (.v (.int .i64 0)))) (
      .jump [(.x 6)]))
      (.jump [(.c (.v (.bool false)))])))
     (.jump [(.c (.v (.bool false)))])))) (
   .esc (.ret [(.x 4)])))
   (.op (.bin .eql (.cell 0 0) (.c (.v (.int .i64 3)))) (
   .ite (.x 4)
    (.bind 1 (
     .chk (.cells (.x 0) 7) (
     .op (.call F.spec_l2Plain [(.x 0), (.c (.v (.string ⟨#[117]⟩)))] false) (
     .ite (.x 5)
      (.op (.call F.spec_l1In [(.cell 0 2), (.c (.v (.int .i64 0))), (.c (.v (.int .i64 1)))] false) (
      .ite (.x 6)
       (.op (.bin .eql (.x 1) (.c (.v (.int .i64 0)))) (
       .jump [(.x 7)]))
       (.jump [(.c (.v (.bool false)))])))
      (.jump [(.c (.v (.bool false)))])))) (
    .esc (.ret [(.x 5)])))
    (.op (.bin .eql (.cell 0 0) (.c (.v (.int .i64 4)))) (
    .ite (.x 5)
     (.bind 1 (
      .chk (.cells (.x 0) 7) (
      .op (.call F.spec_l2Plain [(.x 0), (.c (.v (.string ⟨#[]⟩)))] false) (
      .ite (.x 6)
       (.op (.bin .eql (.x 1) (.c (.v (.int .i64 0)))) (
       .jump [(.x 7)]))
       (.jump [(.c (.v (.bool false)))])))) (
     .esc (.ret [(.x 6)])))
     (.op (.bin .eql (.cell 0 0) (.c (.v (.int .i64 5)))) (
     .ite (.x 6)
      (.bind 1 (
       .chk (.cells (.x 0) 7) (
       .op (.call F.spec_l2Plain [(.x 0), (.c (.v (.string ⟨#[110]⟩)))] false) (
       .ite (.x 7)
        (.op (.call F.spec_l1Low [(.cell 0 1)] false) (
        .ite (.x 8)
         (.op (.bin .eql (.x 1) (.c (.v (.int .i64 0)))) (
         .jump [(.x 9)]))
         (.jump [(.c (.v (.bool false)))])))
        (.jump [(.c (.v (.bool false)))])))) (
      .esc (.ret [(.x 7)])))
      (.op (.bin .eql (.cell 0 0) (.c (.v (.int .i64 6)))) (
      .ite (.x 7)
       (.bind 1 (
        .chk (.cells (.x 0) 7) (
        .op (.call F.spec_l2Plain [(.x 0), (.c (.v (.string ⟨#[110]⟩)))] false) (
        .ite (.x 8)
         (.op (.call F.spec_l1Name [(.cell 0 1), (.c (.v (.bool true)))] false) (
         .ite (.x 9)
          (.op (.bin .leq (.x 1) (.c (.v (.int .i64 1)))) (
          .jump [(.x 10)]))
          (.jump [(.c (.v (.bool false)))])))
         (.jump [(.c (.v (.bool false)))])))) (
       .esc (.ret [(.x 8)])))
       (.op (.bin .eql (.cell 0 0) (.c (.v (.int .i64 7)))) (
       .ite (.x 8)
        (.bind 1 (
         .chk (.cells (.x 0) 7) (
         .op (.call F.spec_l2Plain [(.x 0), (.c (.v (.string ⟨#[]⟩)))] false) (
         .ite (.x 9)
          (.op (.bin .geq (.x 1) (.c (.v (.int .i64 2)))) (
          .jump [(.x 10)]))
          (.jump [(.c (.v (.bool false)))])))) (
        .esc (.ret [(.x 9)])))
        (.op (.bin .eql (.cell 0 0) (.c (.v (.int .i64 8)))) (
        .ite (.x 9)
         (.bind 1 (
          .chk (.cells (.x 0) 7) (
          .op (.call F.spec_l2Plain [(.x 0), (.c (.v (.string ⟨#[110]⟩)))] false) (
          .ite (.x 10)
           (.op (.call F.spec_l1Low [(.cell 0 1)] false) (
           .ite (.x 11)
            (.op (.bin .eql (.x 1) (.c (.v (.int .i64 1)))) (
            .jump [(.x 12)]))
            (.jump [(.c (.v (.bool false)))])))
           (.jump [(.c (.v (.bool false)))])))) (
         .esc (.ret [(.x 10)])))
         (.op (.bin .eql (.cell 0 0) (.c (.v (.int .i64 9)))) (
         .ite (.x 10)
          (.bind 1 (
           .chk (.cells (.x 0) 7) (
           .op (.call F.spec_l2Plain [(.x 0), (.c (.v (.string ⟨#[]⟩)))] false) (
           .ite (.x 11)
            (.op (.bin .eql (.x 1) (.c (.v (.int .i64 2)))) (
            .jump [(.x 12)]))
            (.jump [(.c (.v (.bool false)))])))) (
          .esc (.ret [(.x 11)])))
          (.op (.bin .eql (.cell 0 0) (.c (.v (.int .i64 10)))) (
          .ite (.x 11)
           (.bind 1 (
            .chk (.cells (.x 0) 7) (
            .op (.call F.spec_l2Plain [(.x 0), (.c (.v (.string ⟨#[110]⟩)))] false) (
            .ite (.x 12)
             (.op (.call F.spec_l1Low [(.cell 0 1)] false) (
             .ite (.x 13)
              (.op (.bin .eql (.x 1) (.c (.v (.int .i64 2)))) (
              .jump [(.x 14)]))
              (.jump [(.c (.v (.bool false)))])))
             (.jump [(.c (.v (.bool false)))])))) (
           .esc (.ret [(.x 12)])))
           (.op (.bin .eql (.cell 0 0) (.c (.v (.int .i64 11)))) (
           .ite (.x 12)
            (.bind 1 (
             .chk (.cells (.x 0) 7) (
             .op (.call F.spec_l2Plain [(.x 0), (.c (.v (.string ⟨#[110, 116]⟩)))] false) (
             .ite (.x 13)
              (.op (.call F.spec_l1Low [(.cell 0 1)] false) (
              .ite (.x 14)
               (.op (.call F.spec_l1Low [(.cell 0 3)] false) (
               .ite (.x 15)
                (.op (.bin .eql (.x 1) (.c (.v (.int .i64 2)))) (
                .jump [(.x 16)]))
                (.jump [(.c (.v (.bool false)))])))
               (.jump [(.c (.v (.bool false)))])))
              (.jump [(.c (.v (.bool false)))])))) (
            .esc (.ret [(.x 13)])))
            (.op (.bin .eql (.cell 0 0) (.c (.v (.int .i64 12)))) (
            .ite (.x 13)
             (.bind 1 (
              .chk (.cells (.x 0) 7) (
              .op (.call F.spec_l2Plain [(.x 0), (.c (.v (.string ⟨#[]⟩)))] false) (
              .ite (.x 14)
               (.op (.bin .eql (.x 1) (.c (.v (.int .i64 3)))) (
               .jump [(.x 15)]))
               (.jump [(.c (.v (.bool false)))])))) (
             .esc (.ret [(.x 14)])))
             (.op (.bin .eql (.cell 0 0) (.c (.v (.int .i64 13)))) (
             .ite (.x 14)
              (.bind 1 (
               .chk (.cells (.x 0) 7) (
               .op (.call F.spec_l2Plain [(.x 0), (.c (.v (.string ⟨#[]⟩)))] false) (
               .ite (.x 15)
                (.op (.bin .eql (.x 1) (.c (.v (.int .i64 1)))) (
                .ite (.x 16)
                 (.op (.lenL (.cell 0 6)) (
                 .op (.bin .gtr (.x 17) (.c (.v (.int .i64 0)))) (
                 .jump [(.x 18)])))
                 (.jump [(.c (.v (.bool false)))])))
                (.jump [(.c (.v (.bool false)))])))) (
              .esc (.ret [(.x 15)])))
              (.op (.bin .eql (.cell 0 0) (.c (.v (.int .i64 14)))) (
              .ite (.x 15)
               (.bind 1 (
                .chk (.cells (.x 0) 7) (
                .op (.call F.spec_l2Plain [(.x 0), (.c (.v (.string ⟨#[110]⟩)))] false) (
                .ite (.x 16)
                 (.op (.call F.spec_l2Op [(.cell 0 1)] false) (
                 .ite (.x 17)
                  (.op (.bin .eql (.x 1) (.c (.v (.int .i64 2)))) (
                  .jump [(.x 18)]))
                  (.jump [(.c (.v (.bool false)))])))
                 (.jump [(.c (.v (.bool false)))])))) (
               .esc (.ret [(.x 16)])))
               (.op (.bin .eql (.cell 0 0) (.c (.v (.int .i64 15)))) (
               .ite (.x 16)
                (.bind 1 (
                 .chk (.cells (.x 0) 7) (
                 .op (.call F.spec_l2Plain [(.x 0), (.c (.v (.string ⟨#[110]⟩)))] false) (
                 .ite (.x 17)
                  (.op (.bin .eql (.cell 0 1) (.c (.v (.string ⟨#[114, 101, 97, 100]⟩)))) (
                  .ite (.x 18)
                   (.op (.bin .eql (.x 1) (.c (.v (.int .i64 0)))) (
                   .ite (.x 19)
                    (.jump [(.c (.v (.bool true)))])
                    (.op (.call F.spec_l2Prim [(.cell 0 1)] false) (
                    .ite (.x 20)
                     (.op (.bin .eql (.x 1) (.c (.v (.int .i64 1)))) (
                     .jump [(.x 21)]))
                     (.jump [(.c (.v (.bool false)))])))))
                   (.op (.call F.spec_l2Prim [(.cell 0 1)] false) (
                   .ite (.x 19)
                    (.op (.bin .eql (.x 1) (.c (.v (.int .i64 1)))) (
                    .jump [(.x 20)]))
                    (.jump [(.c (.v (.bool false)))])))))
                  (.jump [(.c (.v (.bool false)))])))) (
                .esc (.ret [(.x 17)])))
                (.jump []))))))))))))))))))))))))))))))) (
.ret [(.c (.v (.bool false)))])))

theorem T.spec_l2Node_l : leftF Try.prog CF Try.f146 = some (1, T.spec_l2Node) := by kernel_rfl

theorem T.spec_l2Node_con {args : List AV} {res : AV} (hl : args.length = 1) (hn : AV.norefs args = true) (hw : wpT Try.prog (fun _ _ _ => False) (fun a => a = res) T.spec_l2Node args []) : PCon Try.prog F.spec_l2Node args res :=
  con_auto Try.func146 T.spec_l2Node_l hl hn hw

def T.spec_l2PatOk : T :=
.chk (.cells (.x 0) 5) (
.op (.lenL (.cell 0 4)) (
.op (.bin .geq (.cell 0 3) (.c (.v (.int .i64 0)))) (
.op (.bin .eql (.cell 0 1) (.c (.v (.string ⟨#[]⟩)))) (
.op (.bin .eql (.cell 0 2) (.c (.v (.int .i64 0)))) (
.bind 1 (
 .bind 1 (
  .op (.bin .eql (.cell 0 0) (.c (.v (.int .i64 1)))) (
  .ite (.x 5)
   (.jump [(.x 5)])
   (.op (.bin .eql (.cell 0 0) (.c (.v (.int .i64 5)))) (
   .jump [(.x 6)])))) (
 .ite (.x 5)
  (.ite (.x 2)
   (.ite (.x 3)
    (.ite (.x 4)
     (.op (.bin .eql (.x 1) (.c (.v (.int .i64 0)))) (
     .jump [(.x 6)]))
     (.jump [(.c (.v (.bool false)))]))
    (.jump [(.c (.v (.bool false)))]))
   (.jump [(.c (.v (.bool false)))]))
  (.op (.bin .eql (.cell 0 0) (.c (.v (.int .i64 2)))) (
  .ite (.x 6)
   (.ite (.x 2)
    (.op (.call F.spec_l1Low [(.cell 0 1)] false) (
    .ite (.x 7)
     (.ite (.x 4)
      (.op (.bin .eql (.x 1) (.c (.v (.int .i64 0)))) (
      .jump [(.x 8)]))
      (.jump [(.c (.v (.bool false)))]))
     (.jump [(.c (.v (.bool false)))])))
    (.jump [(.c (.v (.bool false)))]))
   (.op (.bin .eql (.cell 0 0) (.c (.v (.int .i64 3)))) (
   .ite (.x 7)
    (.ite (.x 2)
     (.ite (.x 3)
      (.op (.bin .geq (.cell 0 2) (.c (.v (.int .i64 0)))) (
      .ite (.x 8)
       (.op (.bin .eql (.x 1) (.c (.v (.int .i64 0)))) (
       .jump [(.x 9)]))
       (.jump [(.c (.v (.bool false)))])))
      (.jump [(.c (.v (.bool false)))]))
     (.jump [(.c (.v (.bool false)))]))
    (.op (.bin .eql (.cell 0 0) (.c (.v (.int .i64 4)))) (
    .ite (.x 8)
     (.ite (.x 2)
      (.ite (.x 3)
       (.op (.call F.spec_l1In [(.cell 0 2), (.c (.v (.int .i64 0))), (.c (.v (.int .i64 1)))] false) (
       .ite (.x 9)
        (.op (.bin .eql (.x 1) (.c (.v (.int .i64 0)))) (
        .jump [(.x 10)]))
        (.jump [(.c (.v (.bool false)))])))
       (.jump [(.c (.v (.bool false)))]))
      (.jump [(.c (.v (.bool false)))]))
     (.op (.bin .eql (.cell 0 0) (.c (.v (.int .i64 6)))) (
     .ite (.x 9)
      (.ite (.x 2)
       (.ite (.x 3)
        (.ite (.x 4)
         (.op (.bin .geq (.x 1) (.c (.v (.int .i64 2)))) (
         .jump [(.x 10)]))
         (.jump [(.c (.v (.bool false)))]))
        (.jump [(.c (.v (.bool false)))]))
       (.jump [(.c (.v (.bool false)))]))
      (.op (.bin .eql (.cell 0 0) (.c (.v (.int .i64 7)))) (
      .ite (.x 10)
       (.ite (.x 2)
        (.op (.call F.spec_l1Name [(.cell 0 1), (.c (.v (.bool true)))] false) (
        .ite (.x 11)
         (.ite (.x 4)
          (.op (.bin .leq (.x 1) (.c (.v (.int .i64 1)))) (
          .jump [(.x 12)]))
          (.jump [(.c (.v (.bool false)))]))
         (.jump [(.c (.v (.bool false)))])))
        (.jump [(.c (.v (.bool false)))]))
       (.esc (.ret [(.c (.v (.bool false)))])))))))))))))) (
.bind 1 (
 .loop [(.x 5), (.c (.v (.int .i64 0)))] (
  .bind 0 (
   .bind 1 (
    .op (.bin .lss (.x 7) (.x 1)) (
    .ite (.x 8)
     (.jump [(.x 6)])
     (.jump [(.c (.v (.bool false)))]))) (
   .ite (.x 8)
    (.jump [])
    (.esc (.esc (.jump [(.x 6)]))))) (
  .op (.elem 5 (.cell 0 4) (.x 7)) (
  .chk (.cells (.x 8) 5) (
  .op (.call F.spec_l2PatOk [(.x 8)] false) (
  .op (.bin .add (.x 7) (.c (.v (.int .i64 1)))) (
  .jump [(.x 9), (.x 10)]))))))) (
.ret [(.x 6)])))))))

theorem T.spec_l2PatOk_l : leftF Try.prog CF Try.f147 = some (1, T.spec_l2PatOk) := by kernel_rfl

theorem T.spec_l2PatOk_con {args : List AV} {res : AV} (hl : args.length = 1) (hn : AV.norefs args = true) (hw : wpT Try.prog (fun _ _ _ => False) (fun a => a = res) T.spec_l2PatOk args []) : PCon Try.prog F.spec_l2PatOk args res :=
  con_auto Try.func147 T.spec_l2PatOk_l hl hn hw

def T.spec_l19Name : T :=
.op (.call F.spec_l19Bound [(.x 0), (.x 2)] false) (
.bind 1 (
 .op (.call F.spec_l19Bound [(.x 1), (.x 3)] false) (
 .op (.bin .eql (.x 4) (.x 5)) (
 .ite (.x 6)
  (.op (.bin .geq (.x 4) (.c (.v (.int .i64 0)))) (
  .ite (.x 7)
   (.jump [(.c (.v (.bool true)))])
   (.op (.bin .eql (.x 2) (.x 3)) (
   .jump [(.x 8)]))))
  (.jump [(.c (.v (.bool false)))])))) (
.ret [(.x 5)]))

theorem T.spec_l19Name_l : leftF Try.prog CF Try.f148 = some (4, T.spec_l19Name) := by kernel_rfl

theorem T.spec_l19Name_con {args : List AV} {res : AV} (hl : args.length = 4) (hn : AV.norefs args = true) (hw : wpT Try.prog (fun _ _ _ => False) (fun a => a = res) T.spec_l19Name args []) : PCon Try.prog F.spec_l19Name args res :=
  con_auto Try.func148 T.spec_l19Name_l hl hn hw

def T.spec_l5With : T :=
.op (.mkl (.v (.string ⟨#[]⟩)) 0 []) (
.op (.app 1 16 (.x 2) (.x 0)) (
.op (.app 1 16 (.x 3) (.x 1)) (
.ret [(.sl (.x 4))])))

theorem T.spec_l5With_l : leftF Try.prog CF Try.f149 = some (2, T.spec_l5With) := by kernel_rfl

theorem T.spec_l5With_con {args : List AV} {res : AV} (hl : args.length = 2) (hn : AV.norefs args = true) (hw : wpT Try.prog (fun _ _ _ => False) (fun a => a = res) T.spec_l5With args []) : PCon Try.prog F.spec_l5With args res :=
  con_auto Try.func149 T.spec_l5With_l hl hn hw

def T.spec_l19Pats : T :=
.chk (.cells (.x 0) 5) (
.chk (.cells (.x 1) 5) (
.bind 0 (
 .bind 1 (
  .op (.bin .neq (.cell 0 0) (.cell 1 0)) (
  .ite (.x 4)
   (.jump [(.c (.v (.bool true)))])
   (.op (.bin .neq (.cell 0 2) (.cell 1 2)) (
   .ite (.x 5)
    (.jump [(.c (.v (.bool true)))])
    (.op (.lenL (.cell 0 4)) (
    .op (.lenL (.cell 1 4)) (
    .op (.bin .neq (.x 6) (.x 7)) (
    .ite (.x 8)
     (.jump [(.c (.v (.bool true)))])
     (.op (.bin .neq (.cell 0 0) (.c (.v (.int .i64 2)))) (
     .ite (.x 9)
      (.op (.bin .neq (.cell 0 1) (.cell 1 1)) (
      .jump [(.x 10)]))
      (.jump [(.c (.v (.bool false)))]))))))))))) (
 .ite (.x 4)
  (.esc (.ret [(.x 2), (.x 3), (.c (.v (.bool false)))]))
  (.jump []))) (
.op (.bin .eql (.cell 0 0) (.c (.v (.int .i64 2)))) (
.ite (.x 4)
 (.chk (.one (.cell 0 1)) (
 .op (.mkl (.v (.string ⟨#[]⟩)) 1 [(0, (.cell 0 1))]) (
 .op (.call F.spec_l5With [(.x 2), (.x 5)] false) (
 .chk (.one (.cell 1 1)) (
 .op (.mkl (.v (.string ⟨#[]⟩)) 1 [(0, (.cell 1 1))]) (
 .op (.call F.spec_l5With [(.x 3), (.x 7)] false) (
 .ret [(.x 6), (.x 8), (.c (.v (.bool true)))])))))))
 (.bind 2 (
  .loop [(.x 2), (.x 3), (.c (.v (.int .i64 0)))] (
   .op (.lenL (.cell 0 4)) (
   .op (.bin .lss (.x 7) (.x 8)) (
   .ite (.x 9)
    (.op (.elem 5 (.cell 0 4) (.x 7)) (
    .chk (.cells (.x 10) 5) (
    .op (.elem 5 (.cell 1 4) (.x 7)) (
    .chk (.cells (.x 11) 5) (
    .op (.call F.spec_l19Pats [(.x 10), (.x 11), (.x 5), (.x 6)] false) (
    .chk (.tup (.x 12) 0) (
    .chk (.tup (.x 12) 1) (
    .chk (.tup (.x 12) 2) (
    .op (.un .not (.ext 12 2)) (
    .ite (.x 13)
     (.esc (.esc (.ret [(.x 5), (.x 6), (.c (.v (.bool false)))])))
     (.op (.bin .add (.x 7) (.c (.v (.int .i64 1)))) (
     .jump [(.ext 12 0), (.ext 12 1), (.x 14)]))))))))))))
    (.esc (.jump [(.x 5), (.x 6)])))))) (
 .ret [(.x 5), (.x 6), (.c (.v (.bool true)))]))))))

theorem T.spec_l19Pats_l : leftF Try.prog CF Try.f150 = some (4, T.spec_l19Pats) := by kernel_rfl

theorem T.spec_l19Pats_con {args : List AV} {res : AV} (hl : args.length = 4) (hn : AV.norefs args = true) (hw : wpT Try.prog (fun _ _ _ => False) (fun a => a = res) T.spec_l19Pats args []) : PCon Try.prog F.spec_l19Pats args res :=
  con_auto Try.func150 T.spec_l19Pats_l hl hn hw

def T.laws_toArm : T :=
.chk (.cells (.x 0) 12) (
.op (.call F.laws_toPat [(.agg [(.cell 0 0), (.cell 0 1), (.cell 0 2), (.cell 0 3), (.cell 0 4)])] false) (
.chk (.cells (.x 1) 5) (
.op (.call F.laws_toExp [(.agg [(.cell 0 5), (.cell 0 6), (.cell 0 7), (.cell 0 8), (.cell 0 9), (.cell 0 10), (.cell 0 11)])] false) (
.chk (.cells (.x 2) 7) (
.chk (.cells (.agg [(.cell 1 0), (.cell 1 1), (.cell 1 2), (.cell 1 3), (.cell 1 4), (.cell 2 0), (.cell 2 1), (.cell 2 2), (.cell 2 3), (.cell 2 4), (.cell 2 5), (.cell 2 6)]) 12) (
.ret [(.agg [(.cell 1 0), (.cell 1 1), (.cell 1 2), (.cell 1 3), (.cell 1 4), (.cell 2 0), (.cell 2 1), (.cell 2 2), (.cell 2 3), (.cell 2 4), (.cell 2 5), (.cell 2 6)])]))))))

theorem T.laws_toArm_l : leftF Try.prog CF Try.f151 = some (1, T.laws_toArm) := by kernel_rfl

theorem T.laws_toArm_con {args : List AV} {res : AV} (hl : args.length = 1) (hn : AV.norefs args = true) (hw : wpT Try.prog (fun _ _ _ => False) (fun a => a = res) T.laws_toArm args []) : PCon Try.prog F.laws_toArm args res :=
  con_auto Try.func151 T.laws_toArm_l hl hn hw

def T.laws_eqArm : T :=
.chk (.cells (.x 0) 12) (
.chk (.cells (.x 1) 12) (
.op (.call F.laws_eqPat [(.agg [(.cell 0 0), (.cell 0 1), (.cell 0 2), (.cell 0 3), (.cell 0 4)]), (.agg [(.cell 1 0), (.cell 1 1), (.cell 1 2), (.cell 1 3), (.cell 1 4)])] false) (
.op (.un .not (.x 2)) (
.ite (.x 3)
 (.ret [(.c (.v (.bool false)))])
 (.op (.call F.laws_eqExp [(.agg [(.cell 0 5), (.cell 0 6), (.cell 0 7), (.cell 0 8), (.cell 0 9), (.cell 0 10), (.cell 0 11)]), (.agg [(.cell 1 5), (.cell 1 6), (.cell 1 7), (.cell 1 8), (.cell 1 9), (.cell 1 10), (.cell 1 11)])] false) (
 .op (.un .not (.x 4)) (
 .ite (.x 5)
  (.ret [(.c (.v (.bool false)))])
  (.ret [(.c (.v (.bool true)))]))))))))

theorem T.laws_eqArm_l : leftF Try.prog CF Try.f152 = some (2, T.laws_eqArm) := by kernel_rfl

theorem T.laws_eqArm_con {args : List AV} {res : AV} (hl : args.length = 2) (hn : AV.norefs args = true) (hw : wpT Try.prog (fun _ _ _ => False) (fun a => a = res) T.laws_eqArm args []) : PCon Try.prog F.laws_eqArm args res :=
  con_auto Try.func152 T.laws_eqArm_l hl hn hw

def T.laws_szKVal : T :=
.chk (.cells (.x 0) 4) (
.op (.lenS (.cell 0 3)) (
.op (.bin .sub (.x 1) (.x 2)) (
.op (.bin .lss (.x 3) (.c (.v (.int .i64 0)))) (
.ite (.x 4)
 (.ret [(.c (.v (.int .i64 (-1))))])
 (.ret [(.x 3)])))))

theorem T.laws_szKVal_l : leftF Try.prog CF Try.f153 = some (2, T.laws_szKVal) := by kernel_rfl

theorem T.laws_szKVal_con {args : List AV} {res : AV} (hl : args.length = 2) (hn : AV.norefs args = true) (hw : wpT Try.prog (fun _ _ _ => False) (fun a => a = res) T.laws_szKVal args []) : PCon Try.prog F.laws_szKVal args res :=
  con_auto Try.func153 T.laws_szKVal_l hl hn hw

def T.spec_KSize : T :=
.chk (.cells (.x 0) 11) (
.bind 1 (
 .loop [(.c (.v (.int .i64 1))), (.c (.v (.int .i64 0)))] (
  .op (.lenL (.cell 0 10)) (
  .op (.bin .lss (.x 2) (.x 3)) (
  .ite (.x 4)
   (.op (.elem 11 (.cell 0 10) (.x 2)) (
   .chk (.cells (.x 5) 11) (
   .op (.call F.spec_KSize [(.x 5)] false) (
   .op (.bin .add (.x 1) (.x 6)) (
   .op (.bin .add (.x 2) (.c (.v (.int .i64 1)))) (
   .jump [(.x 7), (.x 8)]))))))
   (.esc (.jump [(.x 1)])))))) (
.ret [(.x 1)]))

theorem T.spec_KSize_l : leftF Try.prog CF Try.f154 = some (1, T.spec_KSize) := by kernel_rfl

theorem T.spec_KSize_con {args : List AV} {res : AV} (hl : args.length = 1) (hn : AV.norefs args = true) (hw : wpT Try.prog (fun _ _ _ => False) (fun a => a = res) T.spec_KSize args []) : PCon Try.prog F.spec_KSize args res :=
  con_auto Try.func154 T.spec_KSize_l hl hn hw

def T.spec_l13Binds : T :=
.chk (.cells (.x 0) 11) (
.bind 1 (
 .op (.call F.spec_l1In [(.cell 0 0), (.c (.v (.int .i64 1))), (.c (.v (.int .i64 9)))] false) (
 .ite (.x 1)
  (.jump [(.c (.v (.bool true)))])
  (.op (.bin .eql (.cell 0 0) (.c (.v (.int .i64 18)))) (
  .jump [(.x 2)])))) (
.ret [(.x 1)]))

theorem T.spec_l13Binds_l : leftF Try.prog CF Try.f155 = some (1, T.spec_l13Binds) := by kernel_rfl

theorem T.spec_l13Binds_con {args : List AV} {res : AV} (hl : args.length = 1) (hn : AV.norefs args = true) (hw : wpT Try.prog (fun _ _ _ => False) (fun a => a = res) T.spec_l13Binds args []) : PCon Try.prog F.spec_l13Binds args res :=
  con_auto Try.func155 T.spec_l13Binds_l hl hn hw

def T.spec_l13Kid : T :=
.chk (.cells (.x 0) 11) (
.bind 0 (
 .bind 1 (
  .chk (.cells (.x 0) 11) (
  .op (.call F.spec_l13Binds [(.x 0)] false) (
  .ite (.x 3)
   (.op (.lenL (.cell 0 10)) (
   .op (.bin .sub (.x 4) (.c (.v (.int .i64 1)))) (
   .op (.bin .eql (.x 1) (.x 5)) (
   .jump [(.x 6)]))))
   (.jump [(.c (.v (.bool false)))])))) (
 .ite (.x 3)
  (.op (.bin .add (.x 2) (.c (.v (.int .i64 1)))) (
  .esc (.ret [(.x 4)])))
  (.jump []))) (
.ret [(.x 2)]))

theorem T.spec_l13Kid_l : leftF Try.prog CF Try.f156 = some (3, T.spec_l13Kid) := by kernel_rfl

theorem T.spec_l13Kid_con {args : List AV} {res : AV} (hl : args.length = 3) (hn : AV.norefs args = true) (hw : wpT Try.prog (fun _ _ _ => False) (fun a => a = res) T.spec_l13Kid args []) : PCon Try.prog F.spec_l13Kid args res :=
  con_auto Try.func156 T.spec_l13Kid_l hl hn hw

def T.spec_l13Most : T :=
.chk (.cells (.x 0) 11) (
.bind 1 (
 .loop [(.x 1), (.c (.v (.int .i64 0)))] (
  .op (.lenL (.cell 0 10)) (
  .op (.bin .lss (.x 3) (.x 4)) (
  .ite (.x 5)
   (.bind 1 (
    .op (.elem 11 (.cell 0 10) (.x 3)) (
    .chk (.cells (.x 6) 11) (
    .chk (.cells (.x 0) 11) (
    .op (.call F.spec_l13Kid [(.x 0), (.x 3), (.x 1)] true) (
    .op (.call F.spec_l13Most [(.x 6), (.x 7)] true) (
    .op (.bin .gtr (.x 8) (.x 2)) (
    .ite (.x 9)
     (.jump [(.x 8)])
     (.jump [(.x 2)])))))))) (
   .op (.bin .add (.x 3) (.c (.v (.int .i64 1)))) (
   .jump [(.x 6), (.x 7)])))
   (.esc (.jump [(.x 2)])))))) (
.ret [(.x 2)]))

theorem T.spec_l13Most_l : leftF Try.prog CF Try.f157 = some (2, T.spec_l13Most) := by kernel_rfl

theorem T.spec_l13Most_con {args : List AV} {res : AV} (hl : args.length = 2) (hn : AV.norefs args = true) (hw : wpT Try.prog (fun _ _ _ => False) (fun a => a = res) T.spec_l13Most args []) : PCon Try.prog F.spec_l13Most args res :=
  con_auto Try.func157 T.spec_l13Most_l hl hn hw

def T.laws_toKVal : T :=
.chk (.cells (.x 0) 4) (
.chk (.one (.cell 0 0)) (
.chk (.one (.cell 0 1)) (
.chk (.one (.cell 0 2)) (
.chk (.one (.cell 0 3)) (
.chk (.cells (.x 0) 4) (
.chk (.cells (.x 0) 4) (
.ret [(.agg [(.cell 0 0), (.cell 0 1), (.cell 0 2), (.cell 0 3)])])))))))

theorem T.laws_toKVal_l : leftF Try.prog CF Try.f158 = some (1, T.laws_toKVal) := by kernel_rfl

theorem T.laws_toKVal_con {args : List AV} {res : AV} (hl : args.length = 1) (hn : AV.norefs args = true) (hw : wpT Try.prog (fun _ _ _ => False) (fun a => a = res) T.laws_toKVal args []) : PCon Try.prog F.laws_toKVal args res :=
  con_auto Try.func158 T.laws_toKVal_l hl hn hw

def T.impl_binding : T :=
.chk (.cells (.x 0) 11) (
.bind 1 (
 .op (.call F.impl_within [(.cell 0 0), (.c (.v (.int .i64 1))), (.c (.v (.int .i64 9)))] false) (
 .ite (.x 1)
  (.jump [(.c (.v (.bool true)))])
  (.op (.bin .eql (.cell 0 0) (.c (.v (.int .i64 18)))) (
  .jump [(.x 2)])))) (
.ret [(.x 1)]))

theorem T.impl_binding_l : leftF Try.prog CF Try.f159 = some (1, T.impl_binding) := by kernel_rfl

theorem T.impl_binding_con {args : List AV} {res : AV} (hl : args.length = 1) (hn : AV.norefs args = true) (hw : wpT Try.prog (fun _ _ _ => False) (fun a => a = res) T.impl_binding args []) : PCon Try.prog F.impl_binding args res :=
  con_auto Try.func159 T.impl_binding_l hl hn hw

def T.impl_homeScope : T :=
.chk (.cells (.x 0) 11) (
.bind 0 (
 .bind 1 (
  .chk (.cells (.x 0) 11) (
  .op (.call F.impl_binding [(.x 0)] false) (
  .ite (.x 3)
   (.op (.lenL (.cell 0 10)) (
   .op (.bin .sub (.x 4) (.c (.v (.int .i64 1)))) (
   .op (.bin .eql (.x 1) (.x 5)) (
   .jump [(.x 6)]))))
   (.jump [(.c (.v (.bool false)))])))) (
 .ite (.x 3)
  (.op (.bin .add (.x 2) (.c (.v (.int .i64 1)))) (
  .esc (.ret [(.x 4)])))
  (.jump []))) (
.ret [(.x 2)]))

theorem T.impl_homeScope_l : leftF Try.prog CF Try.f160 = some (3, T.impl_homeScope) := by kernel_rfl

theorem T.impl_homeScope_con {args : List AV} {res : AV} (hl : args.length = 3) (hn : AV.norefs args = true) (hw : wpT Try.prog (fun _ _ _ => False) (fun a => a = res) T.impl_homeScope args []) : PCon Try.prog F.impl_homeScope args res :=
  con_auto Try.func160 T.impl_homeScope_l hl hn hw

def T.impl_greatestScope : T :=
.chk (.cells (.x 0) 11) (
.bind 1 (
 .op (.lenL (.cell 0 10)) (
 .loop [(.x 1), (.c (.v (.int .i64 0)))] (
  .op (.bin .lss (.x 4) (.x 2)) (
  .ite (.x 5)
   (.op (.elem 11 (.cell 0 10) (.x 4)) (
   .chk (.cells (.x 6) 11) (
   .chk (.cells (.x 6) 11) (
   .chk (.cells (.x 6) 11) (
   .chk (.cells (.x 0) 11) (
   .op (.call F.impl_homeScope [(.x 0), (.x 4), (.x 1)] true) (
   .op (.call F.impl_greatestScope [(.x 6), (.x 7)] true) (
   .op (.pu .max [(.x 3), (.x 8)]) (
   .op (.bin .add (.x 4) (.c (.v (.int .i64 1)))) (
   .jump [(.x 9), (.x 10)]))))))))))
   (.esc (.jump [(.x 3)])))))) (
.ret [(.x 2)]))

theorem T.impl_greatestScope_l : leftF Try.prog CF Try.f161 = some (2, T.impl_greatestScope) := by kernel_rfl

theorem T.impl_greatestScope_con {args : List AV} {res : AV} (hl : args.length = 2) (hn : AV.norefs args = true) (hw : wpT Try.prog (fun _ _ _ => False) (fun a => a = res) T.impl_greatestScope args []) : PCon Try.prog F.impl_greatestScope args res :=
  con_auto Try.func161 T.impl_greatestScope_l hl hn hw

def T.laws_eqKVal : T :=
.chk (.cells (.x 0) 4) (
.chk (.cells (.x 1) 4) (
.op (.bin .neq (.cell 0 0) (.cell 1 0)) (
.ite (.x 2)
 (.ret [(.c (.v (.bool false)))])
 (.op (.bin .neq (.cell 0 1) (.cell 1 1)) (
 .ite (.x 3)
  (.ret [(.c (.v (.bool false)))])
  (.op (.bin .neq (.cell 0 2) (.cell 1 2)) (
  .ite (.x 4)
   (.ret [(.c (.v (.bool false)))])
   (.op (.bin .neq (.cell 0 3) (.cell 1 3)) (
   .ite (.x 5)
    (.ret [(.c (.v (.bool false)))])
    (.ret [(.c (.v (.bool true)))]))))))))))

theorem T.laws_eqKVal_l : leftF Try.prog CF Try.f162 = some (2, T.laws_eqKVal) := by kernel_rfl

theorem T.laws_eqKVal_con {args : List AV} {res : AV} (hl : args.length = 2) (hn : AV.norefs args = true) (hw : wpT Try.prog (fun _ _ _ => False) (fun a => a = res) T.laws_eqKVal args []) : PCon Try.prog F.laws_eqKVal args res :=
  con_auto Try.func162 T.laws_eqKVal_l hl hn hw

def T.spec_TySize : T :=
.chk (.cells (.x 0) 4) (
.bind 1 (
 .loop [(.c (.v (.int .i64 1))), (.c (.v (.int .i64 0)))] (
  .op (.lenL (.cell 0 3)) (
  .op (.bin .lss (.x 2) (.x 3)) (
  .ite (.x 4)
   (.op (.elem 4 (.cell 0 3) (.x 2)) (
   .chk (.cells (.x 5) 4) (
   .op (.call F.spec_TySize [(.x 5)] false) (
   .op (.bin .add (.x 1) (.x 6)) (
   .op (.bin .add (.x 2) (.c (.v (.int .i64 1)))) (
   .jump [(.x 7), (.x 8)]))))))
   (.esc (.jump [(.x 1)])))))) (
.ret [(.x 1)]))

theorem T.spec_TySize_l : leftF Try.prog CF Try.f163 = some (1, T.spec_TySize) := by kernel_rfl

theorem T.spec_TySize_con {args : List AV} {res : AV} (hl : args.length = 1) (hn : AV.norefs args = true) (hw : wpT Try.prog (fun _ _ _ => False) (fun a => a = res) T.spec_TySize args []) : PCon Try.prog F.spec_TySize args res :=
  con_auto Try.func163 T.spec_TySize_l hl hn hw

-- spec_l4Add: no walk
-- slices_Concat__impl_Ty_impl_Ty: no walk
def T.impl_TySize : T :=
.chk (.cells (.x 0) 4) (
.bind 1 (
 .op (.lenL (.cell 0 3)) (
 .loop [(.c (.v (.int .i64 1))), (.c (.v (.int .i64 0)))] (
  .op (.bin .lss (.x 3) (.x 1)) (
  .ite (.x 4)
   (.op (.elem 4 (.cell 0 3) (.x 3)) (
   .chk (.cells (.x 5) 4) (
   .chk (.cells (.x 5) 4) (
   .chk (.cells (.x 5) 4) (
   .op (.call F.impl_TySize [(.x 5)] false) (
   .op (.bin .add (.x 2) (.x 6)) (
   .op (.bin .add (.x 3) (.c (.v (.int .i64 1)))) (
   .jump [(.x 7), (.x 8)]))))))))
   (.esc (.jump [(.x 2)])))))) (
.ret [(.x 1)]))

theorem T.impl_TySize_l : leftF Try.prog CF Try.f166 = some (1, T.impl_TySize) := by kernel_rfl

theorem T.impl_TySize_con {args : List AV} {res : AV} (hl : args.length = 1) (hn : AV.norefs args = true) (hw : wpT Try.prog (fun _ _ _ => False) (fun a => a = res) T.impl_TySize args []) : PCon Try.prog F.impl_TySize args res :=
  con_auto Try.func166 T.impl_TySize_l hl hn hw

def T.slices_ContainsFunc__int_int : T :=
.op (.call F.slices_IndexFunc__int_int [(.x 0), (.x 1)] false) (
.op (.bin .geq (.x 2) (.c (.v (.int .i64 0)))) (
.ret [(.x 3)]))

theorem T.slices_ContainsFunc__int_int_l : leftF Try.prog CF Try.f167 = some (2, T.slices_ContainsFunc__int_int) := by kernel_rfl

theorem T.slices_ContainsFunc__int_int_con {args : List AV} {res : AV} (hl : args.length = 2) (hn : AV.norefs args = true) (hw : wpT Try.prog (fun _ _ _ => False) (fun a => a = res) T.slices_ContainsFunc__int_int args []) : PCon Try.prog F.slices_ContainsFunc__int_int args res :=
  con_auto Try.func167 T.slices_ContainsFunc__int_int_l hl hn hw

def T.impl_unifyOk_1 : T :=
.op (.ldp none (.x 1)) (
.op (.bin .geq (.x 0) (.x 2)) (
.ret [(.x 3)]))

theorem T.impl_unifyOk_1_l : leftF Try.prog CF Try.f168 = some (2, T.impl_unifyOk_1) := by kernel_rfl

theorem T.impl_unifyOk_1_con {args : List AV} {res : AV} (hl : args.length = 2) (hn : AV.norefs args = true) (hw : wpT Try.prog (fun _ _ _ => False) (fun a => a = res) T.impl_unifyOk_1 args []) : PCon Try.prog F.impl_unifyOk_1 args res :=
  con_auto Try.func168 T.impl_unifyOk_1_l hl hn hw

-- impl_find: no walk
def T.impl_plain : T :=
.bind 0 (
 .loop [(.c (.v (.int .i64 0)))] (
  .op (.lenS (.x 0)) (
  .op (.bin .lss (.x 1) (.x 2)) (
  .ite (.x 3)
   (.bind 0 (
    .bind 1 (
     .op (.idxS (.x 0) (.x 1)) (
     .op (.conv .i64 (.x 4)) (
     .op (.call F.impl_within [(.x 5), (.c (.v (.int .i64 32))), (.c (.v (.int .i64 126)))] false) (
     .op (.un .not (.x 6)) (
     .ite (.x 7)
      (.op (.idxS (.x 0) (.x 1)) (
      .op (.bin .neq (.x 8) (.c (.v (.int .u8 10)))) (
      .jump [(.x 9)])))
      (.jump [(.c (.v (.bool false)))])))))) (
    .ite (.x 4)
     (.esc (.esc (.esc (.ret [(.c (.v (.bool false)))]))))
     (.jump []))) (
   .op (.bin .add (.x 1) (.c (.v (.int .i64 1)))) (
   .jump [(.x 4)])))
   (.esc (.jump [])))))) (
.ret [(.c (.v (.bool true)))])

theorem T.impl_plain_l : leftF Try.prog CF Try.f170 = some (1, T.impl_plain) := by kernel_rfl

theorem T.impl_plain_con {args : List AV} {res : AV} (hl : args.length = 1) (hn : AV.norefs args = true) (hw : wpT Try.prog (fun _ _ _ => False) (fun a => a = res) T.impl_plain args []) : PCon Try.prog F.impl_plain args res :=
  con_auto Try.func170 T.impl_plain_l hl hn hw

def T.impl_lowOk : T :=
.bind 1 (
 .op (.call F.impl_isName [(.x 0), (.c (.fn F.impl_small []))] false) (
 .ite (.x 1)
  (.op (.call F.impl_isKey [(.x 0)] false) (
  .op (.un .not (.x 2)) (
  .jump [(.x 3)])))
  (.jump [(.c (.v (.bool false)))]))) (
.ret [(.x 1)])

theorem T.impl_lowOk_l : leftF Try.prog CF Try.f171 = some (1, T.impl_lowOk) := by kernel_rfl

theorem T.impl_lowOk_con {args : List AV} {res : AV} (hl : args.length = 1) (hn : AV.norefs args = true) (hw : wpT Try.prog (fun _ _ _ => False) (fun a => a = res) T.impl_lowOk args []) : PCon Try.prog F.impl_lowOk args res :=
  con_auto Try.func171 T.impl_lowOk_l hl hn hw

def T.impl_upOk : T :=
.op (.call F.impl_isName [(.x 0), (.c (.fn F.impl_great []))] false) (
.ret [(.x 1)])

theorem T.impl_upOk_l : leftF Try.prog CF Try.f172 = some (1, T.impl_upOk) := by kernel_rfl

theorem T.impl_upOk_con {args : List AV} {res : AV} (hl : args.length = 1) (hn : AV.norefs args = true) (hw : wpT Try.prog (fun _ _ _ => False) (fun a => a = res) T.impl_upOk args []) : PCon Try.prog F.impl_upOk args res :=
  con_auto Try.func172 T.impl_upOk_l hl hn hw

def T.impl_binarySign : T :=
.chk (.one (.c (.v (.string ⟨#[43]⟩)))) (
.chk (.one (.c (.v (.string ⟨#[45]⟩)))) (
.chk (.one (.c (.v (.string ⟨#[42]⟩)))) (
.chk (.one (.c (.v (.string ⟨#[94]⟩)))) (
.chk (.one (.c (.v (.string ⟨#[61]⟩)))) (
.chk (.one (.c (.v (.string ⟨#[60]⟩)))) (
.chk (.one (.c (.v (.string ⟨#[58, 61]⟩)))) (
.op (.mkl (.v (.string ⟨#[]⟩)) 7 [(0, (.c (.v (.string ⟨#[43]⟩)))), (1, (.c (.v (.string ⟨#[45]⟩)))), (2, (.c (.v (.string ⟨#[42]⟩)))), (3, (.c (.v (.string ⟨#[94]⟩)))), (4, (.c (.v (.string ⟨#[61]⟩)))), (5, (.c (.v (.string ⟨#[60]⟩)))), (6, (.c (.v (.string ⟨#[58, 61]⟩))))]) (
.op (.call F.slices_Contains__string_string [(.sl (.x 1)), (.x 0)] true) (
.ret [(.x 2)])))))))))

theorem T.impl_binarySign_l : leftF Try.prog CF Try.f173 = some (1, T.impl_binarySign) := by kernel_rfl

theorem T.impl_binarySign_con {args : List AV} {res : AV} (hl : args.length = 1) (hn : AV.norefs args = true) (hw : wpT Try.prog (fun _ _ _ => False) (fun a => a = res) T.impl_binarySign args []) : PCon Try.prog F.impl_binarySign args res :=
  con_auto Try.func173 T.impl_binarySign_l hl hn hw

def T.impl_primArity : T :=
.bind 0 (
 .op (.bin .eql (.x 0) (.c (.v (.string ⟨#[114, 101, 97, 100]⟩)))) (
 .ite (.x 1)
  (.esc (.ret [(.c (.v (.int .i64 0)))]))
  (.bind 1 (
   .op (.bin .eql (.x 0) (.c (.v (.string ⟨#[112, 114, 105, 110, 116]⟩)))) (
   .ite (.x 2)
    (.jump [(.x 2)])
    (.op (.bin .eql (.x 0) (.c (.v (.string ⟨#[101, 120, 105, 116]⟩)))) (
    .ite (.x 3)
     (.jump [(.x 3)])
     (.op (.bin .eql (.x 0) (.c (.v (.string ⟨#[115, 105, 122, 101]⟩)))) (
     .ite (.x 4)
      (.jump [(.x 4)])
      (.op (.bin .eql (.x 0) (.c (.v (.string ⟨#[114, 101, 102]⟩)))) (
      .ite (.x 5)
       (.jump [(.x 5)])
       (.op (.bin .eql (.x 0) (.c (.v (.string ⟨#[33]⟩)))) (
       .jump [(.x 6)])))))))))) (
  .ite (.x 2)
   (.esc (.ret [(.c (.v (.int .i64 1)))]))
   (.jump []))))) (
.ret [(.c (.v (.int .i64 (-1))))])

theorem T.impl_primArity_l : leftF Try.prog CF Try.f174 = some (1, T.impl_primArity) := by kernel_rfl

theorem T.impl_primArity_con {args : List AV} {res : AV} (hl : args.length = 1) (hn : AV.norefs args = true) (hw : wpT Try.prog (fun _ _ _ => False) (fun a => a = res) T.impl_primArity args []) : PCon Try.prog F.impl_primArity args res :=
  con_auto Try.func174 T.impl_primArity_l hl hn hw

def T.slices_ContainsFunc__impl_Pat_impl_Pat : T :=
.op (.call F.slices_IndexFunc__impl_Pat_impl_Pat [(.x 0), (.x 1)] false) (
.op (.bin .geq (.x 2) (.c (.v (.int .i64 0)))) (
.ret [(.x 3)]))

theorem T.slices_ContainsFunc__impl_Pat_impl_Pat_l : leftF Try.prog CF Try.f175 = some (2, T.slices_ContainsFunc__impl_Pat_impl_Pat) := by kernel_rfl

theorem T.slices_ContainsFunc__impl_Pat_impl_Pat_con {args : List AV} {res : AV} (hl : args.length = 2) (hn : AV.norefs args = true) (hw : wpT Try.prog (fun _ _ _ => False) (fun a => a = res) T.slices_ContainsFunc__impl_Pat_impl_Pat args []) : PCon Try.prog F.slices_ContainsFunc__impl_Pat_impl_Pat args res :=
  con_auto Try.func175 T.slices_ContainsFunc__impl_Pat_impl_Pat_l hl hn hw

def T.impl_patOk_1 : T :=
.chk (.cells (.x 0) 5) (
.chk (.cells (.x 0) 5) (
.op (.call F.impl_patOk [(.x 0)] false) (
.op (.un .not (.x 1)) (
.ret [(.x 2)]))))

theorem T.impl_patOk_1_l : leftF Try.prog CF Try.f176 = some (1, T.impl_patOk_1) := by kernel_rfl

theorem T.impl_patOk_1_con {args : List AV} {res : AV} (hl : args.length = 1) (hn : AV.norefs args = true) (hw : wpT Try.prog (fun _ _ _ => False) (fun a => a = res) T.impl_patOk_1 args []) : PCon Try.prog F.impl_patOk_1 args res :=
  con_auto Try.func176 T.impl_patOk_1_l hl hn hw

def T.slices_Grow_impl_names_string : T :=
.bind 0 (
 .op (.bin .lss (.x 1) (.c (.v (.int .i64 0)))) (
 .ite (.x 2)
  (.chk (.no) (
  .chk (.no) (
  .jump [])))
  (.jump []))) (
.bind 1 (
 .chk (.no) (
 .op (.lenL (.x 0)) (
 .op (.bin .sub (.c .top) (.x 2)) (
 .op (.bin .sub (.x 1) (.x 3)) (
 .op (.bin .gtr (.x 4) (.c (.v (.int .i64 0)))) (
 .ite (.x 5)
  (.chk (.no) (
  .op (.sliceL 1 (.x 0) none (some (.c .top))) (
  .chk (.no) (
  .op (.lenL (.x 0)) (
  .op (.sliceL 1 (.c .top) none (some (.x 7))) (
  .jump [(.x 8)]))))))
  (.jump [(.x 0)]))))))) (
.ret [(.x 2)]))

theorem T.slices_Grow_impl_names_string_l : leftF Try.prog CF Try.f177 = some (2, T.slices_Grow_impl_names_string) := by kernel_rfl

theorem T.slices_Grow_impl_names_string_con {args : List AV} {res : AV} (hl : args.length = 2) (hn : AV.norefs args = true) (hw : wpT Try.prog (fun _ _ _ => False) (fun a => a = res) T.slices_Grow_impl_names_string args []) : PCon Try.prog F.slices_Grow_impl_names_string args res :=
  con_auto Try.func177 T.slices_Grow_impl_names_string_l hl hn hw

def T.slices_EqualFunc__impl_Pat__impl_Pat_impl_Pat_impl_Pat : T :=
.op (.lenL (.x 0)) (
.op (.lenL (.x 1)) (
.op (.bin .neq (.x 3) (.x 4)) (
.ite (.x 5)
 (.ret [(.c (.v (.bool false)))])
 (.bind 0 (
  .op (.lenL (.x 0)) (
  .loop [(.c (.v (.int .i64 0)))] (
   .op (.bin .lss (.x 7) (.x 6)) (
   .ite (.x 8)
    (.op (.elem 5 (.x 0) (.x 7)) (
    .chk (.cells (.x 9) 5) (
    .chk (.cells (.x 9) 5) (
    .op (.elem 5 (.x 1) (.x 7)) (
    .chk (.cells (.x 10) 5) (
    .chk (.cells (.x 10) 5) (
    .chk (.cells (.x 9) 5) (
    .chk (.cells (.x 10) 5) (
    .op (.callv (.x 2) [(.x 9), (.x 10)] false) (
    .op (.un .not (.x 11)) (
    .ite (.x 12)
     (.esc (.esc (.ret [(.c (.v (.bool false)))])))
     (.op (.bin .add (.x 7) (.c (.v (.int .i64 1)))) (
     .jump [(.x 13)])))))))))))))
    (.esc (.jump [])))))) (
 .ret [(.c (.v (.bool true)))])))))

theorem T.slices_EqualFunc__impl_Pat__impl_Pat_impl_Pat_impl_Pat_l : leftF Try.prog CF Try.f178 = some (3, T.slices_EqualFunc__impl_Pat__impl_Pat_impl_Pat_impl_Pat) := by kernel_rfl

theorem T.slices_EqualFunc__impl_Pat__impl_Pat_impl_Pat_impl_Pat_con {args : List AV} {res : AV} (hl : args.length = 3) (hn : AV.norefs args = true) (hw : wpT Try.prog (fun _ _ _ => False) (fun a => a = res) T.slices_EqualFunc__impl_Pat__impl_Pat_impl_Pat_impl_Pat args []) : PCon Try.prog F.slices_EqualFunc__impl_Pat__impl_Pat_impl_Pat_impl_Pat args res :=
  con_auto Try.func178 T.slices_EqualFunc__impl_Pat__impl_Pat_impl_Pat_impl_Pat_l hl hn hw

def T.spec_l1Low : T :=
.bind 1 (
 .op (.call F.spec_l1Name [(.x 0), (.c (.v (.bool false)))] false) (
 .ite (.x 1)
  (.op (.call F.spec_l1Key [(.x 0)] false) (
  .op (.un .not (.x 2)) (
  .jump [(.x 3)])))
  (.jump [(.c (.v (.bool false)))]))) (
.ret [(.x 1)])

theorem T.spec_l1Low_l : leftF Try.prog CF Try.f179 = some (1, T.spec_l1Low) := by kernel_rfl

theorem T.spec_l1Low_con {args : List AV} {res : AV} (hl : args.length = 1) (hn : AV.norefs args = true) (hw : wpT Try.prog (fun _ _ _ => False) (fun a => a = res) T.spec_l1Low args []) : PCon Try.prog F.spec_l1Low args res :=
  con_auto Try.func179 T.spec_l1Low_l hl hn hw

def T.slices_IndexFunc__impl_Ty_impl_Ty : T :=
.bind 0 (
 .op (.lenL (.x 0)) (
 .loop [(.c (.v (.int .i64 0)))] (
  .op (.bin .lss (.x 3) (.x 2)) (
  .ite (.x 4)
   (.op (.elem 4 (.x 0) (.x 3)) (
   .chk (.cells (.x 5) 4) (
   .op (.callv (.x 1) [(.x 5)] false) (
   .ite (.x 6)
    (.esc (.esc (.ret [(.x 3)])))
    (.op (.bin .add (.x 3) (.c (.v (.int .i64 1)))) (
    .jump [(.x 7)]))))))
   (.esc (.jump [])))))) (
.ret [(.c (.v (.int .i64 (-1))))])

theorem T.slices_IndexFunc__impl_Ty_impl_Ty_l : leftF Try.prog CF Try.f180 = some (2, T.slices_IndexFunc__impl_Ty_impl_Ty) := by kernel_rfl

theorem T.slices_IndexFunc__impl_Ty_impl_Ty_con {args : List AV} {res : AV} (hl : args.length = 2) (hn : AV.norefs args = true) (hw : wpT Try.prog (fun _ _ _ => False) (fun a => a = res) T.slices_IndexFunc__impl_Ty_impl_Ty args []) : PCon Try.prog F.slices_IndexFunc__impl_Ty_impl_Ty args res :=
  con_auto Try.func180 T.slices_IndexFunc__impl_Ty_impl_Ty_l hl hn hw

def T.slices_Index__int_int : T :=
.bind 0 (
 .op (.lenL (.x 0)) (
 .loop [(.c (.v (.int .i64 0)))] (
  .op (.bin .lss (.x 3) (.x 2)) (
  .ite (.x 4)
   (.op (.elem 1 (.x 0) (.x 3)) (
   .chk (.lt (.x 5) 0) (
   .op (.bin .eql (.x 1) (.cell 5 0)) (
   .ite (.x 6)
    (.esc (.esc (.ret [(.x 3)])))
    (.op (.bin .add (.x 3) (.c (.v (.int .i64 1)))) (
    .jump [(.x 7)]))))))
   (.esc (.jump [])))))) (
.ret [(.c (.v (.int .i64 (-1))))])

theorem T.slices_Index__int_int_l : leftF Try.prog CF Try.f181 = some (2, T.slices_Index__int_int) := by kernel_rfl

theorem T.slices_Index__int_int_con {args : List AV} {res : AV} (hl : args.length = 2) (hn : AV.norefs args = true) (hw : wpT Try.prog (fun _ _ _ => False) (fun a => a = res) T.slices_Index__int_int args []) : PCon Try.prog F.slices_Index__int_int args res :=
  con_auto Try.func181 T.slices_Index__int_int_l hl hn hw

def T.laws_szPat : T :=
.chk (.cells (.x 0) 5) (
.op (.lenS (.cell 0 1)) (
.op (.bin .sub (.x 1) (.x 2)) (
.op (.bin .lss (.x 3) (.c (.v (.int .i64 0)))) (
.ite (.x 4)
 (.ret [(.c (.v (.int .i64 (-1))))])
 (.op (.call F.laws_szPatS [(.cell 0 4), (.x 3)] false) (
 .op (.bin .lss (.x 5) (.c (.v (.int .i64 0)))) (
 .ite (.x 6)
  (.ret [(.c (.v (.int .i64 (-1))))])
  (.ret [(.x 5)]))))))))

theorem T.laws_szPat_l : leftF Try.prog CF Try.f182 = some (2, T.laws_szPat) := by kernel_rfl

theorem T.laws_szPat_con {args : List AV} {res : AV} (hl : args.length = 2) (hn : AV.norefs args = true) (hw : wpT Try.prog (fun _ _ _ => False) (fun a => a = res) T.laws_szPat args []) : PCon Try.prog F.laws_szPat args res :=
  con_auto Try.func182 T.laws_szPat_l hl hn hw

def T.spec_l2Plain : T :=
.chk (.cells (.x 0) 7) (
.bind 3 (
 .loop [(.c (.v (.bool false))), (.c (.v (.bool false))), (.c (.v (.bool false))), (.c (.v (.int .i64 0)))] (
  .op (.lenS (.x 1)) (
  .op (.bin .lss (.x 5) (.x 6)) (
  .ite (.x 7)
   (.bind 3 (
    .bind 1 (
     .ite (.x 2)
      (.jump [(.c (.v (.bool true)))])
      (.op (.idxS (.x 1) (.x 5)) (
      .op (.bin .eql (.x 8) (.c (.v (.int .u8 110)))) (
      .jump [(.x 9)])))) (
    .bind 1 (
     .ite (.x 3)
      (.jump [(.c (.v (.bool true)))])
      (.op (.idxS (.x 1) (.x 5)) (
      .op (.bin .eql (.x 9) (.c (.v (.int .u8 117)))) (
      .jump [(.x 10)])))) (
    .ite (.x 4)
     (.jump [(.x 8), (.x 9), (.c (.v (.bool true)))])
     (.op (.idxS (.x 1) (.x 5)) (
     .op (.bin .eql (.x 10) (.c (.v (.int .u8 116)))) (
     .jump [(.x 8), (.x 9), (.x 11)])))))) (
   .op (.bin .add (.x 5) (.c (.v (.int .i64 1)))) (
   .jump [(.x 8), (.x 9), (.x 10), (.x 11)])))
   (.esc (.jump [(.x 2), (.x 3), (.x 4)])))))) (
.bind 1 (
 .op (.bin .geq (.cell 0 4) (.c (.v (.int .i64 0)))) (
 .ite (.x 5)
  (.ite (.x 2)
   (.ite (.x 3)
    (.ite (.x 4)
     (.op (.bin .eql (.cell 0 0) (.c (.v (.int .i64 13)))) (
     .ite (.x 6)
      (.jump [(.c (.v (.bool true)))])
      (.op (.lenL (.cell 0 6)) (
      .op (.bin .eql (.x 7) (.c (.v (.int .i64 0)))) (
      .jump [(.x 8)])))))
     (.op (.bin .eql (.cell 0 3) (.c (.v (.string ⟨#[]⟩)))) (
     .ite (.x 6)
      (.op (.bin .eql (.cell 0 0) (.c (.v (.int .i64 13)))) (
      .ite (.x 7)
       (.jump [(.c (.v (.bool true)))])
       (.op (.lenL (.cell 0 6)) (
       .op (.bin .eql (.x 8) (.c (.v (.int .i64 0)))) (
       .jump [(.x 9)])))))
      (.jump [(.c (.v (.bool false)))]))))
    (.op (.bin .eql (.cell 0 2) (.c (.v (.int .i64 0)))) (
    .ite (.x 6)
     (.ite (.x 4)
      (.op (.bin .eql (.cell 0 0) (.c (.v (.int .i64 13)))) (
      .ite (.x 7)
       (.jump [(.c (.v (.bool true)))])
       (.op (.lenL (.cell 0 6)) (
       .op (.bin .eql (.x 8) (.c (.v (.int .i64 0)))) (
       .jump [(.x 9)])))))
      (.op (.bin .eql (.cell 0 3) (.c (.v (.string ⟨#[]⟩)))) (
      .ite (.x 7)
       (.op (.bin .eql (.cell 0 0) (.c (.v (.int .i64 13)))) (
       .ite (.x 8)
        (.jump [(.c (.v (.bool true)))])
        (.op (.lenL (.cell 0 6)) (
        .op (.bin .eql (.x 9) (.c (.v (.int .i64 0)))) (
        .jump [(.x 10)])))))
       (.jump [(.c (.v (.bool false)))]))))
     (.jump [(.c (.v (.bool false)))]))))
   (.op (.bin .eql (.cell 0 1) (.c (.v (.string ⟨#[]⟩)))) (
   .ite (.x 6)
    (.ite (.x 3)
     (.ite (.x 4)
      (.op (.bin .eql (.cell 0 0) (.c (.v (.int .i64 13)))) (
      .ite (.x 7)
       (.jump [(.c (.v (.bool true)))])
       (.op (.lenL (.cell 0 6)) (
       .op (.bin .eql (.x 8) (.c (.v (.int .i64 0)))) (
       .jump [(.x 9)])))))
      (.op (.bin .eql (.cell 0 3) (.c (.v (.string ⟨#[]⟩)))) (
      .ite (.x 7)
       (.op (.bin .eql (.cell 0 0) (.c (.v (.int .i64 13)))) (
       .ite (.x 8)
        (.jump [(.c (.v (.bool true)))])
        (.op (.lenL (.cell 0 6)) (
        .op (.bin .eql (.x 9) (.c (.v (.int .i64 0)))) (
        .jump [(.x 10)])))))
       (.jump [(.c (.v (.bool false)))]))))
     (.op (.bin .eql (.cell 0 2) (.c (.v (.int .i64 0)))) (
     .ite (.x 7)
      (.ite (.x 4)
       (.op (.bin .eql (.cell 0 0) (.c (.v (.int .i64 13)))) (
       .ite (.x 8)
        (.jump [(.c (.v (.bool true)))])
        (.op (.lenL (.cell 0 6)) (
        .op (.bin .eql (.x 9) (.c (.v (.int .i64 0)))) (
        .jump [(.x 10)])))))
       (.op (.bin .eql (.cell 0 3) (.c (.v (.string ⟨#[]⟩)))) (
       .ite (.x 8)
        (.op (.bin .eql (.cell 0 0) (.c (.v (.int .i64 13)))) (
        .ite (.x 9)
         (.jump [(.c (.v (.bool true)))])
         (.op (.lenL (.cell 0 6)) (
         .op (.bin .eql (.x 10) (.c (.v (.int .i64 0)))) (
         .jump [(.x 11)])))))
        (.jump [(.c (.v (.bool false)))]))))
      (.jump [(.c (.v (.bool false)))]))))
    (.jump [(.c (.v (.bool false)))]))))
  (.jump [(.c (.v (.bool false)))]))) (
.ret [(.x 5)])))

theorem T.spec_l2Plain_l : leftF Try.prog CF Try.f183 = some (2, T.spec_l2Plain) := by kernel_rfl

theorem T.spec_l2Plain_con {args : List AV} {res : AV} (hl : args.length = 2) (hn : AV.norefs args = true) (hw : wpT Try.prog (fun _ _ _ => False) (fun a => a = res) T.spec_l2Plain args []) : PCon Try.prog F.spec_l2Plain args res :=
  con_auto Try.func183 T.spec_l2Plain_l hl hn hw

def T.spec_l1Chars : T :=
.bind 0 (
 .loop [(.c (.v (.int .i64 0)))] (
  .op (.lenS (.x 0)) (
  .op (.bin .lss (.x 1) (.x 2)) (
  .ite (.x 3)
   (.bind 0 (
    .bind 1 (
     .op (.idxS (.x 0) (.x 1)) (
     .op (.bin .neq (.x 4) (.c (.v (.int .u8 10)))) (
     .ite (.x 5)
      (.op (.idxS (.x 0) (.x 1)) (
      .op (.conv .i64 (.x 6)) (
      .op (.call F.spec_l1In [(.x 7), (.c (.v (.int .i64 32))), (.c (.v (.int .i64 126)))] false) (
      .op (.un .not (.x 8)) (
      .jump [(.x 9)])))))
      (.jump [(.c (.v (.bool false)))])))) (
    .ite (.x 4)
     (.esc (.esc (.esc (.ret [(.c (.v (.bool false)))]))))
     (.jump []))) (
   .op (.bin .add (.x 1) (.c (.v (.int .i64 1)))) (
   .jump [(.x 4)])))
   (.esc (.jump [])))))) (
.ret [(.c (.v (.bool true)))])

theorem T.spec_l1Chars_l : leftF Try.prog CF Try.f184 = some (1, T.spec_l1Chars) := by kernel_rfl

theorem T.spec_l1Chars_con {args : List AV} {res : AV} (hl : args.length = 1) (hn : AV.norefs args = true) (hw : wpT Try.prog (fun _ _ _ => False) (fun a => a = res) T.spec_l1Chars args []) : PCon Try.prog F.spec_l1Chars args res :=
  con_auto Try.func184 T.spec_l1Chars_l hl hn hw

def T.spec_l1Name : T :=
.bind 0 (
 .bind 1 (
  .op (.lenS (.x 0)) (
  .op (.call F.spec_l1In [(.x 2), (.c (.v (.int .i64 1))), (.c (.v (.int .i64 12)))] false) (
  .op (.un .not (.x 3)) (
  .ite (.x 4)
   (.jump [(.c (.v (.bool true)))])
   (.op (.idxS (.x 0) (.c (.v (.int .i64 0)))) (
   .op (.conv .i64 (.x 5)) (
   .op (.call F.spec_l1Upper [(.x 6)] false) (
   .op (.beq true (.x 1) (.x 7)) (
   .ite (.x 8)
    (.jump [(.c (.v (.bool true)))])
    (.op (.un .not (.x 1)) (
    .ite (.x 9)
     (.op (.idxS (.x 0) (.c (.v (.int .i64 0)))) (
     .op (.conv .i64 (.x 10)) (
     .op (.call F.spec_l1Lower [(.x 11)] false) (
     .op (.un .not (.x 12)) (
     .jump [(.x 13)])))))
     (.jump [(.c (.v (.bool false)))])))))))))))) (
 .ite (.x 2)
  (.esc (.ret [(.c (.v (.bool false)))]))
  (.jump []))) (
.bind 0 (
 .loop [(.c (.v (.int .i64 0)))] (
  .op (.lenS (.x 0)) (
  .op (.bin .lss (.x 2) (.x 3)) (
  .ite (.x 4)
   (.op (.idxS (.x 0) (.x 2)) (
   .op (.conv .i64 (.x 5)) (
   .op (.call F.spec_l1NameByte [(.x 6)] false) (
   .op (.un .not (.x 7)) (
   .ite (.x 8)
    (.esc (.esc (.ret [(.c (.v (.bool false)))])))
    (.op (.bin .add (.x 2) (.c (.v (.int .i64 1)))) (
    .jump [(.x 9)])))))))
   (.esc (.jump [])))))) (
.ret [(.c (.v (.bool true)))]))

theorem T.spec_l1Name_l : leftF Try.prog CF Try.f185 = some (2, T.spec_l1Name) := by kernel_rfl

theorem T.spec_l1Name_con {args : List AV} {res : AV} (hl : args.length = 2) (hn : AV.norefs args = true) (hw : wpT Try.prog (fun _ _ _ => False) (fun a => a = res) T.spec_l1Name args []) : PCon Try.prog F.spec_l1Name args res :=
  con_auto Try.func185 T.spec_l1Name_l hl hn hw

def T.spec_l2Op : T :=
.bind 1 (
 .op (.bin .eql (.x 0) (.c (.v (.string ⟨#[43]⟩)))) (
 .ite (.x 1)
  (.jump [(.c (.v (.bool true)))])
  (.op (.bin .eql (.x 0) (.c (.v (.string ⟨#[45]⟩)))) (
  .ite (.x 2)
   (.jump [(.c (.v (.bool true)))])
   (.op (.bin .eql (.x 0) (.c (.v (.string ⟨#[42]⟩)))) (
   .ite (.x 3)
    (.jump [(.c (.v (.bool true)))])
    (.op (.bin .eql (.x 0) (.c (.v (.string ⟨#[94]⟩)))) (
    .ite (.x 4)
     (.jump [(.c (.v (.bool true)))])
     (.op (.bin .eql (.x 0) (.c (.v (.string ⟨#[61]⟩)))) (
     .ite (.x 5)
      (.jump [(.c (.v (.bool true)))])
      (.op (.bin .eql (.x 0) (.c (.v (.string ⟨#[60]⟩)))) (
      .ite (.x 6)
       (.jump [(.c (.v (.bool true)))])
       (.op (.bin .eql (.x 0) (.c (.v (.string ⟨#[58, 61]⟩)))) (
       .jump [(.x 7)])))))))))))))) (
.ret [(.x 1)])

theorem T.spec_l2Op_l : leftF Try.prog CF Try.f186 = some (1, T.spec_l2Op) := by kernel_rfl

theorem T.spec_l2Op_con {args : List AV} {res : AV} (hl : args.length = 1) (hn : AV.norefs args = true) (hw : wpT Try.prog (fun _ _ _ => False) (fun a => a = res) T.spec_l2Op args []) : PCon Try.prog F.spec_l2Op args res :=
  con_auto Try.func186 T.spec_l2Op_l hl hn hw

def T.spec_l2Prim : T :=
.bind 1 (
 .op (.bin .eql (.x 0) (.c (.v (.string ⟨#[112, 114, 105, 110, 116]⟩)))) (
 .ite (.x 1)
  (.jump [(.c (.v (.bool true)))])
  (.op (.bin .eql (.x 0) (.c (.v (.string ⟨#[101, 120, 105, 116]⟩)))) (
  .ite (.x 2)
   (.jump [(.c (.v (.bool true)))])
   (.op (.bin .eql (.x 0) (.c (.v (.string ⟨#[115, 105, 122, 101]⟩)))) (
   .ite (.x 3)
    (.jump [(.c (.v (.bool true)))])
    (.op (.bin .eql (.x 0) (.c (.v (.string ⟨#[114, 101, 102]⟩)))) (
    .ite (.x 4)
     (.jump [(.c (.v (.bool true)))])
     (.op (.bin .eql (.x 0) (.c (.v (.string ⟨#[33]⟩)))) (
     .jump [(.x 5)])))))))))) (
.ret [(.x 1)])

theorem T.spec_l2Prim_l : leftF Try.prog CF Try.f187 = some (1, T.spec_l2Prim) := by kernel_rfl

theorem T.spec_l2Prim_con {args : List AV} {res : AV} (hl : args.length = 1) (hn : AV.norefs args = true) (hw : wpT Try.prog (fun _ _ _ => False) (fun a => a = res) T.spec_l2Prim args []) : PCon Try.prog F.spec_l2Prim args res :=
  con_auto Try.func187 T.spec_l2Prim_l hl hn hw

def T.spec_l19Bound : T :=
.bind 0 (
 .op (.lenL (.x 0)) (
 .op (.bin .sub (.x 2) (.c (.v (.int .i64 1)))) (
 .loop [(.x 3)] (
  .op (.bin .geq (.x 4) (.c (.v (.int .i64 0)))) (
  .ite (.x 5)
   (.op (.elem 1 (.x 0) (.x 4)) (
   .chk (.lt (.x 6) 0) (
   .op (.bin .eql (.cell 6 0) (.x 1)) (
   .ite (.x 7)
    (.esc (.esc (.ret [(.x 4)])))
    (.op (.bin .sub (.x 4) (.c (.v (.int .i64 1)))) (
    .jump [(.x 8)]))))))
   (.esc (.jump []))))))) (
.ret [(.c (.v (.int .i64 (-1))))])

theorem T.spec_l19Bound_l : leftF Try.prog CF Try.f188 = some (2, T.spec_l19Bound) := by kernel_rfl

theorem T.spec_l19Bound_con {args : List AV} {res : AV} (hl : args.length = 2) (hn : AV.norefs args = true) (hw : wpT Try.prog (fun _ _ _ => False) (fun a => a = res) T.spec_l19Bound args []) : PCon Try.prog F.spec_l19Bound args res :=
  con_auto Try.func188 T.spec_l19Bound_l hl hn hw

def T.laws_toPat : T :=
.chk (.cells (.x 0) 5) (
.chk (.one (.cell 0 0)) (
.chk (.one (.cell 0 1)) (
.chk (.one (.cell 0 2)) (
.chk (.one (.cell 0 3)) (
.op (.call F.laws_toPatS [(.cell 0 4)] false) (
.chk (.one (.x 1)) (
.chk (.cells (.agg [(.cell 0 0), (.cell 0 1), (.cell 0 2), (.cell 0 3), (.x 1)]) 5) (
.ret [(.agg [(.cell 0 0), (.cell 0 1), (.cell 0 2), (.cell 0 3), (.x 1)])]))))))))

theorem T.laws_toPat_l : leftF Try.prog CF Try.f189 = some (1, T.laws_toPat) := by kernel_rfl

theorem T.laws_toPat_con {args : List AV} {res : AV} (hl : args.length = 1) (hn : AV.norefs args = true) (hw : wpT Try.prog (fun _ _ _ => False) (fun a => a = res) T.laws_toPat args []) : PCon Try.prog F.laws_toPat args res :=
  con_auto Try.func189 T.laws_toPat_l hl hn hw

def T.laws_eqPat : T :=
.chk (.cells (.x 0) 5) (
.chk (.cells (.x 1) 5) (
.op (.bin .neq (.cell 0 0) (.cell 1 0)) (
.ite (.x 2)
 (.ret [(.c (.v (.bool false)))])
 (.op (.bin .neq (.cell 0 1) (.cell 1 1)) (
 .ite (.x 3)
  (.ret [(.c (.v (.bool false)))])
  (.op (.bin .neq (.cell 0 2) (.cell 1 2)) (
  .ite (.x 4)
   (.ret [(.c (.v (.bool false)))])
   (.op (.bin .neq (.cell 0 3) (.cell 1 3)) (
   .ite (.x 5)
    (.ret [(.c (.v (.bool false)))])
    (.op (.call F.laws_eqPatS [(.cell 0 4), (.cell 1 4)] false) (
    .op (.un .not (.x 6)) (
    .ite (.x 7)
     (.ret [(.c (.v (.bool false)))])
     (.ret [(.c (.v (.bool true)))])))))))))))))

theorem T.laws_eqPat_l : leftF Try.prog CF Try.f190 = some (2, T.laws_eqPat) := by kernel_rfl

theorem T.laws_eqPat_con {args : List AV} {res : AV} (hl : args.length = 2) (hn : AV.norefs args = true) (hw : wpT Try.prog (fun _ _ _ => False) (fun a => a = res) T.laws_eqPat args []) : PCon Try.prog F.laws_eqPat args res :=
  con_auto Try.func190 T.laws_eqPat_l hl hn hw

def T.slices_Grow__impl_Ty_impl_Ty : T :=
.bind 0 (
 .op (.bin .lss (.x 1) (.c (.v (.int .i64 0)))) (
 .ite (.x 2)
  (.chk (.no) (
  .chk (.no) (
  .jump [])))
  (.jump []))) (
.bind 1 (
 .chk (.no) (
 .op (.lenL (.x 0)) (
 .op (.bin .sub (.c .top) (.x 2)) (
 .op (.bin .sub (.x 1) (.x 3)) (
 .op (.bin .gtr (.x 4) (.c (.v (.int .i64 0)))) (
 .ite (.x 5)
  (.chk (.no) (
  .op (.sliceL 4 (.x 0) none (some (.c .top))) (
  .chk (.no) (
  .op (.lenL (.x 0)) (
  .op (.sliceL 4 (.c .top) none (some (.x 7))) (
  .jump [(.x 8)]))))))
  (.jump [(.x 0)]))))))) (
.ret [(.x 2)]))

theorem T.slices_Grow__impl_Ty_impl_Ty_l : leftF Try.prog CF Try.f191 = some (2, T.slices_Grow__impl_Ty_impl_Ty) := by kernel_rfl

theorem T.slices_Grow__impl_Ty_impl_Ty_con {args : List AV} {res : AV} (hl : args.length = 2) (hn : AV.norefs args = true) (hw : wpT Try.prog (fun _ _ _ => False) (fun a => a = res) T.slices_Grow__impl_Ty_impl_Ty args []) : PCon Try.prog F.slices_Grow__impl_Ty_impl_Ty args res :=
  con_auto Try.func191 T.slices_Grow__impl_Ty_impl_Ty_l hl hn hw

def T.slices_IndexFunc__int_int : T :=
.bind 0 (
 .op (.lenL (.x 0)) (
 .loop [(.c (.v (.int .i64 0)))] (
  .op (.bin .lss (.x 3) (.x 2)) (
  .ite (.x 4)
   (.op (.elem 1 (.x 0) (.x 3)) (
   .chk (.lt (.x 5) 0) (
   .op (.callv (.x 1) [(.cell 5 0)] false) (
   .ite (.x 6)
    (.esc (.esc (.ret [(.x 3)])))
    (.op (.bin .add (.x 3) (.c (.v (.int .i64 1)))) (
    .jump [(.x 7)]))))))
   (.esc (.jump [])))))) (
.ret [(.c (.v (.int .i64 (-1))))])

theorem T.slices_IndexFunc__int_int_l : leftF Try.prog CF Try.f192 = some (2, T.slices_IndexFunc__int_int) := by kernel_rfl

theorem T.slices_IndexFunc__int_int_con {args : List AV} {res : AV} (hl : args.length = 2) (hn : AV.norefs args = true) (hw : wpT Try.prog (fun _ _ _ => False) (fun a => a = res) T.slices_IndexFunc__int_int args []) : PCon Try.prog F.slices_IndexFunc__int_int args res :=
  con_auto Try.func192 T.slices_IndexFunc__int_int_l hl hn hw

def T.impl_isName : T :=
.bind 1 (
 .op (.lenS (.x 0)) (
 .op (.call F.impl_within [(.x 2), (.c (.v (.int .i64 1))), (.c (.v (.int .i64 12)))] false) (
 .ite (.x 3)
  (.op (.idxS (.x 0) (.c (.v (.int .i64 0)))) (
  .op (.callv (.x 1) [(.x 4)] false) (
  .ite (.x 5)
   (.op (.call F.impl_run [(.x 0), (.c (.v (.int .i64 0))), (.c (.fn F.impl_nameByte []))] false) (
   .op (.lenS (.x 0)) (
   .op (.bin .eql (.x 6) (.x 7)) (
   .jump [(.x 8)]))))
   (.jump [(.c (.v (.bool false)))]))))
  (.jump [(.c (.v (.bool false)))])))) (
.ret [(.x 2)])

theorem T.impl_isName_l : leftF Try.prog CF Try.f193 = some (2, T.impl_isName) := by kernel_rfl

theorem T.impl_isName_con {args : List AV} {res : AV} (hl : args.length = 2) (hn : AV.norefs args = true) (hw : wpT Try.prog (fun _ _ _ => False) (fun a => a = res) T.impl_isName args []) : PCon Try.prog F.impl_isName args res :=
  con_auto Try.func193 T.impl_isName_l hl hn hw

def T.impl_small : T :=
.bind 1 (
 .op (.bin .geq (.x 0) (.c (.v (.int .u8 97)))) (
 .ite (.x 1)
  (.op (.bin .leq (.x 0) (.c (.v (.int .u8 122)))) (
  .jump [(.x 2)]))
  (.jump [(.c (.v (.bool false)))]))) (
.ret [(.x 1)])

theorem T.impl_small_l : leftF Try.prog CF Try.f194 = some (1, T.impl_small) := by kernel_rfl

theorem T.impl_small_con {args : List AV} {res : AV} (hl : args.length = 1) (hn : AV.norefs args = true) (hw : wpT Try.prog (fun _ _ _ => False) (fun a => a = res) T.impl_small args []) : PCon Try.prog F.impl_small args res :=
  con_auto Try.func194 T.impl_small_l hl hn hw

def T.impl_isKey : T :=
.chk (.one (.c (.v (.string ⟨#[116, 121, 112, 101]⟩)))) (
.chk (.one (.c (.v (.string ⟨#[111, 102]⟩)))) (
.chk (.one (.c (.v (.string ⟨#[108, 101, 116]⟩)))) (
.chk (.one (.c (.v (.string ⟨#[114, 101, 99]⟩)))) (
.chk (.one (.c (.v (.string ⟨#[105, 110]⟩)))) (
.chk (.one (.c (.v (.string ⟨#[102, 117, 110]⟩)))) (
.chk (.one (.c (.v (.string ⟨#[105, 102]⟩)))) (
.chk (.one (.c (.v (.string ⟨#[116, 104, 101, 110]⟩)))) (
.chk (.one (.c (.v (.string ⟨#[101, 108, 115, 101]⟩)))) (
.chk (.one (.c (.v (.string ⟨#[109, 97, 116, 99, 104]⟩)))) (
.chk (.one (.c (.v (.string ⟨#[119, 105, 116, 104]⟩)))) (
.chk (.one (.c (.v (.string ⟨#[101, 110, 100]⟩)))) (
.chk (.one (.c (.v (.string ⟨#[116, 114, 117, 101]⟩)))) (
.chk (.one (.c (.v (.string ⟨#[102, 97, 108, 115, 101]⟩)))) (
.chk (.one (.c (.v (.string ⟨#[114, 101, 102]⟩)))) (
.chk (.one (.c (.v (.string ⟨#[114, 101, 97, 100]⟩)))) (
.chk (.one (.c (.v (.string ⟨#[112, 114, 105, 110, 116]⟩)))) (
.chk (.one (.c (.v (.string ⟨#[101, 120, 105, 116]⟩)))) (
.chk (.one (.c (.v (.string ⟨#[115, 105, 122, 101]⟩)))) (
.op (.mkl (.v (.string ⟨#[]⟩)) 19 [(0, (.c (.v (.string ⟨#[116, 121, 112, 101]⟩)))), (1, (.c (.v (.string ⟨#[111, 102]⟩)))), (2, (.c (.v (.string ⟨#[108, 101, 116]⟩)))), (3, (.c (.v (.string ⟨#[114, 101, 99]⟩)))), (4, (.c (.v (.string ⟨#[105, 110]⟩)))), (5, (.c (.v (.string ⟨#[102, 117, 110]⟩)))), (6, (.c (.v (.string ⟨#[105, 102]⟩)))), (7, (.c (.v (.string ⟨#[116, 104, 101, 110]⟩)))), (8, (.c (.v (.string ⟨#[101, 108, 115, 101]⟩)))), (9, (.c (.v (.string ⟨#[109, 97, 116, 99, 104]⟩)))), (10, (.c (.v (.string ⟨#[119, 105, 116, 104]⟩)))), (11, (.c (.v (.string ⟨#[101, 110, 100]⟩)))), (12, (.c (.v (.string ⟨#[116, 114, 117, 101]⟩)))), (13, (.c (.v (.string ⟨#[102, 97, 108, 115, 101]⟩)))), (14, (.c (.v (.string ⟨#[114, 101, 102]⟩)))), (15, (.c (.v (.string ⟨#[114, 101, 97, 100]⟩)))), (16, (.c (.v (.string ⟨#[112, 114, 105, 110, 116]⟩)))), (17, (.c (.v (.string ⟨#[101, 120, 105, 116]⟩)))), (18, (.c (.v (.string ⟨#[115, 105, 122, 101]⟩))))]) (
.op (.call F.slices_Contains__string_string [(.sl (.x 1)), (.x 0)] true) (
.ret [(.x 2)])))))))))))))))))))))

theorem T.impl_isKey_l : leftF Try.prog CF Try.f195 = some (1, T.impl_isKey) := by kernel_rfl

theorem T.impl_isKey_con {args : List AV} {res : AV} (hl : args.length = 1) (hn : AV.norefs args = true) (hw : wpT Try.prog (fun _ _ _ => False) (fun a => a = res) T.impl_isKey args []) : PCon Try.prog F.impl_isKey args res :=
  con_auto Try.func195 T.impl_isKey_l hl hn hw

def T.impl_great : T :=
.bind 1 (
 .op (.bin .geq (.x 0) (.c (.v (.int .u8 65)))) (
 .ite (.x 1)
  (.op (.bin .leq (.x 0) (.c (.v (.int .u8 90)))) (
  .jump [(.x 2)]))
  (.jump [(.c (.v (.bool false)))]))) (
.ret [(.x 1)])

theorem T.impl_great_l : leftF Try.prog CF Try.f196 = some (1, T.impl_great) := by kernel_rfl

theorem T.impl_great_con {args : List AV} {res : AV} (hl : args.length = 1) (hn : AV.norefs args = true) (hw : wpT Try.prog (fun _ _ _ => False) (fun a => a = res) T.impl_great args []) : PCon Try.prog F.impl_great args res :=
  con_auto Try.func196 T.impl_great_l hl hn hw

def T.slices_Contains__string_string : T :=
.op (.call F.slices_Index__string_string [(.x 0), (.x 1)] false) (
.op (.bin .geq (.x 2) (.c (.v (.int .i64 0)))) (
.ret [(.x 3)]))

theorem T.slices_Contains__string_string_l : leftF Try.prog CF Try.f197 = some (2, T.slices_Contains__string_string) := by kernel_rfl

theorem T.slices_Contains__string_string_con {args : List AV} {res : AV} (hl : args.length = 2) (hn : AV.norefs args = true) (hw : wpT Try.prog (fun _ _ _ => False) (fun a => a = res) T.slices_Contains__string_string args []) : PCon Try.prog F.slices_Contains__string_string args res :=
  con_auto Try.func197 T.slices_Contains__string_string_l hl hn hw

def T.slices_IndexFunc__impl_Pat_impl_Pat : T :=
.bind 0 (
 .op (.lenL (.x 0)) (
 .loop [(.c (.v (.int .i64 0)))] (
  .op (.bin .lss (.x 3) (.x 2)) (
  .ite (.x 4)
   (.op (.elem 5 (.x 0) (.x 3)) (
   .chk (.cells (.x 5) 5) (
   .op (.callv (.x 1) [(.x 5)] false) (
   .ite (.x 6)
    (.esc (.esc (.ret [(.x 3)])))
    (.op (.bin .add (.x 3) (.c (.v (.int .i64 1)))) (
    .jump [(.x 7)]))))))
   (.esc (.jump [])))))) (
.ret [(.c (.v (.int .i64 (-1))))])

theorem T.slices_IndexFunc__impl_Pat_impl_Pat_l : leftF Try.prog CF Try.f198 = some (2, T.slices_IndexFunc__impl_Pat_impl_Pat) := by kernel_rfl

theorem T.slices_IndexFunc__impl_Pat_impl_Pat_con {args : List AV} {res : AV} (hl : args.length = 2) (hn : AV.norefs args = true) (hw : wpT Try.prog (fun _ _ _ => False) (fun a => a = res) T.slices_IndexFunc__impl_Pat_impl_Pat args []) : PCon Try.prog F.slices_IndexFunc__impl_Pat_impl_Pat args res :=
  con_auto Try.func198 T.slices_IndexFunc__impl_Pat_impl_Pat_l hl hn hw

def T.spec_l1Key : T :=
.chk (.one (.c (.v (.string ⟨#[116, 121, 112, 101]⟩)))) (
.chk (.one (.c (.v (.string ⟨#[111, 102]⟩)))) (
.chk (.one (.c (.v (.string ⟨#[108, 101, 116]⟩)))) (
.chk (.one (.c (.v (.string ⟨#[114, 101, 99]⟩)))) (
.chk (.one (.c (.v (.string ⟨#[105, 110]⟩)))) (
.chk (.one (.c (.v (.string ⟨#[102, 117, 110]⟩)))) (
.chk (.one (.c (.v (.string ⟨#[105, 102]⟩)))) (
.chk (.one (.c (.v (.string ⟨#[116, 104, 101, 110]⟩)))) (
.chk (.one (.c (.v (.string ⟨#[101, 108, 115, 101]⟩)))) (
.chk (.one (.c (.v (.string ⟨#[109, 97, 116, 99, 104]⟩)))) (
.chk (.one (.c (.v (.string ⟨#[119, 105, 116, 104]⟩)))) (
.chk (.one (.c (.v (.string ⟨#[101, 110, 100]⟩)))) (
.chk (.one (.c (.v (.string ⟨#[116, 114, 117, 101]⟩)))) (
.chk (.one (.c (.v (.string ⟨#[102, 97, 108, 115, 101]⟩)))) (
.chk (.one (.c (.v (.string ⟨#[114, 101, 102]⟩)))) (
.chk (.one (.c (.v (.string ⟨#[114, 101, 97, 100]⟩)))) (
.chk (.one (.c (.v (.string ⟨#[112, 114, 105, 110, 116]⟩)))) (
.chk (.one (.c (.v (.string ⟨#[101, 120, 105, 116]⟩)))) (
.chk (.one (.c (.v (.string ⟨#[115, 105, 122, 101]⟩)))) (
.op (.mkl (.v (.string ⟨#[]⟩)) 19 [(0, (.c (.v (.string ⟨#[116, 121, 112, 101]⟩)))), (1, (.c (.v (.string ⟨#[111, 102]⟩)))), (2, (.c (.v (.string ⟨#[108, 101, 116]⟩)))), (3, (.c (.v (.string ⟨#[114, 101, 99]⟩)))), (4, (.c (.v (.string ⟨#[105, 110]⟩)))), (5, (.c (.v (.string ⟨#[102, 117, 110]⟩)))), (6, (.c (.v (.string ⟨#[105, 102]⟩)))), (7, (.c (.v (.string ⟨#[116, 104, 101, 110]⟩)))), (8, (.c (.v (.string ⟨#[101, 108, 115, 101]⟩)))), (9, (.c (.v (.string ⟨#[109, 97, 116, 99, 104]⟩)))), (10, (.c (.v (.string ⟨#[119, 105, 116, 104]⟩)))), (11, (.c (.v (.string ⟨#[101, 110, 100]⟩)))), (12, (.c (.v (.string ⟨#[116, 114, 117, 101]⟩)))), (13, (.c (.v (.string ⟨#[102, 97, 108, 115, 101]⟩)))), (14, (.c (.v (.string ⟨#[114, 101, 102]⟩)))), (15, (.c (.v (.string ⟨#[114, 101, 97, 100]⟩)))), (16, (.c (.v (.string ⟨#[112, 114, 105, 110, 116]⟩)))), (17, (.c (.v (.string ⟨#[101, 120, 105, 116]⟩)))), (18, (.c (.v (.string ⟨#[115, 105, 122, 101]⟩))))]) (
.bind 0 (
 .loop [(.c (.v (.int .i64 0)))] (
  .op (.lenL (.sl (.x 1))) (
  .op (.bin .lss (.x 2) (.x 3)) (
  .ite (.x 4)
   (.chk (.idx (.x 1) (.x 2)) (
   .op (.get (.x 1) (.x 2) 0 none) (
   .op (.bin .eql (.x 5) (.x 0)) (
   .ite (.x 6)
    (.esc (.esc (.ret [(.c (.v (.bool true)))])))
    (.op (.bin .add (.x 2) (.c (.v (.int .i64 1)))) (
    .jump [(.x 7)]))))))
   (.esc (.jump [])))))) (
.ret [(.c (.v (.bool false)))])))))))))))))))))))))

theorem T.spec_l1Key_l : leftF Try.prog CF Try.f199 = some (1, T.spec_l1Key) := by kernel_rfl

theorem T.spec_l1Key_con {args : List AV} {res : AV} (hl : args.length = 1) (hn : AV.norefs args = true) (hw : wpT Try.prog (fun _ _ _ => False) (fun a => a = res) T.spec_l1Key args []) : PCon Try.prog F.spec_l1Key args res :=
  con_auto Try.func199 T.spec_l1Key_l hl hn hw

def T.laws_szPatS : T :=
.op (.lenL (.x 0)) (
.op (.bin .sub (.x 1) (.x 2)) (
.op (.bin .lss (.x 3) (.c (.v (.int .i64 0)))) (
.ite (.x 4)
 (.ret [(.c (.v (.int .i64 (-1))))])
 (.bind 1 (
  .loop [(.x 3), (.c (.v (.int .i64 0)))] (
   .op (.lenL (.x 0)) (
   .op (.bin .lss (.x 6) (.x 7)) (
   .ite (.x 8)
    (.op (.elem 5 (.x 0) (.x 6)) (
    .chk (.cells (.x 9) 5) (
    .op (.call F.laws_szPat [(.x 9), (.x 5)] false) (
    .op (.bin .lss (.x 10) (.c (.v (.int .i64 0)))) (
    .ite (.x 11)
     (.esc (.esc (.ret [(.c (.v (.int .i64 (-1))))])))
     (.op (.bin .add (.x 6) (.c (.v (.int .i64 1)))) (
     .jump [(.x 10), (.x 12)])))))))
    (.esc (.jump [(.x 5)])))))) (
 .ret [(.x 5)])))))

theorem T.laws_szPatS_l : leftF Try.prog CF Try.f200 = some (2, T.laws_szPatS) := by kernel_rfl

theorem T.laws_szPatS_con {args : List AV} {res : AV} (hl : args.length = 2) (hn : AV.norefs args = true) (hw : wpT Try.prog (fun _ _ _ => False) (fun a => a = res) T.laws_szPatS args []) : PCon Try.prog F.laws_szPatS args res :=
  con_auto Try.func200 T.laws_szPatS_l hl hn hw

def T.spec_l1Upper : T :=
.op (.call F.spec_l1In [(.x 0), (.c (.v (.int .i64 65))), (.c (.v (.int .i64 90)))] false) (
.ret [(.x 1)])

theorem T.spec_l1Upper_l : leftF Try.prog CF Try.f201 = some (1, T.spec_l1Upper) := by kernel_rfl

theorem T.spec_l1Upper_con {args : List AV} {res : AV} (hl : args.length = 1) (hn : AV.norefs args = true) (hw : wpT Try.prog (fun _ _ _ => False) (fun a => a = res) T.spec_l1Upper args []) : PCon Try.prog F.spec_l1Upper args res :=
  con_auto Try.func201 T.spec_l1Upper_l hl hn hw

def T.spec_l1Lower : T :=
.op (.call F.spec_l1In [(.x 0), (.c (.v (.int .i64 97))), (.c (.v (.int .i64 122)))] false) (
.ret [(.x 1)])

theorem T.spec_l1Lower_l : leftF Try.prog CF Try.f202 = some (1, T.spec_l1Lower) := by kernel_rfl

theorem T.spec_l1Lower_con {args : List AV} {res : AV} (hl : args.length = 1) (hn : AV.norefs args = true) (hw : wpT Try.prog (fun _ _ _ => False) (fun a => a = res) T.spec_l1Lower args []) : PCon Try.prog F.spec_l1Lower args res :=
  con_auto Try.func202 T.spec_l1Lower_l hl hn hw

def T.spec_l1NameByte : T :=
.bind 1 (
 .op (.call F.spec_l1Lower [(.x 0)] false) (
 .ite (.x 1)
  (.jump [(.c (.v (.bool true)))])
  (.op (.call F.spec_l1Upper [(.x 0)] false) (
  .ite (.x 2)
   (.jump [(.c (.v (.bool true)))])
   (.op (.call F.spec_l1Num [(.x 0)] false) (
   .ite (.x 3)
    (.jump [(.c (.v (.bool true)))])
    (.op (.bin .eql (.x 0) (.c (.v (.int .i64 95)))) (
    .jump [(.x 4)])))))))) (
.ret [(.x 1)])

theorem T.spec_l1NameByte_l : leftF Try.prog CF Try.f203 = some (1, T.spec_l1NameByte) := by kernel_rfl

theorem T.spec_l1NameByte_con {args : List AV} {res : AV} (hl : args.length = 1) (hn : AV.norefs args = true) (hw : wpT Try.prog (fun _ _ _ => False) (fun a => a = res) T.spec_l1NameByte args []) : PCon Try.prog F.spec_l1NameByte args res :=
  con_auto Try.func203 T.spec_l1NameByte_l hl hn hw

def T.laws_toPatS : T :=
.op (.lenL (.x 0)) (
.op (.rep 64 (.agg [(.v (.int .i64 0)), (.v (.string ⟨#[]⟩)), (.v (.int .i64 0)), (.v (.int .i64 0)), .nils]) (.x 1) (.x 1)) (
.bind 1 (
 .loop [(.x 2), (.c (.v (.int .i64 0)))] (
  .op (.lenL (.x 0)) (
  .op (.bin .lss (.x 4) (.x 5)) (
  .ite (.x 6)
   (.op (.elem 5 (.x 0) (.x 4)) (
   .chk (.cells (.x 7) 5) (
   .op (.call F.laws_toPat [(.x 7)] false) (
   .chk (.idx (.x 3) (.x 4)) (
   .chk (.cells (.x 8) 5) (
   .op (.set (.x 3) (.x 4) 0 5 (.x 8)) (
   .op (.bin .add (.x 4) (.c (.v (.int .i64 1)))) (
   .jump [(.x 9), (.x 10)]))))))))
   (.esc (.jump [(.x 3)])))))) (
.ret [(.sl (.x 3))])))

theorem T.laws_toPatS_l : leftF Try.prog CF Try.f204 = some (1, T.laws_toPatS) := by kernel_rfl

theorem T.laws_toPatS_con {args : List AV} {res : AV} (hl : args.length = 1) (hn : AV.norefs args = true) (hw : wpT Try.prog (fun _ _ _ => False) (fun a => a = res) T.laws_toPatS args []) : PCon Try.prog F.laws_toPatS args res :=
  con_auto Try.func204 T.laws_toPatS_l hl hn hw

def T.laws_eqPatS : T :=
.op (.lenL (.x 0)) (
.op (.lenL (.x 1)) (
.op (.bin .neq (.x 2) (.x 3)) (
.ite (.x 4)
 (.ret [(.c (.v (.bool false)))])
 (.bind 0 (
  .loop [(.c (.v (.int .i64 0)))] (
   .op (.lenL (.x 0)) (
   .op (.bin .lss (.x 5) (.x 6)) (
   .ite (.x 7)
    (.op (.elem 5 (.x 0) (.x 5)) (
    .chk (.cells (.x 8) 5) (
    .op (.elem 5 (.x 1) (.x 5)) (
    .chk (.cells (.x 9) 5) (
    .op (.call F.laws_eqPat [(.x 8), (.x 9)] true) (
    .op (.un .not (.x 10)) (
    .ite (.x 11)
     (.esc (.esc (.ret [(.c (.v (.bool false)))])))
     (.op (.bin .add (.x 5) (.c (.v (.int .i64 1)))) (
     .jump [(.x 12)])))))))))
    (.esc (.jump [])))))) (
 .ret [(.c (.v (.bool true)))])))))

theorem T.laws_eqPatS_l : leftF Try.prog CF Try.f205 = some (2, T.laws_eqPatS) := by kernel_rfl

theorem T.laws_eqPatS_con {args : List AV} {res : AV} (hl : args.length = 2) (hn : AV.norefs args = true) (hw : wpT Try.prog (fun _ _ _ => False) (fun a => a = res) T.laws_eqPatS args []) : PCon Try.prog F.laws_eqPatS args res :=
  con_auto Try.func205 T.laws_eqPatS_l hl hn hw

def T.impl_run : T :=
.bind 1 (
 .loop [(.x 1)] (
  .bind 0 (
   .bind 1 (
    .op (.lenS (.x 0)) (
    .op (.bin .lss (.x 3) (.x 4)) (
    .ite (.x 5)
     (.op (.idxS (.x 0) (.x 3)) (
     .op (.callv (.x 2) [(.x 6)] false) (
     .jump [(.x 7)])))
     (.jump [(.c (.v (.bool false)))])))) (
   .ite (.x 4)
    (.jump [])
    (.esc (.esc (.jump [(.x 3)]))))) (
  .op (.bin .add (.x 3) (.c (.v (.int .i64 1)))) (
  .jump [(.x 4)])))) (
.ret [(.x 3)])

theorem T.impl_run_l : leftF Try.prog CF Try.f206 = some (3, T.impl_run) := by kernel_rfl

theorem T.impl_run_con {args : List AV} {res : AV} (hl : args.length = 3) (hn : AV.norefs args = true) (hw : wpT Try.prog (fun _ _ _ => False) (fun a => a = res) T.impl_run args []) : PCon Try.prog F.impl_run args res :=
  con_auto Try.func206 T.impl_run_l hl hn hw

def T.impl_nameByte : T :=
.bind 1 (
 .op (.call F.impl_small [(.x 0)] false) (
 .ite (.x 1)
  (.jump [(.c (.v (.bool true)))])
  (.op (.call F.impl_great [(.x 0)] false) (
  .ite (.x 2)
   (.jump [(.c (.v (.bool true)))])
   (.op (.call F.impl_digit [(.x 0)] false) (
   .ite (.x 3)
    (.jump [(.c (.v (.bool true)))])
    (.op (.bin .eql (.x 0) (.c (.v (.int .u8 95)))) (
    .jump [(.x 4)])))))))) (
.ret [(.x 1)])

theorem T.impl_nameByte_l : leftF Try.prog CF Try.f207 = some (1, T.impl_nameByte) := by kernel_rfl

theorem T.impl_nameByte_con {args : List AV} {res : AV} (hl : args.length = 1) (hn : AV.norefs args = true) (hw : wpT Try.prog (fun _ _ _ => False) (fun a => a = res) T.impl_nameByte args []) : PCon Try.prog F.impl_nameByte args res :=
  con_auto Try.func207 T.impl_nameByte_l hl hn hw

def T.slices_Index__string_string : T :=
.bind 0 (
 .op (.lenL (.x 0)) (
 .loop [(.c (.v (.int .i64 0)))] (
  .op (.bin .lss (.x 3) (.x 2)) (
  .ite (.x 4)
   (.op (.elem 1 (.x 0) (.x 3)) (
   .chk (.lt (.x 5) 0) (
   .op (.bin .eql (.x 1) (.cell 5 0)) (
   .ite (.x 6)
    (.esc (.esc (.ret [(.x 3)])))
    (.op (.bin .add (.x 3) (.c (.v (.int .i64 1)))) (
    .jump [(.x 7)]))))))
   (.esc (.jump [])))))) (
.ret [(.c (.v (.int .i64 (-1))))])

theorem T.slices_Index__string_string_l : leftF Try.prog CF Try.f208 = some (2, T.slices_Index__string_string) := by kernel_rfl

theorem T.slices_Index__string_string_con {args : List AV} {res : AV} (hl : args.length = 2) (hn : AV.norefs args = true) (hw : wpT Try.prog (fun _ _ _ => False) (fun a => a = res) T.slices_Index__string_string args []) : PCon Try.prog F.slices_Index__string_string args res :=
  con_auto Try.func208 T.slices_Index__string_string_l hl hn hw

def T.spec_l1Num : T :=
.op (.call F.spec_l1In [(.x 0), (.c (.v (.int .i64 48))), (.c (.v (.int .i64 57)))] false) (
.ret [(.x 1)])

theorem T.spec_l1Num_l : leftF Try.prog CF Try.f209 = some (1, T.spec_l1Num) := by kernel_rfl

theorem T.spec_l1Num_con {args : List AV} {res : AV} (hl : args.length = 1) (hn : AV.norefs args = true) (hw : wpT Try.prog (fun _ _ _ => False) (fun a => a = res) T.spec_l1Num args []) : PCon Try.prog F.spec_l1Num args res :=
  con_auto Try.func209 T.spec_l1Num_l hl hn hw

def T.impl_digit : T :=
.bind 1 (
 .op (.bin .geq (.x 0) (.c (.v (.int .u8 48)))) (
 .ite (.x 1)
  (.op (.bin .leq (.x 0) (.c (.v (.int .u8 57)))) (
  .jump [(.x 2)]))
  (.jump [(.c (.v (.bool false)))]))) (
.ret [(.x 1)])

theorem T.impl_digit_l : leftF Try.prog CF Try.f210 = some (1, T.impl_digit) := by kernel_rfl

theorem T.impl_digit_con {args : List AV} {res : AV} (hl : args.length = 1) (hn : AV.norefs args = true) (hw : wpT Try.prog (fun _ _ _ => False) (fun a => a = res) T.impl_digit args []) : PCon Try.prog F.impl_digit args res :=
  con_auto Try.func210 T.impl_digit_l hl hn hw

end Go.Proofs.Ab
