/-
  WHAT IS LEFT of this seat's functions, printed by a program of ours (wip/tool/Gen2.lean) from the translation; each with the theorem that it is what is left of that function.
-/
import Derived.Test.YtbejmmfalfjinaaChecked
import Derived.KernelRfl
import Derived.Test.YtbejmmfalfjinaaAbM4
set_option linter.unusedVariables false
set_option linter.unusedSimpArgs false
set_option linter.defProp false
namespace Go.Proofs.Ab
open Go.Ab
set_option maxRecDepth 100000
namespace F
abbrev laws_FnExactStats : FuncId := 3
abbrev laws_FnRenamed : FuncId := 4
abbrev laws_FnExactFree : FuncId := 5
abbrev laws_FnExactPut : FuncId := 6
abbrev laws_FnExactAlpha : FuncId := 7
abbrev laws_FnExactUnify : FuncId := 8
abbrev laws_szCode : FuncId := 9
abbrev spec_Stats : FuncId := 10
abbrev laws_toCode : FuncId := 11
abbrev impl_Stats : FuncId := 12
abbrev laws_eqIntA16 : FuncId := 13
abbrev laws_eqCode : FuncId := 14
abbrev laws_big : FuncId := 15
abbrev laws_at : FuncId := 16
abbrev impl_Alpha : FuncId := 17
abbrev laws_szTy : FuncId := 18
abbrev spec_Free : FuncId := 19
abbrev laws_toTy : FuncId := 20
abbrev impl_Free : FuncId := 21
abbrev laws_eqIntS : FuncId := 22
abbrev laws_eqTy : FuncId := 23
abbrev laws_markTy : FuncId := 24
abbrev laws_markIntS : FuncId := 25
abbrev laws_heldIntS : FuncId := 26
abbrev laws_szTyS : FuncId := 27
abbrev spec_Put : FuncId := 28
abbrev laws_toTyS : FuncId := 29
abbrev impl_Put : FuncId := 30
abbrev laws_eqTyS : FuncId := 31
abbrev laws_markTyS : FuncId := 32
abbrev laws_heldTy : FuncId := 33
abbrev laws_szExp : FuncId := 34
abbrev spec_Alpha : FuncId := 35
abbrev laws_toExp : FuncId := 36
abbrev laws_eqExp : FuncId := 37
abbrev spec_Unify : FuncId := 38
abbrev impl_Unify : FuncId := 39
abbrev laws_heldTyS : FuncId := 40
abbrev laws_szInstrS : FuncId := 41
abbrev laws_szIntS : FuncId := 42
abbrev spec_l1In : FuncId := 43
abbrev laws_toInstrS : FuncId := 44
abbrev laws_toIntS : FuncId := 45
abbrev impl_within : FuncId := 46
abbrev laws_eqInstrS : FuncId := 47
abbrev impl_ExpOk : FuncId := 48
abbrev impl_alpha : FuncId := 49
abbrev spec_TyOk : FuncId := 50
abbrev spec_l4Free : FuncId := 51
abbrev impl_isVarKind : FuncId := 52
abbrev impl_TyOk : FuncId := 53
abbrev impl_frees : FuncId := 54
abbrev spec_l4Copy : FuncId := 55
abbrev spec_l4Put : FuncId := 56
abbrev impl_copyTy : FuncId := 57
abbrev impl_put : FuncId := 58
abbrev laws_markText : FuncId := 59
abbrev laws_szExpS : FuncId := 60
abbrev laws_szArmS : FuncId := 61
abbrev spec_ExpOk : FuncId := 62
abbrev spec_l19Same : FuncId := 63
abbrev laws_toExpS : FuncId := 64
abbrev laws_toArmS : FuncId := 65
abbrev laws_eqExpS : FuncId := 66
abbrev laws_eqArmS : FuncId := 67
abbrev spec_l4Right : FuncId := 68
abbrev spec_l4Metas : FuncId := 69
abbrev spec_l4Lay : FuncId := 70
abbrev spec_l4Join : FuncId := 71
abbrev spec_l4Sizes : FuncId := 72
abbrev spec_l4Find : FuncId := 73
abbrev spec_l4Read : FuncId := 74
abbrev laws_szInstr : FuncId := 83
abbrev laws_toInstr : FuncId := 84
abbrev laws_eqInstr : FuncId := 85
abbrev impl_headOk : FuncId := 86
abbrev impl_patOk : FuncId := 87
abbrev impl_names_at : FuncId := 88
abbrev slices_Concat_impl_names_string : FuncId := 89
abbrev impl_bindsIn : FuncId := 90
abbrev impl_alikePat : FuncId := 91
abbrev impl_patNames : FuncId := 92
abbrev spec_l4Node : FuncId := 93
abbrev spec_l4Has : FuncId := 94
abbrev impl_tyHeadOk : FuncId := 95
abbrev slices_ContainsFunc__impl_Ty_impl_Ty : FuncId := 96
abbrev impl_TyOk_1 : FuncId := 97
abbrev slices_Contains__int_int : FuncId := 98
abbrev laws_szArm : FuncId := 99
abbrev spec_l2Node : FuncId := 100
abbrev spec_l2PatOk : FuncId := 101
abbrev spec_l19Name : FuncId := 102
abbrev spec_l5With : FuncId := 103
abbrev spec_l19Pats : FuncId := 104
abbrev laws_toArm : FuncId := 105
abbrev laws_eqArm : FuncId := 106
abbrev spec_TySize : FuncId := 107
abbrev spec_l4Add : FuncId := 108
abbrev impl_plain : FuncId := 114
abbrev impl_lowOk : FuncId := 115
abbrev impl_upOk : FuncId := 116
abbrev impl_binarySign : FuncId := 117
abbrev impl_primArity : FuncId := 118
abbrev slices_ContainsFunc__impl_Pat_impl_Pat : FuncId := 119
abbrev impl_patOk_1 : FuncId := 120
abbrev slices_Grow_impl_names_string : FuncId := 121
abbrev slices_EqualFunc__impl_Pat__impl_Pat_impl_Pat_impl_Pat : FuncId := 122
abbrev spec_l1Low : FuncId := 123
abbrev slices_IndexFunc__impl_Ty_impl_Ty : FuncId := 124
abbrev slices_Index__int_int : FuncId := 125
abbrev laws_szPat : FuncId := 126
abbrev spec_l2Plain : FuncId := 127
abbrev spec_l1Chars : FuncId := 128
abbrev spec_l1Name : FuncId := 129
abbrev spec_l2Op : FuncId := 130
abbrev spec_l2Prim : FuncId := 131
abbrev spec_l19Bound : FuncId := 132
abbrev laws_toPat : FuncId := 133
abbrev laws_eqPat : FuncId := 134
abbrev slices_Grow__impl_Ty_impl_Ty : FuncId := 135
abbrev impl_isName : FuncId := 137
abbrev impl_small : FuncId := 138
abbrev impl_isKey : FuncId := 139
abbrev impl_great : FuncId := 140
abbrev slices_Contains__string_string : FuncId := 141
abbrev slices_IndexFunc__impl_Pat_impl_Pat : FuncId := 142
abbrev spec_l1Key : FuncId := 143
abbrev laws_szPatS : FuncId := 144
abbrev spec_l1Upper : FuncId := 145
abbrev spec_l1Lower : FuncId := 146
abbrev spec_l1NameByte : FuncId := 147
abbrev laws_toPatS : FuncId := 148
abbrev laws_eqPatS : FuncId := 149
abbrev impl_run : FuncId := 150
abbrev impl_nameByte : FuncId := 151
abbrev slices_Index__string_string : FuncId := 152
abbrev spec_l1Num : FuncId := 153
abbrev impl_digit : FuncId := 154
end F
def FL : List Nat := [3, 4, 5, 6, 7, 8, 9, 13, 14, 15, 16, 17, 18, 22, 23, 24, 25, 26, 27, 31, 32, 33, 34, 35, 37, 40, 41, 42, 43, 46, 47, 48, 49, 50, 52, 53, 59, 60, 61, 62, 63, 66, 67, 68, 70, 71, 72, 73, 75, 77, 79, 80, 83, 85, 86, 87, 88, 91, 93, 94, 95, 96, 97, 98, 99, 100, 101, 102, 106, 107, 108, 110, 111, 112, 114, 115, 116, 117, 118, 119, 120, 122, 123, 124, 125, 126, 127, 128, 129, 130, 131, 132, 134, 136, 137, 138, 139, 140, 141, 142, 143, 144, 145, 146, 147, 149, 150, 151, 152, 153, 154]
def FR : List (Nat × Bool × Nat × Nat) := [(21, true, 3, 1), (19, false, 3, 1), (54, true, 3, 1)]
abbrev G.laws_markIntS : Sig := ⟨2, [(.row 0 (.x 0)), (.d (.x 1))], [(.row true 3 1 (.x 0))], 2, (.d (.x 1)), [(.row true 3 1 (.x 0))], [0]⟩
abbrev G.spec_l4Free : Sig := ⟨3, [(.d (.x 0)), (.d (.x 1)), (.row 0 (.x 2))], [(.row false 3 1 (.x 2))], 1, (.row 0 (.x 0)), [(.row false 3 1 (.x 0))], []⟩
abbrev G.slices_Grow_impl_names_string : Sig := ⟨1, [(.d (.c .nils)), (.d (.x 0))], [], 1, (.row 0 (.x 0)), [(.row false 9 1 (.x 0))], []⟩
abbrev G.slices_Grow_impl_names_string_s1 : Sig := ⟨1, [(.d (.c .nils)), (.d (.x 0))], [], 0, (.d (.c .nils)), [], []⟩
abbrev G.slices_Grow__impl_Ty_impl_Ty : Sig := ⟨1, [(.d (.c .nils)), (.d (.x 0))], [], 1, (.row 0 (.x 0)), [(.row false 52 4 (.x 0))], []⟩
abbrev G.slices_Grow__impl_Ty_impl_Ty_s1 : Sig := ⟨1, [(.d (.c .nils)), (.d (.x 0))], [], 0, (.d (.c .nils)), [], []⟩
def SG : List (Nat × List Sig) := [(25, [G.laws_markIntS]), (51, [G.spec_l4Free]), (121, [G.slices_Grow_impl_names_string, G.slices_Grow_impl_names_string_s1]), (135, [G.slices_Grow__impl_Ty_impl_Ty, G.slices_Grow__impl_Ty_impl_Ty_s1])]
abbrev CF : Cfg := ⟨FL, FR, SG, false⟩
abbrev CFC : Cfg := ⟨FL, FR, SG, true⟩
def SGB : List (Nat × List Sig) := [(25, [G.laws_markIntS]), (51, [G.spec_l4Free]), (121, [G.slices_Grow_impl_names_string_s1]), (135, [G.slices_Grow__impl_Ty_impl_Ty_s1])]
abbrev CFB : Cfg := ⟨FL, FR, SGB, false⟩
-- TYPE 0 1 ()
-- TYPE 1 1 func()
-- TYPE 2 1 int64
-- TYPE 3 1 int
-- TYPE 4 1 bool
-- TYPE 5 1 uint8
-- TYPE 6 1 abi.BoundsErrorCode
-- TYPE 8 4 runtime.boundsError
-- TYPE 9 1 string
-- TYPE 10 1 runtime.errorString
-- TYPE 11 1 runtime.plainError
-- TYPE 12 1 uintptr
-- TYPE 14 2 runtime.errorAddressString
-- TYPE 15 1 *runtime.TypeAssertionError
-- TYPE 16 1 *runtime.PanicNilError
-- TYPE 17 1 *abi.Type
-- TYPE 19 1 maps.unhashableTypeError
-- TYPE 21 1 int32
-- TYPE 22 1 []laws.Instr
-- TYPE 23 1 []int
-- TYPE 25 2 laws.Code
-- TYPE 26 1 func(laws.Code, int) int
-- TYPE 27 16 [16]int
-- TYPE 28 1 func(impl.Code) [16]int
-- TYPE 29 1 []impl.Instr
-- TYPE 31 2 impl.Code
-- TYPE 32 1 func(laws.Code) impl.Code
-- TYPE 33 1 func([16]int, [16]int) bool
-- TYPE 34 1 func(impl.Code, impl.Code) bool
-- TYPE 35 1 func(laws.Code) bool
-- TYPE 36 1 []uint8
-- TYPE 37 1 func([]uint8) bool
-- TYPE 38 1 []string
-- TYPE 39 1 func([]uint8, int) int
-- TYPE 40 1 []impl.Exp
-- TYPE 41 1 []impl.Arm
-- TYPE 43 7 impl.Exp
-- TYPE 44 1 func(impl.Exp, impl.Exp) bool
-- TYPE 45 1 []laws.Ty
-- TYPE 47 4 laws.Ty
-- TYPE 48 1 func(laws.Ty, int) int
-- TYPE 49 1 func(impl.Ty, int) []int
-- TYPE 50 1 []impl.Ty
-- TYPE 52 4 impl.Ty
-- TYPE 53 1 func(laws.Ty) impl.Ty
-- TYPE 54 1 func([]int, []int) bool
-- TYPE 55 1 func(impl.Ty, impl.Ty) bool
-- TYPE 56 1 func(impl.Ty, int) int
-- TYPE 57 1 func([]int, int) int
-- TYPE 58 1 func(laws.Ty, int) bool
-- TYPE 59 1 func([]laws.Ty, int) int
-- TYPE 60 1 func(impl.Ty, int, []impl.Ty) impl.Ty
-- TYPE 61 1 func([]laws.Ty) []impl.Ty
-- TYPE 62 1 func([]impl.Ty, []impl.Ty) bool
-- TYPE 63 1 func([]impl.Ty, int) int
-- TYPE 64 1 func(laws.Ty, int, []laws.Ty) bool
-- TYPE 65 1 []laws.Exp
-- TYPE 66 1 []laws.Arm
-- TYPE 68 7 laws.Exp
-- TYPE 69 1 func(laws.Exp, int) int
-- TYPE 70 1 func(laws.Exp) impl.Exp
-- TYPE 71 1 func(laws.Exp, laws.Exp) bool
-- TYPE 72 1 ([]impl.Ty, int)
-- TYPE 73 1 func(int, []impl.Ty, []impl.Ty) ([]impl.Ty, int)
-- TYPE 74 1 func(int, []laws.Ty, []laws.Ty) bool
-- TYPE 75 1 func([]laws.Instr, int) int
-- TYPE 77 6 impl.Instr
-- TYPE 78 1 func(int, int, int) bool
-- TYPE 79 1 func([]laws.Instr) []impl.Instr
-- TYPE 80 1 func([]int) []int
-- TYPE 81 1 func([]impl.Instr, []impl.Instr) bool
-- TYPE 82 1 func(impl.Exp) bool
-- TYPE 83 1 func(impl.Exp, impl.Exp, impl.names, impl.names) bool
-- TYPE 84 1 func(impl.Ty) bool
-- TYPE 85 1 func(impl.Ty, int, []int) []int
-- TYPE 86 1 func(int) bool
-- TYPE 87 1 func(impl.Ty) impl.Ty
-- TYPE 88 1 func(int) string
-- TYPE 89 1 func([]laws.Exp, int) int
-- TYPE 90 1 func([]laws.Arm, int) int
-- TYPE 91 1 func(impl.Exp, impl.Exp, []string, []string) bool
-- TYPE 92 1 func([]laws.Exp) []impl.Exp
-- TYPE 93 1 func([]laws.Arm) []impl.Arm
-- TYPE 94 1 func([]impl.Exp, []impl.Exp) bool
-- TYPE 95 1 func([]impl.Arm, []impl.Arm) bool
-- TYPE 96 1 func([]impl.Ty, int) bool
-- TYPE 97 1 *spec.l4Net
-- TYPE 98 1 func(int) *spec.l4Net
-- TYPE 99 1 func(*spec.l4Net, impl.Ty) int
-- TYPE 100 1 func(*spec.l4Net, int, int) bool
-- TYPE 101 1 [][]int
-- TYPE 103 3 spec.l4Net
-- TYPE 104 1 func(*spec.l4Net, int, []int, int) bool
-- TYPE 105 1 func(*spec.l4Net, int) int
-- TYPE 106 1 func(*spec.l4Net, int) impl.Ty
-- TYPE 107 1 func(int, []impl.Ty, []impl.Ty) bool
-- TYPE 108 1 []*impl.node
-- TYPE 109 1 *impl.node
-- TYPE 111 5 impl.node
-- TYPE 112 1 func(int) *impl.node
-- TYPE 113 1 map[*impl.node]int
-- TYPE 114 1 func(*impl.node, *impl.node) bool
-- TYPE 115 1 func(impl.Ty, int, func(int) *impl.node) *impl.node
-- TYPE 116 1 func(*impl.node, map[*impl.node]int) bool
-- TYPE 117 1 func(*impl.node, map[*impl.node]int) int
-- TYPE 118 1 func(*impl.node, func(*impl.node) impl.Ty) impl.Ty
-- TYPE 119 1 func(*impl.node) impl.Ty
-- TYPE 120 1 func(laws.Instr, int) int
-- TYPE 121 6 laws.Instr
-- TYPE 122 1 func(laws.Instr) impl.Instr
-- TYPE 123 1 func(impl.Instr, impl.Instr) bool
-- TYPE 124 1 []impl.Pat
-- TYPE 126 5 impl.Pat
-- TYPE 128 12 impl.Arm
-- TYPE 129 1 func(impl.Pat) bool
-- TYPE 130 1 impl.names
-- TYPE 131 1 func(string) int
-- TYPE 132 1 func(...impl.names) impl.names
-- TYPE 133 1 func(impl.Exp, int) []string
-- TYPE 134 1 func(impl.Pat, impl.Pat) bool
-- TYPE 135 1 func(impl.Pat) []string
-- TYPE 136 1 func([]int, int) bool
-- TYPE 137 1 func([]impl.Ty, func(impl.Ty) bool) bool
-- TYPE 138 1 func(laws.Arm, int) int
-- TYPE 139 1 []laws.Pat
-- TYPE 141 5 laws.Pat
-- TYPE 143 12 laws.Arm
-- TYPE 144 1 func([]string, []string, string, string) bool
-- TYPE 145 1 func([]string, []string) []string
-- TYPE 146 1 ([]string, []string, bool)
-- TYPE 147 1 func(impl.Pat, impl.Pat, []string, []string) ([]string, []string, bool)
-- TYPE 148 1 func(laws.Arm) impl.Arm
-- TYPE 149 1 func(impl.Arm, impl.Arm) bool
-- TYPE 150 1 func(impl.Ty) int
-- TYPE 151 1 func(*spec.l4Net, impl.Ty, []int) int
-- TYPE 152 1 func(...[]impl.Ty) []impl.Ty
-- TYPE 153 1 func([]int, func(int) bool) bool
-- TYPE 154 1 func(*impl.node) *impl.node
-- TYPE 155 1 (int, bool)
-- TYPE 156 1 func(string) bool
-- TYPE 157 1 func([]impl.Pat, func(impl.Pat) bool) bool
-- TYPE 158 1 []impl.names
-- TYPE 159 1 func(impl.names, int) impl.names
-- TYPE 160 1 func([]impl.Pat, []impl.Pat, func(impl.Pat, impl.Pat) bool) bool
-- TYPE 161 1 func([]impl.Ty, func(impl.Ty) bool) int
-- TYPE 162 1 func(laws.Pat, int) int
-- TYPE 163 1 func(impl.Exp, string) bool
-- TYPE 164 1 func(string, bool) bool
-- TYPE 165 1 func([]string, string) int
-- TYPE 166 1 func(laws.Pat) impl.Pat
-- TYPE 167 1 [][]impl.Ty
-- TYPE 168 1 func([]impl.Ty, int) []impl.Ty
-- TYPE 169 1 func([]int, func(int) bool) int
-- TYPE 170 1 func(string, func(uint8) bool) bool
-- TYPE 171 1 func(uint8) bool
-- TYPE 172 1 func([]string, string) bool
-- TYPE 173 1 func([]impl.Pat, func(impl.Pat) bool) int
-- TYPE 174 1 func([]laws.Pat, int) int
-- TYPE 175 1 func([]laws.Pat) []impl.Pat
-- TYPE 176 1 func([]impl.Pat, []impl.Pat) bool
-- TYPE 177 1 func(string, int, func(uint8) bool) int
-- TYPE 178 1 func() string
-- TYPE 180 4 runtime.TypeAssertionError
-- TYPE 181 0 [0]*runtime.PanicNilError
-- TYPE 183 0 runtime.PanicNilError
-- TYPE 184 1 func() int
-- TYPE 185 1 uint32
-- TYPE 186 1 abi.TFlag
-- TYPE 187 1 abi.Kind
-- TYPE 188 1 func(unsafe.Pointer, unsafe.Pointer) bool
-- TYPE 189 1 *uint8
-- TYPE 190 1 abi.NameOff
-- TYPE 191 1 abi.TypeOff
-- TYPE 193 11 abi.Type
-- TYPE 194 1 unsafe.Pointer
-- LAW laws_FnExactStats 3 [25] [4]
-- LAW laws_FnRenamed 4 [36] [4]
-- LAW laws_FnExactFree 5 [47, 3] [4]
-- LAW laws_FnExactPut 6 [47, 3, 45] [4]
-- LAW laws_FnExactAlpha 7 [68, 68] [4]
-- LAW laws_FnExactUnify 8 [3, 45, 45] [4]
def T.laws_FnExactStats : T :=
.chk (.cells (.x 0) 2) (
.chk (.cells (.x 0) 2) (
.op (.call F.laws_szCode [(.x 0), (.c (.v (.int .i64 1048576)))] false) (
.op (.bin .lss (.x 1) (.c (.v (.int .i64 0)))) (
.ite (.x 2)
 (.ret [(.c (.v (.bool true)))])
 (.chk (.cells (.x 0) 2) (
 .op (.call F.laws_toCode [(.x 0)] false) (
 .op (.call F.spec_Stats [(.x 3)] false) (
 .chk (.cells (.x 4) 16) (
 .chk (.cells (.x 0) 2) (
 .op (.call F.laws_toCode [(.x 0)] false) (
 .chk (.cells (.x 5) 2) (
 .chk (.cells (.x 5) 2) (
 .op (.call F.impl_Stats [(.x 5)] false) (
 .chk (.cells (.x 6) 16) (
 .chk (.cells (.x 6) 16) (
 .chk (.cells (.x 4) 16) (
 .op (.call F.laws_eqIntA16 [(.x 6), (.x 4)] false) (
 .op (.un .not (.x 7)) (
 .ite (.x 8)
  (.ret [(.c (.v (.bool false)))])
  (.chk (.cells (.x 5) 2) (
  .chk (.cells (.x 0) 2) (
  .op (.call F.laws_toCode [(.x 0)] false) (
  .op (.call F.laws_eqCode [(.x 5), (.x 9)] true) (
  .op (.un .not (.x 10)) (
  .ite (.x 11)
   (.ret [(.c (.v (.bool false)))])
   (.ret [(.c (.v (.bool true)))]))))))))))))))))))))))))))
def T.laws_FnRenamed : T :=
.op (.call F.laws_big [(.x 0)] false) (
.ite (.x 1)
 (.ret [(.c (.v (.bool true)))])
 (.chk (.one (.c (.v (.string ⟨#[97]⟩)))) (
 .chk (.one (.c (.v (.string ⟨#[98]⟩)))) (
 .chk (.one (.c (.v (.string ⟨#[99]⟩)))) (
 .op (.mkl (.v (.string ⟨#[]⟩)) 3 [(0, (.c (.v (.string ⟨#[97]⟩)))), (1, (.c (.v (.string ⟨#[98]⟩)))), (2, (.c (.v (.string ⟨#[99]⟩))))]) (
 .op (.call F.laws_at [(.x 0), (.c (.v (.int .i64 0)))] false) (
 .op (.bin .rem (.x 3) (.c (.v (.int .i64 3)))) (
 .chk (.idx (.x 2) (.x 4)) (
 .op (.get (.x 2) (.x 4) 0 none) (
 .op (.call F.laws_at [(.x 0), (.c (.v (.int .i64 1)))] false) (
 .op (.bin .rem (.x 6) (.c (.v (.int .i64 3)))) (
 .chk (.idx (.x 2) (.x 7)) (
 .op (.get (.x 2) (.x 7) 0 none) (
 .op (.call F.laws_at [(.x 0), (.c (.v (.int .i64 2)))] false) (
 .op (.bin .rem (.x 9) (.c (.v (.int .i64 3)))) (
 .chk (.idx (.x 2) (.x 10)) (
 .op (.get (.x 2) (.x 10) 0 none) (
 .chk (.one (.c (.v (.int .i64 5)))) (
 .chk (.one (.x 11)) (
 .chk (.cells (.agg [(.c (.v (.int .i64 5))), (.x 11), (.c (.v (.int .i64 0))), (.c (.v (.string ⟨#[]⟩))), (.c (.v (.int .i64 0))), (.c .nils), (.c .nils)]) 7) (
 .chk (.cells (.agg [(.c (.v (.int .i64 5))), (.x 11), (.c (.v (.int .i64 0))), (.c (.v (.string ⟨#[]⟩))), (.c (.v (.int .i64 0))), (.c .nils), (.c .nils)]) 7) (
 .op (.mkl (.agg [(.v (.int .i64 0)), (.v (.string ⟨#[]⟩)), (.v (.int .i64 0)), (.v (.string ⟨#[]⟩)), (.v (.int .i64 0)), .nils, .nils]) 1 [(0, (.agg [(.c (.v (.int .i64 5))), (.x 11), (.c (.v (.int .i64 0))), (.c (.v (.string ⟨#[]⟩))), (.c (.v (.int .i64 0))), (.c .nils), (.c .nils)]))]) (
 .chk (.one (.c (.v (.int .i64 8)))) (
 .chk (.one (.x 8)) (
 .chk (.cells (.agg [(.c (.v (.int .i64 8))), (.x 8), (.c (.v (.int .i64 0))), (.c (.v (.string ⟨#[]⟩))), (.c (.v (.int .i64 0))), (.sl (.x 12)), (.c .nils)]) 7) (
 .op (.mkl (.agg [(.v (.int .i64 0)), (.v (.string ⟨#[]⟩)), (.v (.int .i64 0)), (.v (.string ⟨#[]⟩)), (.v (.int .i64 0)), .nils, .nils]) 1 [(0, (.agg [(.c (.v (.int .i64 8))), (.x 8), (.c (.v (.int .i64 0))), (.c (.v (.string ⟨#[]⟩))), (.c (.v (.int .i64 0))), (.sl (.x 12)), (.c .nils)]))]) (
 .chk (.one (.c (.v (.int .i64 8)))) (
 .chk (.one (.x 5)) (
 .chk (.one (.c (.v (.int .i64 8)))) (
 .chk (.one (.x 5)) (
 .chk (.one (.c (.v (.int .i64 0)))) (
 .chk (.one (.c (.v (.string ⟨#[]⟩)))) (
 .chk (.one (.c (.v (.int .i64 0)))) (
 .chk (.one (.c .nils)) (
 .chk (.one (.c (.v (.int .i64 5)))) (
 .chk (.one (.c (.v (.string ⟨#[112]⟩)))) (
 .chk (.cells (.agg [(.c (.v (.int .i64 5))), (.c (.v (.string ⟨#[112]⟩))), (.c (.v (.int .i64 0))), (.c (.v (.string ⟨#[]⟩))), (.c (.v (.int .i64 0))), (.c .nils), (.c .nils)]) 7) (
 .op (.mkl (.agg [(.v (.int .i64 0)), (.v (.string ⟨#[]⟩)), (.v (.int .i64 0)), (.v (.string ⟨#[]⟩)), (.v (.int .i64 0)), .nils, .nils]) 1 [(0, (.agg [(.c (.v (.int .i64 5))), (.c (.v (.string ⟨#[112]⟩))), (.c (.v (.int .i64 0))), (.c (.v (.string ⟨#[]⟩))), (.c (.v (.int .i64 0))), (.c .nils), (.c .nils)]))]) (
 .chk (.one (.c (.v (.int .i64 8)))) (
 .chk (.one (.c (.v (.string ⟨#[113]⟩)))) (
 .chk (.cells (.agg [(.c (.v (.int .i64 8))), (.c (.v (.string ⟨#[113]⟩))), (.c (.v (.int .i64 0))), (.c (.v (.string ⟨#[]⟩))), (.c (.v (.int .i64 0))), (.sl (.x 14)), (.c .nils)]) 7) (
 .op (.mkl (.agg [(.v (.int .i64 0)), (.v (.string ⟨#[]⟩)), (.v (.int .i64 0)), (.v (.string ⟨#[]⟩)), (.v (.int .i64 0)), .nils, .nils]) 1 [(0, (.agg [(.c (.v (.int .i64 8))), (.c (.v (.string ⟨#[113]⟩))), (.c (.v (.int .i64 0))), (.c (.v (.string ⟨#[]⟩))), (.c (.v (.int .i64 0))), (.sl (.x 14)), (.c .nils)]))]) (
 .chk (.one (.c (.v (.int .i64 8)))) (
 .chk (.one (.c (.v (.string ⟨#[112]⟩)))) (
 .chk (.one (.c (.v (.int .i64 8)))) (
 .chk (.one (.c (.v (.string ⟨#[112]⟩)))) (
 .chk (.one (.c (.v (.int .i64 0)))) (
 .chk (.one (.c (.v (.string ⟨#[]⟩)))) (
 .chk (.one (.c (.v (.int .i64 0)))) (
 .chk (.one (.c .nils)) (
 .chk (.one (.c (.v (.int .i64 5)))) (
 .chk (.one (.c (.v (.string ⟨#[113]⟩)))) (
 .chk (.cells (.agg [(.c (.v (.int .i64 5))), (.c (.v (.string ⟨#[113]⟩))), (.c (.v (.int .i64 0))), (.c (.v (.string ⟨#[]⟩))), (.c (.v (.int .i64 0))), (.c .nils), (.c .nils)]) 7) (
 .op (.mkl (.agg [(.v (.int .i64 0)), (.v (.string ⟨#[]⟩)), (.v (.int .i64 0)), (.v (.string ⟨#[]⟩)), (.v (.int .i64 0)), .nils, .nils]) 1 [(0, (.agg [(.c (.v (.int .i64 5))), (.c (.v (.string ⟨#[113]⟩))), (.c (.v (.int .i64 0))), (.c (.v (.string ⟨#[]⟩))), (.c (.v (.int .i64 0))), (.c .nils), (.c .nils)]))]) (
 .chk (.one (.c (.v (.int .i64 8)))) (
 .chk (.one (.c (.v (.string ⟨#[113]⟩)))) (
 .chk (.cells (.agg [(.c (.v (.int .i64 8))), (.c (.v (.string ⟨#[113]⟩))), (.c (.v (.int .i64 0))), (.c (.v (.string ⟨#[]⟩))), (.c (.v (.int .i64 0))), (.sl (.x 16)), (.c .nils)]) 7) (
 .op (.mkl (.agg [(.v (.int .i64 0)), (.v (.string ⟨#[]⟩)), (.v (.int .i64 0)), (.v (.string ⟨#[]⟩)), (.v (.int .i64 0)), .nils, .nils]) 1 [(0, (.agg [(.c (.v (.int .i64 8))), (.c (.v (.string ⟨#[113]⟩))), (.c (.v (.int .i64 0))), (.c (.v (.string ⟨#[]⟩))), (.c (.v (.int .i64 0))), (.sl (.x 16)), (.c .nils)]))]) (
 .chk (.one (.c (.v (.int .i64 8)))) (
 .chk (.one (.c (.v (.string ⟨#[112]⟩)))) (
 .chk (.one (.c (.v (.int .i64 8)))) (
 .chk (.one (.c (.v (.string ⟨#[112]⟩)))) (
 .chk (.one (.c (.v (.int .i64 0)))) (
 .chk (.one (.c (.v (.string ⟨#[]⟩)))) (
 .chk (.one (.c (.v (.int .i64 0)))) (
 .chk (.one (.c .nils)) (
 .bind 1 (
  .op (.call F.impl_Alpha [(.agg [(.c (.v (.int .i64 8))), (.x 5), (.c (.v (.int .i64 0))), (.c (.v (.string ⟨#[]⟩))), (.c (.v (.int .i64 0))), (.sl (.x 13)), (.c .nils)]), (.agg [(.c (.v (.int .i64 8))), (.c (.v (.string ⟨#[112]⟩))), (.c (.v (.int .i64 0))), (.c (.v (.string ⟨#[]⟩))), (.c (.v (.int .i64 0))), (.sl (.x 17)), (.c .nils)])] false) (
  .op (.bin .eql (.x 11) (.x 8)) (
  .op (.beq false (.x 18) (.x 19)) (
  .ite (.x 20)
   (.op (.call F.impl_Alpha [(.agg [(.c (.v (.int .i64 8))), (.x 5), (.c (.v (.int .i64 0))), (.c (.v (.string ⟨#[]⟩))), (.c (.v (.int .i64 0))), (.sl (.x 13)), (.c .nils)]), (.agg [(.c (.v (.int .i64 8))), (.c (.v (.string ⟨#[112]⟩))), (.c (.v (.int .i64 0))), (.c (.v (.string ⟨#[]⟩))), (.c (.v (.int .i64 0))), (.sl (.x 15)), (.c .nils)])] false) (
   .op (.bin .eql (.x 11) (.x 5)) (
   .ite (.x 22)
    (.op (.bin .neq (.x 11) (.x 8)) (
    .op (.beq false (.x 21) (.x 23)) (
    .ite (.x 24)
     (.op (.call F.impl_Alpha [(.agg [(.c (.v (.int .i64 8))), (.x 5), (.c (.v (.int .i64 0))), (.c (.v (.string ⟨#[]⟩))), (.c (.v (.int .i64 0))), (.sl (.x 13)), (.c .nils)]), (.agg [(.c (.v (.int .i64 8))), (.x 5), (.c (.v (.int .i64 0))), (.c (.v (.string ⟨#[]⟩))), (.c (.v (.int .i64 0))), (.sl (.x 13)), (.c .nils)])] false) (
     .jump [(.x 25)]))
     (.jump [(.c (.v (.bool false)))]))))
    (.op (.beq false (.x 21) (.c (.v (.bool false)))) (
    .ite (.x 23)
     (.op (.call F.impl_Alpha [(.agg [(.c (.v (.int .i64 8))), (.x 5), (.c (.v (.int .i64 0))), (.c (.v (.string ⟨#[]⟩))), (.c (.v (.int .i64 0))), (.sl (.x 13)), (.c .nils)]), (.agg [(.c (.v (.int .i64 8))), (.x 5), (.c (.v (.int .i64 0))), (.c (.v (.string ⟨#[]⟩))), (.c (.v (.int .i64 0))), (.sl (.x 13)), (.c .nils)])] false) (
     .jump [(.x 24)]))
     (.jump [(.c (.v (.bool false)))]))))))
   (.jump [(.c (.v (.bool false)))]))))) (
 .ret [(.x 18)]))))))))))))))))))))))))))))))))))))))))))))))))))))))))))))))))))))
theorem T.laws_FnRenamed_l : leftF Try.prog CF Try.f4 = some (1, T.laws_FnRenamed) := by kernel_rfl
theorem T.laws_FnRenamed_con {args : List AV} {res : AV} (hl : args.length = 1) (hn : AV.norefs args = true) (hw : wpT Try.prog (fun _ _ _ => False) (fun a => a = res) T.laws_FnRenamed args []) : PCon Try.prog F.laws_FnRenamed args res :=
  con_auto Try.func4 T.laws_FnRenamed_l hl hn hw
def T.laws_FnExactFree : T :=
.chk (.cells (.x 0) 4) (
.chk (.cells (.x 0) 4) (
.op (.call F.laws_szTy [(.x 0), (.c (.v (.int .i64 1048576)))] false) (
.op (.bin .lss (.x 2) (.c (.v (.int .i64 0)))) (
.ite (.x 3)
 (.ret [(.c (.v (.bool true)))])
 (.chk (.cells (.x 0) 4) (
 .op (.call F.laws_toTy [(.x 0)] false) (
 .op (.fcall false 3 1 F.spec_Free [(.x 4), (.x 1)]) (
 .chk (.cells (.x 0) 4) (
 .op (.call F.laws_toTy [(.x 0)] false) (
 .chk (.cells (.x 6) 4) (
 .chk (.cells (.x 6) 4) (
 .op (.fcall true 3 1 F.impl_Free [(.x 6), (.x 1)]) (
 .op (.call F.laws_eqIntS [(.sl (.x 7)), (.sl (.x 5))] true) (
 .op (.un .not (.x 8)) (
 .ite (.x 9)
  (.ret [(.c (.v (.bool false)))])
  (.chk (.cells (.x 6) 4) (
  .chk (.cells (.x 0) 4) (
  .op (.call F.laws_toTy [(.x 0)] false) (
  .op (.call F.laws_eqTy [(.x 6), (.x 10)] true) (
  .op (.un .not (.x 11)) (
  .ite (.x 12)
   (.ret [(.c (.v (.bool false)))])
   (.chk (.cells (.x 6) 4) (
   .op (.call F.laws_markTy [(.x 6), (.c (.v (.int .i64 1)))] false) (
   .bind 0 (
    .bind 1 (
     .op (.bin .lss (.x 13) (.c (.v (.int .i64 0)))) (
     .ite (.x 14)
      (.jump [(.c (.v (.bool true)))])
      (.op (.call F.laws_eqIntS [(.sl (.x 7)), (.sl (.x 5))] true) (
      .op (.un .not (.x 15)) (
      .jump [(.x 16)]))))) (
    .ite (.x 14)
     (.esc (.ret [(.c (.v (.bool false)))]))
     (.jump []))) (
   .op (.scall F.laws_markIntS G.laws_markIntS [(.x 7), (.c (.v (.int .i64 1)))]) (
   .chk (.eql (.x 7) (.ext 14 0)) (
   .op (.call F.laws_heldIntS [(.sl (.ext 14 0)), (.c (.v (.int .i64 1)))] true) (
   .op (.bin .lss (.x 15) (.c (.v (.int .i64 0)))) (
   .ite (.x 16)
    (.ret [(.c (.v (.bool false)))])
    (.op (.bin .neq (.x 15) (.ext 14 1)) (
    .ite (.x 17)
     (.ret [(.c (.v (.bool false)))])
     (.chk (.cells (.x 0) 4) (
     .op (.call F.laws_toTy [(.x 0)] false) (
     .op (.fcall true 3 1 F.impl_Free [(.x 18), (.x 1)]) (
     .op (.call F.laws_eqIntS [(.sl (.x 19)), (.sl (.x 5))] true) (
     .op (.un .not (.x 20)) (
     .ite (.x 21)
      (.ret [(.c (.v (.bool false)))])
      (.op (.call F.laws_heldIntS [(.sl (.ext 14 0)), (.c (.v (.int .i64 1)))] true) (
      .op (.bin .lss (.x 22) (.c (.v (.int .i64 0)))) (
      .ite (.x 23)
       (.ret [(.c (.v (.bool false)))])
       (.op (.bin .neq (.x 22) (.ext 14 1)) (
       .ite (.x 24)
        (.ret [(.c (.v (.bool false)))])
        (.ret [(.c (.v (.bool true)))])))))))))))))))))))))))))))))))))))))))))))
def T.laws_FnExactPut : T :=
.chk (.cells (.x 0) 4) (
.chk (.cells (.x 0) 4) (
.op (.call F.laws_szTy [(.x 0), (.c (.v (.int .i64 1048576)))] false) (
.op (.bin .lss (.x 3) (.c (.v (.int .i64 0)))) (
.ite (.x 4)
 (.ret [(.c (.v (.bool true)))])
 (.op (.call F.laws_szTyS [(.x 2), (.x 3)] false) (
 .op (.bin .lss (.x 5) (.c (.v (.int .i64 0)))) (
 .ite (.x 6)
  (.ret [(.c (.v (.bool true)))])
  (.chk (.cells (.x 0) 4) (
  .op (.call F.laws_toTy [(.x 0)] false) (
  .op (.call F.laws_toTyS [(.x 2)] false) (
  .op (.call F.spec_Put [(.x 7), (.x 1), (.x 8)] false) (
  .chk (.cells (.x 9) 4) (
  .chk (.cells (.x 0) 4) (
  .op (.call F.laws_toTy [(.x 0)] false) (
  .chk (.cells (.x 10) 4) (
  .op (.call F.laws_toTyS [(.x 2)] false) (
  .chk (.cells (.x 10) 4) (
  .op (.call F.impl_Put [(.x 10), (.x 1), (.x 11)] false) (
  .chk (.cells (.x 12) 4) (
  .chk (.cells (.x 12) 4) (
  .chk (.cells (.x 9) 4) (
  .op (.call F.laws_eqTy [(.x 12), (.x 9)] false) (
  .op (.un .not (.x 13)) (
  .ite (.x 14)
   (.ret [(.c (.v (.bool false)))])
   (.chk (.cells (.x 10) 4) (
   .chk (.cells (.x 0) 4) (
   .op (.call F.laws_toTy [(.x 0)] false) (
   .op (.call F.laws_eqTy [(.x 10), (.x 15)] true) (
   .op (.un .not (.x 16)) (
   .ite (.x 17)
    (.ret [(.c (.v (.bool false)))])
    (.op (.call F.laws_toTyS [(.x 2)] false) (
    .op (.call F.laws_eqTyS [(.x 11), (.x 18)] false) (
    .op (.un .not (.x 19)) (
    .ite (.x 20)
     (.ret [(.c (.v (.bool false)))])
     (.chk (.cells (.x 10) 4) (
     .op (.call F.laws_markTy [(.x 10), (.c (.v (.int .i64 1)))] false) (
     .op (.call F.laws_markTyS [(.x 11), (.x 21)] false) (
     .bind 0 (
      .bind 1 (
       .op (.bin .lss (.x 22) (.c (.v (.int .i64 0)))) (
       .ite (.x 23)
        (.jump [(.c (.v (.bool true)))])
        (.chk (.cells (.x 12) 4) (
        .chk (.cells (.x 9) 4) (
        .op (.call F.laws_eqTy [(.x 12), (.x 9)] false) (
        .op (.un .not (.x 24)) (
        .jump [(.x 25)]))))))) (
      .ite (.x 23)
       (.esc (.ret [(.c (.v (.bool false)))]))
       (.jump []))) (
     .chk (.cells (.x 12) 4) (
     .op (.call F.laws_markTy [(.x 12), (.c (.v (.int .i64 1)))] false) (
     .chk (.cells (.x 12) 4) (
     .op (.call F.laws_heldTy [(.x 12), (.c (.v (.int .i64 1)))] false) (
     .op (.bin .lss (.x 24) (.c (.v (.int .i64 0)))) (
     .ite (.x 25)
      (.ret [(.c (.v (.bool false)))])
      (.op (.bin .neq (.x 24) (.x 23)) (
      .ite (.x 26)
       (.ret [(.c (.v (.bool false)))])
       (.chk (.cells (.x 0) 4) (
       .op (.call F.laws_toTy [(.x 0)] false) (
       .op (.call F.laws_toTyS [(.x 2)] false) (
       .op (.call F.impl_Put [(.x 27), (.x 1), (.x 28)] false) (
       .chk (.cells (.x 29) 4) (
       .chk (.cells (.x 29) 4) (
       .chk (.cells (.x 9) 4) (
       .op (.call F.laws_eqTy [(.x 29), (.x 9)] false) (
       .op (.un .not (.x 30)) (
       .ite (.x 31)
        (.ret [(.c (.v (.bool false)))])
        (.chk (.cells (.x 12) 4) (
        .op (.call F.laws_heldTy [(.x 12), (.c (.v (.int .i64 1)))] false) (
        .op (.bin .lss (.x 32) (.c (.v (.int .i64 0)))) (
        .ite (.x 33)
         (.ret [(.c (.v (.bool false)))])
         (.op (.bin .neq (.x 32) (.x 23)) (
         .ite (.x 34)
          (.ret [(.c (.v (.bool false)))])
          (.ret [(.c (.v (.bool true)))])))))))))))))))))))))))))))))))))))))))))))))))))))))))))))))))
def T.laws_FnExactAlpha : T :=
.chk (.cells (.x 0) 7) (
.chk (.cells (.x 1) 7) (
.chk (.cells (.x 0) 7) (
.op (.call F.laws_szExp [(.x 0), (.c (.v (.int .i64 1048576)))] false) (
.op (.bin .lss (.x 2) (.c (.v (.int .i64 0)))) (
.ite (.x 3)
 (.ret [(.c (.v (.bool true)))])
 (.chk (.cells (.x 1) 7) (
 .op (.call F.laws_szExp [(.x 1), (.x 2)] false) (
 .op (.bin .lss (.x 4) (.c (.v (.int .i64 0)))) (
 .ite (.x 5)
  (.ret [(.c (.v (.bool true)))])
  (.chk (.cells (.x 0) 7) (
  .op (.call F.laws_toExp [(.x 0)] false) (
  .chk (.cells (.x 1) 7) (
  .op (.call F.laws_toExp [(.x 1)] false) (
  .op (.call F.spec_Alpha [(.x 6), (.x 7)] true) (
  .chk (.cells (.x 0) 7) (
  .op (.call F.laws_toExp [(.x 0)] false) (
  .chk (.cells (.x 9) 7) (
  .chk (.cells (.x 1) 7) (
  .op (.call F.laws_toExp [(.x 1)] false) (
  .chk (.cells (.x 10) 7) (
  .chk (.cells (.x 9) 7) (
  .chk (.cells (.x 10) 7) (
  .op (.call F.impl_Alpha [(.x 9), (.x 10)] false) (
  .op (.beq true (.x 11) (.x 8)) (
  .ite (.x 12)
   (.ret [(.c (.v (.bool false)))])
   (.chk (.cells (.x 9) 7) (
   .chk (.cells (.x 0) 7) (
   .op (.call F.laws_toExp [(.x 0)] false) (
   .op (.call F.laws_eqExp [(.x 9), (.x 13)] true) (
   .op (.un .not (.x 14)) (
   .ite (.x 15)
    (.ret [(.c (.v (.bool false)))])
    (.chk (.cells (.x 10) 7) (
    .chk (.cells (.x 1) 7) (
    .op (.call F.laws_toExp [(.x 1)] false) (
    .op (.call F.laws_eqExp [(.x 10), (.x 16)] true) (
    .op (.un .not (.x 17)) (
    .ite (.x 18)
     (.ret [(.c (.v (.bool false)))])
     (.ret [(.c (.v (.bool true)))]))))))))))))))))))))))))))))))))))))))
def T.laws_FnExactUnify : T :=
.op (.call F.laws_szTyS [(.x 1), (.c (.v (.int .i64 1048576)))] false) (
.op (.bin .lss (.x 3) (.c (.v (.int .i64 0)))) (
.ite (.x 4)
 (.ret [(.c (.v (.bool true)))])
 (.op (.call F.laws_szTyS [(.x 2), (.x 3)] false) (
 .op (.bin .lss (.x 5) (.c (.v (.int .i64 0)))) (
 .ite (.x 6)
  (.ret [(.c (.v (.bool true)))])
  (.op (.call F.laws_toTyS [(.x 1)] false) (
  .op (.call F.laws_toTyS [(.x 2)] false) (
  .op (.call F.spec_Unify [(.x 0), (.x 7), (.x 8)] false) (
  .chk (.tup (.x 9) 0) (
  .chk (.tup (.x 9) 1) (
  .op (.call F.laws_toTyS [(.x 1)] false) (
  .op (.call F.laws_toTyS [(.x 2)] false) (
  .op (.call F.impl_Unify [(.x 0), (.x 10), (.x 11)] false) (
  .chk (.tup (.x 12) 0) (
  .chk (.tup (.x 12) 1) (
  .bind 0 (
   .bind 1 (
    .op (.call F.laws_eqTyS [(.ext 12 0), (.ext 9 0)] false) (
    .op (.un .not (.x 13)) (
    .ite (.x 14)
     (.jump [(.c (.v (.bool true)))])
     (.op (.bin .neq (.ext 12 1) (.ext 9 1)) (
     .jump [(.x 15)]))))) (
   .ite (.x 13)
    (.esc (.ret [(.c (.v (.bool false)))]))
    (.jump []))) (
  .op (.call F.laws_toTyS [(.x 1)] false) (
  .op (.call F.laws_eqTyS [(.x 10), (.x 13)] false) (
  .op (.un .not (.x 14)) (
  .ite (.x 15)
   (.ret [(.c (.v (.bool false)))])
   (.op (.call F.laws_toTyS [(.x 2)] false) (
   .op (.call F.laws_eqTyS [(.x 11), (.x 16)] false) (
   .op (.un .not (.x 17)) (
   .ite (.x 18)
    (.ret [(.c (.v (.bool false)))])
    (.op (.call F.laws_markTyS [(.x 10), (.c (.v (.int .i64 1)))] false) (
    .op (.call F.laws_markTyS [(.x 11), (.x 19)] false) (
    .bind 0 (
     .bind 1 (
      .op (.bin .lss (.x 20) (.c (.v (.int .i64 0)))) (
      .ite (.x 21)
       (.jump [(.c (.v (.bool true)))])
       (.op (.call F.laws_eqTyS [(.ext 12 0), (.ext 9 0)] false) (
       .op (.un .not (.x 22)) (
       .ite (.x 23)
        (.jump [(.c (.v (.bool true)))])
        (.op (.bin .neq (.ext 12 1) (.ext 9 1)) (
        .jump [(.x 24)]))))))) (
     .ite (.x 21)
      (.esc (.ret [(.c (.v (.bool false)))]))
      (.jump []))) (
    .op (.call F.laws_markTyS [(.ext 12 0), (.c (.v (.int .i64 1)))] false) (
    .op (.call F.laws_heldTyS [(.ext 12 0), (.c (.v (.int .i64 1)))] false) (
    .op (.bin .lss (.x 22) (.c (.v (.int .i64 0)))) (
    .ite (.x 23)
     (.ret [(.c (.v (.bool false)))])
     (.op (.bin .neq (.x 22) (.x 21)) (
     .ite (.x 24)
      (.ret [(.c (.v (.bool false)))])
      (.op (.call F.laws_toTyS [(.x 1)] false) (
      .op (.call F.laws_toTyS [(.x 2)] false) (
      .op (.call F.impl_Unify [(.x 0), (.x 25), (.x 26)] false) (
      .chk (.tup (.x 27) 0) (
      .chk (.tup (.x 27) 1) (
      .bind 0 (
       .bind 1 (
        .op (.call F.laws_eqTyS [(.ext 27 0), (.ext 9 0)] false) (
        .op (.un .not (.x 28)) (
        .ite (.x 29)
         (.jump [(.c (.v (.bool true)))])
         (.op (.bin .neq (.ext 27 1) (.ext 9 1)) (
         .jump [(.x 30)]))))) (
       .ite (.x 28)
        (.esc (.ret [(.c (.v (.bool false)))]))
        (.jump []))) (
      .op (.call F.laws_heldTyS [(.ext 12 0), (.c (.v (.int .i64 1)))] false) (
      .op (.bin .lss (.x 28) (.c (.v (.int .i64 0)))) (
      .ite (.x 29)
       (.ret [(.c (.v (.bool false)))])
       (.op (.bin .neq (.x 28) (.x 21)) (
       .ite (.x 30)
        (.ret [(.c (.v (.bool false)))])
        (.ret [(.c (.v (.bool true)))])))))))))))))))))))))))))))))))))))))))))))))
def T.laws_szCode : T :=
.chk (.cells (.x 0) 2) (
.op (.call F.laws_szInstrS [(.cell 0 0), (.x 1)] false) (
.op (.bin .lss (.x 2) (.c (.v (.int .i64 0)))) (
.ite (.x 3)
 (.ret [(.c (.v (.int .i64 (-1))))])
 (.op (.call F.laws_szIntS [(.cell 0 1), (.x 2)] false) (
 .op (.bin .lss (.x 4) (.c (.v (.int .i64 0)))) (
 .ite (.x 5)
  (.ret [(.c (.v (.int .i64 (-1))))])
  (.ret [(.x 4)])))))))
def T.laws_toCode : T :=
.chk (.cells (.x 0) 2) (
.op (.call F.laws_toInstrS [(.cell 0 0)] false) (
.chk (.one (.x 1)) (
.op (.call F.laws_toIntS [(.cell 0 1)] false) (
.chk (.one (.x 2)) (
.chk (.cells (.agg [(.x 1), (.x 2)]) 2) (
.ret [(.agg [(.x 1), (.x 2)])]))))))
def T.laws_eqCode : T :=
.chk (.cells (.x 0) 2) (
.chk (.cells (.x 1) 2) (
.op (.call F.laws_eqInstrS [(.cell 0 0), (.cell 1 0)] false) (
.op (.un .not (.x 2)) (
.ite (.x 3)
 (.ret [(.c (.v (.bool false)))])
 (.op (.call F.laws_eqIntS [(.cell 0 1), (.cell 1 1)] false) (
 .op (.un .not (.x 4)) (
 .ite (.x 5)
  (.ret [(.c (.v (.bool false)))])
  (.ret [(.c (.v (.bool true)))]))))))))
def T.laws_big : T :=
.op (.lenL (.x 0)) (
.op (.bin .gtr (.x 1) (.c (.v (.int .i64 1048576)))) (
.ret [(.x 2)]))
theorem T.laws_big_l : leftF Try.prog CF Try.f15 = some (1, T.laws_big) := by kernel_rfl
theorem T.laws_big_con {args : List AV} {res : AV} (hl : args.length = 1) (hn : AV.norefs args = true) (hw : wpT Try.prog (fun _ _ _ => False) (fun a => a = res) T.laws_big args []) : PCon Try.prog F.laws_big args res :=
  con_auto Try.func15 T.laws_big_l hl hn hw
def T.laws_at : T :=
.op (.lenL (.x 0)) (
.op (.bin .lss (.x 1) (.x 2)) (
.ite (.x 3)
 (.op (.elem 1 (.x 0) (.x 1)) (
 .chk (.lt (.x 4) 0) (
 .op (.conv .i64 (.cell 4 0)) (
 .ret [(.x 5)]))))
 (.op (.bin .mul (.x 1) (.c (.v (.int .i64 31)))) (
 .op (.lenL (.x 0)) (
 .op (.bin .mul (.x 5) (.c (.v (.int .i64 7)))) (
 .op (.bin .add (.x 4) (.x 6)) (
 .op (.bin .rem (.x 7) (.c (.v (.int .i64 256)))) (
 .ret [(.x 8)]))))))))
theorem T.laws_at_l : leftF Try.prog CF Try.f16 = some (2, T.laws_at) := by kernel_rfl
theorem T.laws_at_con {args : List AV} {res : AV} (hl : args.length = 2) (hn : AV.norefs args = true) (hw : wpT Try.prog (fun _ _ _ => False) (fun a => a = res) T.laws_at args []) : PCon Try.prog F.laws_at args res :=
  con_auto Try.func16 T.laws_at_l hl hn hw
def T.impl_Alpha : T :=
.chk (.cells (.x 0) 7) (
.chk (.cells (.x 1) 7) (
.bind 1 (
 .chk (.cells (.x 0) 7) (
 .op (.call F.impl_ExpOk [(.x 0)] false) (
 .ite (.x 2)
  (.chk (.cells (.x 1) 7) (
  .op (.call F.impl_ExpOk [(.x 1)] false) (
  .ite (.x 3)
   (.chk (.cells (.x 0) 7) (
   .chk (.cells (.x 1) 7) (
   .op (.call F.impl_alpha [(.x 0), (.x 1), (.c .nils), (.c .nils)] false) (
   .jump [(.x 4)]))))
   (.jump [(.c (.v (.bool false)))]))))
  (.jump [(.c (.v (.bool false)))])))) (
.ret [(.x 2)])))
theorem T.impl_Alpha_l : leftF Try.prog CF Try.f17 = some (2, T.impl_Alpha) := by kernel_rfl
theorem T.impl_Alpha_con {args : List AV} {res : AV} (hl : args.length = 2) (hn : AV.norefs args = true) (hw : wpT Try.prog (fun _ _ _ => False) (fun a => a = res) T.impl_Alpha args []) : PCon Try.prog F.impl_Alpha args res :=
  con_auto Try.func17 T.impl_Alpha_l hl hn hw
def T.laws_szTy : T :=
.chk (.cells (.x 0) 4) (
.op (.lenS (.cell 0 2)) (
.op (.bin .sub (.x 1) (.x 2)) (
.op (.bin .lss (.x 3) (.c (.v (.int .i64 0)))) (
.ite (.x 4)
 (.ret [(.c (.v (.int .i64 (-1))))])
 (.op (.call F.laws_szTyS [(.cell 0 3), (.x 3)] false) (
 .op (.bin .lss (.x 5) (.c (.v (.int .i64 0)))) (
 .ite (.x 6)
  (.ret [(.c (.v (.int .i64 (-1))))])
  (.ret [(.x 5)]))))))))
def T.spec_Free : T :=
.chk (.cells (.x 0) 4) (
.bind 0 (
 .bind 1 (
  .chk (.cells (.x 0) 4) (
  .op (.call F.spec_TyOk [(.x 0)] false) (
  .op (.un .not (.x 2)) (
  .ite (.x 3)
   (.jump [(.c (.v (.bool true)))])
   (.op (.call F.spec_l1In [(.x 1), (.c (.v (.int .i64 9))), (.c (.v (.int .i64 11)))] false) (
   .op (.un .not (.x 4)) (
   .jump [(.x 5)]))))))) (
 .ite (.x 2)
  (.op (.mkl (.v (.int .i64 0)) 0 []) (
  .esc (.ret [(.sl (.x 3))])))
  (.jump []))) (
.chk (.cells (.x 0) 4) (
.op (.mkl (.v (.int .i64 0)) 0 []) (
.op (.scall F.spec_l4Free G.spec_l4Free [(.x 0), (.x 1), (.x 2)]) (
.ret [(.sl (.ext 3 0))])))))
def T.laws_toTy : T :=
.chk (.cells (.x 0) 4) (
.chk (.one (.cell 0 0)) (
.chk (.one (.cell 0 1)) (
.chk (.one (.cell 0 2)) (
.op (.call F.laws_toTyS [(.cell 0 3)] false) (
.chk (.one (.x 1)) (
.chk (.cells (.agg [(.cell 0 0), (.cell 0 1), (.cell 0 2), (.x 1)]) 4) (
.ret [(.agg [(.cell 0 0), (.cell 0 1), (.cell 0 2), (.x 1)])])))))))
def T.impl_Free : T :=
.chk (.cells (.x 0) 4) (
.bind 0 (
 .bind 1 (
  .op (.call F.impl_isVarKind [(.x 1)] false) (
  .op (.un .not (.x 2)) (
  .ite (.x 3)
   (.jump [(.c (.v (.bool true)))])
   (.chk (.cells (.x 0) 4) (
   .op (.call F.impl_TyOk [(.x 0)] false) (
   .op (.un .not (.x 4)) (
   .jump [(.x 5)]))))))) (
 .ite (.x 2)
  (.esc (.ret [(.sl (.c (.sl [])))]))
  (.jump []))) (
.chk (.cells (.x 0) 4) (
.op (.fcall true 3 1 F.impl_frees [(.x 0), (.x 1)]) (
.ret [(.sl (.x 2))]))))
def T.laws_eqIntS : T :=
.op (.lenL (.x 0)) (
.op (.lenL (.x 1)) (
.op (.bin .neq (.x 2) (.x 3)) (
.ite (.x 4)
 (.ret [(.c (.v (.bool false)))])
 (.bind 0 (
  .loop [(.c (.v (.int .i64 0)))] (
   .op (.lenL (.x 0)) (
   .op (.bin .lss (.x 5) (.x 6)) (
   .ite (.x 7)
    (.op (.elem 1 (.x 0) (.x 5)) (
    .chk (.lt (.x 8) 0) (
    .op (.elem 1 (.x 1) (.x 5)) (
    .chk (.lt (.x 9) 0) (
    .op (.bin .neq (.cell 8 0) (.cell 9 0)) (
    .ite (.x 10)
     (.esc (.esc (.ret [(.c (.v (.bool false)))])))
     (.op (.bin .add (.x 5) (.c (.v (.int .i64 1)))) (
     .jump [(.x 11)]))))))))
    (.esc (.jump [])))))) (
 .ret [(.c (.v (.bool true)))])))))
def T.laws_eqTy : T :=
.chk (.cells (.x 0) 4) (
.chk (.cells (.x 1) 4) (
.op (.bin .neq (.cell 0 0) (.cell 1 0)) (
.ite (.x 2)
 (.ret [(.c (.v (.bool false)))])
 (.op (.bin .neq (.cell 0 1) (.cell 1 1)) (
 .ite (.x 3)
  (.ret [(.c (.v (.bool false)))])
  (.op (.bin .neq (.cell 0 2) (.cell 1 2)) (
  .ite (.x 4)
   (.ret [(.c (.v (.bool false)))])
   (.op (.call F.laws_eqTyS [(.cell 0 3), (.cell 1 3)] false) (
   .op (.un .not (.x 5)) (
   .ite (.x 6)
    (.ret [(.c (.v (.bool false)))])
    (.ret [(.c (.v (.bool true)))])))))))))))
def T.laws_markTy : T :=
.chk (.cells (.x 0) 4) (
.op (.call F.laws_markTyS [(.cell 0 3), (.x 1)] false) (
.ret [(.x 2)]))
def T.laws_markIntS : T :=
.bind 2 (
 .loop [(.x 0), (.x 1), (.c (.v (.int .i64 0)))] (
  .op (.lenL (.sl (.x 2))) (
  .op (.bin .lss (.x 4) (.x 5)) (
  .ite (.x 6)
   (.chk (.idx (.x 2) (.x 4)) (
   .chk (.one (.x 3)) (
   .op (.set (.x 2) (.x 4) 0 1 (.x 3)) (
   .op (.bin .add (.x 3) (.c (.v (.int .i64 1)))) (
   .op (.bin .add (.x 4) (.c (.v (.int .i64 1)))) (
   .jump [(.x 7), (.x 8), (.x 9)]))))))
   (.esc (.jump [(.x 2), (.x 3)])))))) (
.ret [(.x 2), (.x 3)])
def T.laws_heldIntS : T :=
.bind 1 (
 .loop [(.x 1), (.c (.v (.int .i64 0)))] (
  .op (.lenL (.x 0)) (
  .op (.bin .lss (.x 3) (.x 4)) (
  .ite (.x 5)
   (.op (.elem 1 (.x 0) (.x 3)) (
   .chk (.lt (.x 6) 0) (
   .op (.bin .neq (.cell 6 0) (.x 2)) (
   .ite (.x 7)
    (.esc (.esc (.ret [(.c (.v (.int .i64 (-1))))])))
    (.op (.bin .add (.x 2) (.c (.v (.int .i64 1)))) (
    .op (.bin .add (.x 3) (.c (.v (.int .i64 1)))) (
    .jump [(.x 8), (.x 9)])))))))
   (.esc (.jump [(.x 2)])))))) (
.ret [(.x 2)])
def T.laws_szTyS : T :=
.op (.lenL (.x 0)) (
.op (.bin .sub (.x 1) (.x 2)) (
.op (.bin .lss (.x 3) (.c (.v (.int .i64 0)))) (
.ite (.x 4)
 (.ret [(.c (.v (.int .i64 (-1))))])
 (.bind 1 (
  .loop [(.x 3), (.c (.v (.int .i64 0)))] (
   .op (.lenL (.x 0)) (
   .op (.bin .lss (.x 6) (.x 7)) (
   .ite (.x 8)
    (.op (.elem 4 (.x 0) (.x 6)) (
    .chk (.cells (.x 9) 4) (
    .op (.call F.laws_szTy [(.x 9), (.x 5)] false) (
    .op (.bin .lss (.x 10) (.c (.v (.int .i64 0)))) (
    .ite (.x 11)
     (.esc (.esc (.ret [(.c (.v (.int .i64 (-1))))])))
     (.op (.bin .add (.x 6) (.c (.v (.int .i64 1)))) (
     .jump [(.x 10), (.x 12)])))))))
    (.esc (.jump [(.x 5)])))))) (
 .ret [(.x 5)])))))
def T.spec_Put : T :=
.chk (.cells (.x 0) 4) (
.bind 0 (
 .bind 1 (
  .chk (.cells (.x 0) 4) (
  .op (.call F.spec_TyOk [(.x 0)] false) (
  .op (.un .not (.x 3)) (
  .ite (.x 4)
   (.jump [(.c (.v (.bool true)))])
   (.op (.call F.spec_l1In [(.x 1), (.c (.v (.int .i64 9))), (.c (.v (.int .i64 11)))] false) (
   .op (.un .not (.x 5)) (
   .jump [(.x 6)]))))))) (
 .ite (.x 3)
  (.chk (.cells (.x 0) 4) (
  .op (.call F.spec_l4Copy [(.x 0)] false) (
  .chk (.cells (.x 4) 4) (
  .esc (.ret [(.agg [(.cell 4 0), (.cell 4 1), (.cell 4 2), (.cell 4 3)])])))))
  (.jump []))) (
.chk (.cells (.x 0) 4) (
.op (.call F.spec_l4Put [(.x 0), (.x 1), (.x 2)] false) (
.chk (.cells (.x 3) 4) (
.ret [(.agg [(.cell 3 0), (.cell 3 1), (.cell 3 2), (.cell 3 3)])])))))
def T.laws_toTyS : T :=
.op (.lenL (.x 0)) (
.op (.rep 56 (.agg [(.v (.int .i64 0)), (.v (.int .i64 0)), (.v (.string ⟨#[]⟩)), .nils]) (.x 1) (.x 1)) (
.bind 1 (
 .loop [(.x 2), (.c (.v (.int .i64 0)))] (
  .op (.lenL (.x 0)) (
  .op (.bin .lss (.x 4) (.x 5)) (
  .ite (.x 6)
   (.op (.elem 4 (.x 0) (.x 4)) (
   .chk (.cells (.x 7) 4) (
   .op (.call F.laws_toTy [(.x 7)] false) (
   .chk (.idx (.x 3) (.x 4)) (
   .chk (.cells (.x 8) 4) (
   .op (.set (.x 3) (.x 4) 0 4 (.x 8)) (
   .op (.bin .add (.x 4) (.c (.v (.int .i64 1)))) (
   .jump [(.x 9), (.x 10)]))))))))
   (.esc (.jump [(.x 3)])))))) (
.ret [(.sl (.x 3))])))
def T.impl_Put : T :=
.chk (.cells (.x 0) 4) (
.bind 0 (
 .bind 1 (
  .op (.call F.impl_isVarKind [(.x 1)] false) (
  .op (.un .not (.x 3)) (
  .ite (.x 4)
   (.jump [(.c (.v (.bool true)))])
   (.chk (.cells (.x 0) 4) (
   .op (.call F.impl_TyOk [(.x 0)] false) (
   .op (.un .not (.x 5)) (
   .jump [(.x 6)]))))))) (
 .ite (.x 3)
  (.chk (.cells (.x 0) 4) (
  .op (.call F.impl_copyTy [(.x 0)] false) (
  .chk (.cells (.x 4) 4) (
  .esc (.ret [(.agg [(.cell 4 0), (.cell 4 1), (.cell 4 2), (.cell 4 3)])])))))
  (.jump []))) (
.chk (.cells (.x 0) 4) (
.op (.call F.impl_put [(.x 0), (.x 1), (.x 2)] false) (
.chk (.cells (.x 3) 4) (
.ret [(.agg [(.cell 3 0), (.cell 3 1), (.cell 3 2), (.cell 3 3)])])))))
def T.laws_eqTyS : T :=
.op (.lenL (.x 0)) (
.op (.lenL (.x 1)) (
.op (.bin .neq (.x 2) (.x 3)) (
.ite (.x 4)
 (.ret [(.c (.v (.bool false)))])
 (.bind 0 (
  .loop [(.c (.v (.int .i64 0)))] (
   .op (.lenL (.x 0)) (
   .op (.bin .lss (.x 5) (.x 6)) (
   .ite (.x 7)
    (.op (.elem 4 (.x 0) (.x 5)) (
    .chk (.cells (.x 8) 4) (
    .op (.elem 4 (.x 1) (.x 5)) (
    .chk (.cells (.x 9) 4) (
    .op (.call F.laws_eqTy [(.x 8), (.x 9)] true) (
    .op (.un .not (.x 10)) (
    .ite (.x 11)
     (.esc (.esc (.ret [(.c (.v (.bool false)))])))
     (.op (.bin .add (.x 5) (.c (.v (.int .i64 1)))) (
     .jump [(.x 12)])))))))))
    (.esc (.jump [])))))) (
 .ret [(.c (.v (.bool true)))])))))
def T.laws_heldTy : T :=
.chk (.cells (.x 0) 4) (
.op (.call F.laws_heldTyS [(.cell 0 3), (.x 1)] false) (
.op (.bin .lss (.x 2) (.c (.v (.int .i64 0)))) (
.ite (.x 3)
 (.ret [(.c (.v (.int .i64 (-1))))])
 (.ret [(.x 2)]))))
def T.laws_szExp : T :=
.chk (.cells (.x 0) 7) (
.op (.lenS (.cell 0 1)) (
.op (.bin .sub (.x 1) (.x 2)) (
.op (.bin .lss (.x 3) (.c (.v (.int .i64 0)))) (
.ite (.x 4)
 (.ret [(.c (.v (.int .i64 (-1))))])
 (.op (.lenS (.cell 0 3)) (
 .op (.bin .sub (.x 3) (.x 5)) (
 .op (.bin .lss (.x 6) (.c (.v (.int .i64 0)))) (
 .ite (.x 7)
  (.ret [(.c (.v (.int .i64 (-1))))])
  (.op (.call F.laws_szExpS [(.cell 0 5), (.x 6)] false) (
  .op (.bin .lss (.x 8) (.c (.v (.int .i64 0)))) (
  .ite (.x 9)
   (.ret [(.c (.v (.int .i64 (-1))))])
   (.op (.call F.laws_szArmS [(.cell 0 6), (.x 8)] false) (
   .op (.bin .lss (.x 10) (.c (.v (.int .i64 0)))) (
   .ite (.x 11)
    (.ret [(.c (.v (.int .i64 (-1))))])
    (.ret [(.x 10)])))))))))))))))
def T.spec_Alpha : T :=
.chk (.cells (.x 0) 7) (
.chk (.cells (.x 1) 7) (
.bind 1 (
 .chk (.cells (.x 0) 7) (
 .op (.call F.spec_ExpOk [(.x 0)] false) (
 .ite (.x 2)
  (.chk (.cells (.x 1) 7) (
  .op (.call F.spec_ExpOk [(.x 1)] false) (
  .ite (.x 3)
   (.chk (.cells (.x 0) 7) (
   .chk (.cells (.x 1) 7) (
   .op (.mkl (.v (.string ⟨#[]⟩)) 0 []) (
   .op (.mkl (.v (.string ⟨#[]⟩)) 0 []) (
   .op (.call F.spec_l19Same [(.x 0), (.x 1), (.sl (.x 4)), (.sl (.x 5))] true) (
   .jump [(.x 6)]))))))
   (.jump [(.c (.v (.bool false)))]))))
  (.jump [(.c (.v (.bool false)))])))) (
.ret [(.x 2)])))
def T.laws_toExp : T :=
.chk (.cells (.x 0) 7) (
.chk (.one (.cell 0 0)) (
.chk (.one (.cell 0 1)) (
.chk (.one (.cell 0 2)) (
.chk (.one (.cell 0 3)) (
.chk (.one (.cell 0 4)) (
.op (.call F.laws_toExpS [(.cell 0 5)] false) (
.chk (.one (.x 1)) (
.op (.call F.laws_toArmS [(.cell 0 6)] false) (
.chk (.one (.x 2)) (
.chk (.cells (.agg [(.cell 0 0), (.cell 0 1), (.cell 0 2), (.cell 0 3), (.cell 0 4), (.x 1), (.x 2)]) 7) (
.ret [(.agg [(.cell 0 0), (.cell 0 1), (.cell 0 2), (.cell 0 3), (.cell 0 4), (.x 1), (.x 2)])])))))))))))
def T.laws_eqExp : T :=
.chk (.cells (.x 0) 7) (
.chk (.cells (.x 1) 7) (
.op (.bin .neq (.cell 0 0) (.cell 1 0)) (
.ite (.x 2)
 (.ret [(.c (.v (.bool false)))])
 (.op (.bin .neq (.cell 0 1) (.cell 1 1)) (
 .ite (.x 3)
  (.ret [(.c (.v (.bool false)))])
  (.op (.bin .neq (.cell 0 2) (.cell 1 2)) (
  .ite (.x 4)
   (.ret [(.c (.v (.bool false)))])
   (.op (.bin .neq (.cell 0 3) (.cell 1 3)) (
   .ite (.x 5)
    (.ret [(.c (.v (.bool false)))])
    (.op (.bin .neq (.cell 0 4) (.cell 1 4)) (
    .ite (.x 6)
     (.ret [(.c (.v (.bool false)))])
     (.op (.call F.laws_eqExpS [(.cell 0 5), (.cell 1 5)] false) (
     .op (.un .not (.x 7)) (
     .ite (.x 8)
      (.ret [(.c (.v (.bool false)))])
      (.op (.call F.laws_eqArmS [(.cell 0 6), (.cell 1 6)] false) (
      .op (.un .not (.x 9)) (
      .ite (.x 10)
       (.ret [(.c (.v (.bool false)))])
       (.ret [(.c (.v (.bool true)))]))))))))))))))))))
def T.spec_Unify : T :=
.op (.mkl (.agg [(.v (.int .i64 0)), (.v (.int .i64 0)), (.v (.string ⟨#[]⟩)), .nils]) 0 []) (
.bind 0 (
 .bind 1 (
  .op (.call F.spec_l1In [(.x 0), (.c (.v (.int .i64 0))), (.c (.v (.int .i64 300)))] false) (
  .op (.un .not (.x 4)) (
  .ite (.x 5)
   (.jump [(.c (.v (.bool true)))])
   (.op (.lenL (.x 1)) (
   .op (.lenL (.x 2)) (
   .op (.bin .neq (.x 6) (.x 7)) (
   .ite (.x 8)
    (.jump [(.c (.v (.bool true)))])
    (.op (.lenL (.x 1)) (
    .op (.bin .gtr (.x 9) (.c (.v (.int .i64 200)))) (
    .ite (.x 10)
     (.jump [(.c (.v (.bool true)))])
     (.op (.call F.spec_l4Right [(.x 1), (.x 0)] false) (
     .op (.un .not (.x 11)) (
     .ite (.x 12)
      (.jump [(.c (.v (.bool true)))])
      (.op (.call F.spec_l4Right [(.x 2), (.x 0)] false) (
      .op (.un .not (.x 13)) (
      .jump [(.x 14)])))))))))))))))) (
 .ite (.x 4)
  (.esc (.ret [(.sl (.x 3)), (.c (.v (.int .i64 1)))]))
  (.jump []))) (
.op (.call F.spec_l4Metas [(.x 0)] false) (
.bind 0 (
 .loop [(.c (.v (.int .i64 0)))] (
  .op (.lenL (.x 1)) (
  .op (.bin .lss (.x 5) (.x 6)) (
  .ite (.x 7)
   (.op (.elem 4 (.x 1) (.x 5)) (
   .chk (.cells (.x 8) 4) (
   .op (.call F.spec_l4Lay [(.x 4), (.x 8)] false) (
   .op (.elem 4 (.x 2) (.x 5)) (
   .chk (.cells (.x 10) 4) (
   .op (.call F.spec_l4Lay [(.x 4), (.x 10)] false) (
   .op (.call F.spec_l4Join [(.x 4), (.x 9), (.x 11)] false) (
   .op (.un .not (.x 12)) (
   .ite (.x 13)
    (.esc (.esc (.ret [(.sl (.x 3)), (.c (.v (.int .i64 2)))])))
    (.op (.bin .add (.x 5) (.c (.v (.int .i64 1)))) (
    .jump [(.x 14)])))))))))))
   (.esc (.jump [])))))) (
.chk (.isFn (.x 4)) (
.op (.fap 2 (.x 4)) (
.op (.ldp none (.x 5)) (
.op (.lenL (.x 6)) (
.op (.rep 8 (.v (.int .i64 0)) (.x 7) (.x 7)) (
.bind 0 (
 .loop [(.c (.v (.int .i64 0)))] (
  .chk (.isFn (.x 4)) (
  .op (.fap 2 (.x 4)) (
  .op (.ldp none (.x 10)) (
  .op (.lenL (.x 11)) (
  .op (.bin .lss (.x 9) (.x 12)) (
  .ite (.x 13)
   (.op (.call F.spec_l4Sizes [(.x 4), (.x 9), (.sl (.x 8)), (.c (.v (.int .i64 201)))] true) (
   .op (.un .not (.x 14)) (
   .ite (.x 15)
    (.esc (.esc (.ret [(.sl (.x 3)), (.c (.v (.int .i64 2)))])))
    (.op (.bin .add (.x 9) (.c (.v (.int .i64 1)))) (
    .jump [(.x 16)])))))
   (.esc (.jump []))))))))) (
.bind 0 (
 .loop [(.c (.v (.int .i64 0)))] (
  .op (.bin .lss (.x 9) (.x 0)) (
  .ite (.x 10)
   (.op (.call F.spec_l4Find [(.x 4), (.x 9)] false) (
   .chk (.idx (.x 8) (.x 11)) (
   .op (.get (.x 8) (.x 11) 0 none) (
   .op (.bin .gtr (.x 12) (.c (.v (.int .i64 200)))) (
   .ite (.x 13)
    (.esc (.esc (.ret [(.sl (.x 3)), (.c (.v (.int .i64 3)))])))
    (.op (.bin .add (.x 9) (.c (.v (.int .i64 1)))) (
    .jump [(.x 14)])))))))
   (.esc (.jump []))))) (
.bind 1 (
 .loop [(.x 3), (.c (.v (.int .i64 0)))] (
  .op (.bin .lss (.x 10) (.x 0)) (
  .ite (.x 11)
   (.op (.call F.spec_l4Read [(.x 4), (.x 10)] false) (
   .chk (.cells (.x 12) 4) (
   .op (.mkl (.agg [(.v (.int .i64 0)), (.v (.int .i64 0)), (.v (.string ⟨#[]⟩)), .nils]) 1 [(0, (.x 12))]) (
   .op (.app 4 56 (.x 9) (.sl (.x 13))) (
   .op (.bin .add (.x 10) (.c (.v (.int .i64 1)))) (
   .jump [(.x 14), (.x 15)]))))))
   (.esc (.jump [(.x 9)]))))) (
.ret [(.sl (.x 9)), (.c (.v (.int .i64 0)))]))))))))))))
def T.laws_heldTyS : T :=
.bind 1 (
 .loop [(.x 1), (.c (.v (.int .i64 0)))] (
  .op (.lenL (.x 0)) (
  .op (.bin .lss (.x 3) (.x 4)) (
  .ite (.x 5)
   (.op (.elem 4 (.x 0) (.x 3)) (
   .chk (.lt (.x 6) 0) (
   .op (.bin .neq (.cell 6 0) (.x 2)) (
   .ite (.x 7)
    (.esc (.esc (.ret [(.c (.v (.int .i64 (-1))))])))
    (.op (.bin .add (.x 2) (.c (.v (.int .i64 1)))) (
    .op (.elem 4 (.x 0) (.x 3)) (
    .chk (.lt (.x 9) 1) (
    .op (.bin .neq (.cell 9 1) (.x 8)) (
    .ite (.x 10)
     (.esc (.esc (.ret [(.c (.v (.int .i64 (-1))))])))
     (.op (.bin .add (.x 8) (.c (.v (.int .i64 1)))) (
     .op (.elem 4 (.x 0) (.x 3)) (
     .chk (.lt (.x 12) 2) (
     .op (.call F.laws_markText [(.x 11)] true) (
     .op (.bin .neq (.cell 12 2) (.x 13)) (
     .ite (.x 14)
      (.esc (.esc (.ret [(.c (.v (.int .i64 (-1))))])))
      (.op (.bin .add (.x 11) (.c (.v (.int .i64 1)))) (
      .op (.elem 4 (.x 0) (.x 3)) (
      .chk (.lt (.x 16) 3) (
      .op (.call F.laws_heldTyS [(.cell 16 3), (.x 15)] false) (
      .op (.bin .lss (.x 17) (.c (.v (.int .i64 0)))) (
      .ite (.x 18)
       (.esc (.esc (.ret [(.c (.v (.int .i64 (-1))))])))
       (.op (.bin .add (.x 3) (.c (.v (.int .i64 1)))) (
       .jump [(.x 17), (.x 19)])))))))))))))))))))))))
   (.esc (.jump [(.x 2)])))))) (
.ret [(.x 2)])
def T.laws_szInstrS : T :=
.op (.lenL (.x 0)) (
.op (.bin .sub (.x 1) (.x 2)) (
.op (.bin .lss (.x 3) (.c (.v (.int .i64 0)))) (
.ite (.x 4)
 (.ret [(.c (.v (.int .i64 (-1))))])
 (.bind 1 (
  .loop [(.x 3), (.c (.v (.int .i64 0)))] (
   .op (.lenL (.x 0)) (
   .op (.bin .lss (.x 6) (.x 7)) (
   .ite (.x 8)
    (.op (.elem 6 (.x 0) (.x 6)) (
    .chk (.cells (.x 9) 6) (
    .op (.call F.laws_szInstr [(.x 9), (.x 5)] false) (
    .op (.bin .lss (.x 10) (.c (.v (.int .i64 0)))) (
    .ite (.x 11)
     (.esc (.esc (.ret [(.c (.v (.int .i64 (-1))))])))
     (.op (.bin .add (.x 6) (.c (.v (.int .i64 1)))) (
     .jump [(.x 10), (.x 12)])))))))
    (.esc (.jump [(.x 5)])))))) (
 .ret [(.x 5)])))))
def T.laws_szIntS : T :=
.op (.lenL (.x 0)) (
.op (.bin .sub (.x 1) (.x 2)) (
.op (.bin .lss (.x 3) (.c (.v (.int .i64 0)))) (
.ite (.x 4)
 (.ret [(.c (.v (.int .i64 (-1))))])
 (.ret [(.x 3)]))))
def T.spec_l1In : T :=
.bind 1 (
 .op (.bin .geq (.x 0) (.x 1)) (
 .ite (.x 3)
  (.op (.bin .leq (.x 0) (.x 2)) (
  .jump [(.x 4)]))
  (.jump [(.c (.v (.bool false)))]))) (
.ret [(.x 3)])
def T.laws_toInstrS : T :=
.op (.lenL (.x 0)) (
.op (.rep 56 (.agg [(.v (.int .i64 0)), (.v (.int .i64 0)), (.v (.int .i64 0)), (.v (.int .i64 0)), (.v (.int .i64 0)), (.v (.string ⟨#[]⟩))]) (.x 1) (.x 1)) (
.bind 1 (
 .loop [(.x 2), (.c (.v (.int .i64 0)))] (
  .op (.lenL (.x 0)) (
  .op (.bin .lss (.x 4) (.x 5)) (
  .ite (.x 6)
   (.op (.elem 6 (.x 0) (.x 4)) (
   .chk (.cells (.x 7) 6) (
   .op (.call F.laws_toInstr [(.x 7)] false) (
   .chk (.idx (.x 3) (.x 4)) (
   .chk (.cells (.x 8) 6) (
   .op (.set (.x 3) (.x 4) 0 6 (.x 8)) (
   .op (.bin .add (.x 4) (.c (.v (.int .i64 1)))) (
   .jump [(.x 9), (.x 10)]))))))))
   (.esc (.jump [(.x 3)])))))) (
.ret [(.sl (.x 3))])))
def T.laws_toIntS : T :=
.op (.lenL (.x 0)) (
.op (.rep 8 (.v (.int .i64 0)) (.x 1) (.x 1)) (
.bind 1 (
 .loop [(.x 2), (.c (.v (.int .i64 0)))] (
  .op (.lenL (.x 0)) (
  .op (.bin .lss (.x 4) (.x 5)) (
  .ite (.x 6)
   (.op (.elem 1 (.x 0) (.x 4)) (
   .chk (.lt (.x 7) 0) (
   .chk (.idx (.x 3) (.x 4)) (
   .chk (.one (.cell 7 0)) (
   .op (.set (.x 3) (.x 4) 0 1 (.cell 7 0)) (
   .op (.bin .add (.x 4) (.c (.v (.int .i64 1)))) (
   .jump [(.x 8), (.x 9)])))))))
   (.esc (.jump [(.x 3)])))))) (
.ret [(.sl (.x 3))])))
def T.impl_within : T :=
.bind 1 (
 .op (.bin .geq (.x 0) (.x 1)) (
 .ite (.x 3)
  (.op (.bin .leq (.x 0) (.x 2)) (
  .jump [(.x 4)]))
  (.jump [(.c (.v (.bool false)))]))) (
.ret [(.x 3)])
theorem T.impl_within_l : leftF Try.prog CF Try.f46 = some (3, T.impl_within) := by kernel_rfl
theorem T.impl_within_con {args : List AV} {res : AV} (hl : args.length = 3) (hn : AV.norefs args = true) (hw : wpT Try.prog (fun _ _ _ => False) (fun a => a = res) T.impl_within args []) : PCon Try.prog F.impl_within args res :=
  con_auto Try.func46 T.impl_within_l hl hn hw
def T.laws_eqInstrS : T :=
.op (.lenL (.x 0)) (
.op (.lenL (.x 1)) (
.op (.bin .neq (.x 2) (.x 3)) (
.ite (.x 4)
 (.ret [(.c (.v (.bool false)))])
 (.bind 0 (
  .loop [(.c (.v (.int .i64 0)))] (
   .op (.lenL (.x 0)) (
   .op (.bin .lss (.x 5) (.x 6)) (
   .ite (.x 7)
    (.op (.elem 6 (.x 0) (.x 5)) (
    .chk (.cells (.x 8) 6) (
    .op (.elem 6 (.x 1) (.x 5)) (
    .chk (.cells (.x 9) 6) (
    .op (.call F.laws_eqInstr [(.x 8), (.x 9)] true) (
    .op (.un .not (.x 10)) (
    .ite (.x 11)
     (.esc (.esc (.ret [(.c (.v (.bool false)))])))
     (.op (.bin .add (.x 5) (.c (.v (.int .i64 1)))) (
     .jump [(.x 12)])))))))))
    (.esc (.jump [])))))) (
 .ret [(.c (.v (.bool true)))])))))
def T.impl_ExpOk : T :=
.chk (.cells (.x 0) 7) (
.chk (.cells (.x 0) 7) (
.op (.call F.impl_headOk [(.x 0)] false) (
.op (.un .not (.x 1)) (
.ite (.x 2)
 (.ret [(.c (.v (.bool false)))])
 (.bind 0 (
  .op (.lenL (.cell 0 5)) (
  .loop [(.c (.v (.int .i64 0)))] (
   .op (.bin .lss (.x 4) (.x 3)) (
   .ite (.x 5)
    (.op (.elem 7 (.cell 0 5) (.x 4)) (
    .chk (.cells (.x 6) 7) (
    .chk (.cells (.x 6) 7) (
    .chk (.cells (.x 6) 7) (
    .op (.call F.impl_ExpOk [(.x 6)] false) (
    .op (.un .not (.x 7)) (
    .ite (.x 8)
     (.esc (.esc (.ret [(.c (.v (.bool false)))])))
     (.op (.bin .add (.x 4) (.c (.v (.int .i64 1)))) (
     .jump [(.x 9)])))))))))
    (.esc (.jump [])))))) (
 .bind 0 (
  .op (.lenL (.cell 0 6)) (
  .loop [(.c (.v (.int .i64 0)))] (
   .op (.bin .lss (.x 4) (.x 3)) (
   .ite (.x 5)
    (.bind 12 (
     .op (.elem 12 (.cell 0 6) (.x 4)) (
     .chk (.cells (.x 6) 12) (
     .chk (.cells (.x 6) 12) (
     .bind 1 (
      .op (.call F.impl_patOk [(.agg [(.cell 6 0), (.cell 6 1), (.cell 6 2), (.cell 6 3), (.cell 6 4)])] false) (
      .op (.un .not (.x 7)) (
      .ite (.x 8)
       (.jump [(.c (.v (.bool true)))])
       (.op (.call F.impl_ExpOk [(.agg [(.cell 6 5), (.cell 6 6), (.cell 6 7), (.cell 6 8), (.cell 6 9), (.cell 6 10), (.cell 6 11)])] false) (
       .op (.un .not (.x 9)) (
       .jump [(.x 10)])))))) (
     .ite (.x 7)
      (.esc (.esc (.esc (.ret [(.c (.v (.bool false)))]))))
      (.jump [(.cell 6 0), (.cell 6 1), (.cell 6 2), (.cell 6 3), (.cell 6 4), (.cell 6 5), (.cell 6 6), (.cell 6 7), (.cell 6 8), (.cell 6 9), (.cell 6 10), (.cell 6 11)])))))) (
    .op (.bin .add (.x 4) (.c (.v (.int .i64 1)))) (
    .jump [(.x 18)])))
    (.esc (.jump [])))))) (
 .ret [(.c (.v (.bool true)))])))))))
theorem T.impl_ExpOk_l : leftF Try.prog CF Try.f48 = some (1, T.impl_ExpOk) := by kernel_rfl
theorem T.impl_ExpOk_con {args : List AV} {res : AV} (hl : args.length = 1) (hn : AV.norefs args = true) (hw : wpT Try.prog (fun _ _ _ => False) (fun a => a = res) T.impl_ExpOk args []) : PCon Try.prog F.impl_ExpOk args res :=
  con_auto Try.func48 T.impl_ExpOk_l hl hn hw
def T.impl_alpha : T :=
.chk (.cells (.x 0) 7) (
.chk (.cells (.x 1) 7) (
.bind 0 (
 .bind 1 (
  .op (.bin .neq (.cell 0 0) (.cell 1 0)) (
  .ite (.x 4)
   (.jump [(.c (.v (.bool true)))])
   (.op (.bin .neq (.cell 0 2) (.cell 1 2)) (
   .ite (.x 5)
    (.jump [(.c (.v (.bool true)))])
    (.op (.lenL (.cell 0 5)) (
    .op (.lenL (.cell 1 5)) (
    .op (.bin .neq (.x 6) (.x 7)) (
    .ite (.x 8)
     (.jump [(.c (.v (.bool true)))])
     (.op (.lenL (.cell 0 6)) (
     .op (.lenL (.cell 1 6)) (
     .op (.bin .neq (.x 9) (.x 10)) (
     .jump [(.x 11)])))))))))))) (
 .ite (.x 4)
  (.esc (.ret [(.c (.v (.bool false)))]))
  (.jump []))) (
.bind 0 (
 .op (.bin .eql (.cell 0 0) (.c (.v (.int .i64 5)))) (
 .ite (.x 4)
  (.op (.call F.impl_names_at [(.x 2), (.cell 0 1)] true) (
  .op (.call F.impl_names_at [(.x 3), (.cell 1 1)] true) (
  .bind 1 (
   .op (.bin .eql (.x 5) (.x 6)) (
   .ite (.x 7)
    (.op (.bin .geq (.x 5) (.c (.v (.int .i64 0)))) (
    .ite (.x 8)
     (.jump [(.c (.v (.bool true)))])
     (.op (.bin .eql (.cell 0 1) (.cell 1 1)) (
     .jump [(.x 9)]))))
    (.jump [(.c (.v (.bool false)))]))) (
  .esc (.ret [(.x 7)])))))
  (.bind 1 (
   .op (.bin .eql (.cell 0 0) (.c (.v (.int .i64 8)))) (
   .ite (.x 5)
    (.jump [(.x 5)])
    (.op (.bin .eql (.cell 0 0) (.c (.v (.int .i64 10)))) (
    .ite (.x 6)
     (.jump [(.x 6)])
     (.op (.bin .eql (.cell 0 0) (.c (.v (.int .i64 11)))) (
     .jump [(.x 7)])))))) (
  .ite (.x 5)
   (.jump [])
   (.bind 1 (
    .op (.bin .neq (.cell 0 1) (.cell 1 1)) (
    .ite (.x 6)
     (.jump [(.c (.v (.bool true)))])
     (.op (.bin .neq (.cell 0 3) (.cell 1 3)) (
     .jump [(.x 7)])))) (
   .ite (.x 6)
    (.esc (.ret [(.c (.v (.bool false)))]))
    (.jump []))))))) (
.bind 0 (
 .op (.lenL (.cell 0 5)) (
 .loop [(.c (.v (.int .i64 0)))] (
  .op (.bin .lss (.x 5) (.x 4)) (
  .ite (.x 6)
   (.op (.elem 7 (.cell 0 5) (.x 5)) (
   .chk (.cells (.x 7) 7) (
   .op (.elem 7 (.cell 1 5) (.x 5)) (
   .chk (.cells (.x 8) 7) (
   .chk (.cells (.x 0) 7) (
   .op (.call F.impl_bindsIn [(.x 0), (.x 5)] false) (
   .chk (.one (.x 2)) (
   .chk (.one (.x 9)) (
   .op (.mkl .nils 2 [(0, (.x 2)), (1, (.x 9))]) (
   .op (.call F.slices_Concat_impl_names_string [(.x 10)] false) (
   .chk (.cells (.x 1) 7) (
   .op (.call F.impl_bindsIn [(.x 1), (.x 5)] false) (
   .chk (.one (.x 3)) (
   .chk (.one (.x 12)) (
   .op (.mkl .nils 2 [(0, (.x 3)), (1, (.x 12))]) (
   .op (.call F.slices_Concat_impl_names_string [(.x 13)] false) (
   .op (.call F.impl_alpha [(.x 7), (.x 8), (.x 11), (.x 14)] true) (
   .op (.un .not (.x 15)) (
   .ite (.x 16)
    (.esc (.esc (.ret [(.c (.v (.bool false)))])))
    (.op (.bin .add (.x 5) (.c (.v (.int .i64 1)))) (
    .jump [(.x 17)])))))))))))))))))))))
   (.esc (.jump [])))))) (
.bind 0 (
 .op (.lenL (.cell 0 6)) (
 .loop [(.c (.v (.int .i64 0)))] (
  .op (.bin .lss (.x 5) (.x 4)) (
  .ite (.x 6)
   (.bind 24 (
    .op (.elem 12 (.cell 0 6) (.x 5)) (
    .chk (.cells (.x 7) 12) (
    .op (.elem 12 (.cell 1 6) (.x 5)) (
    .chk (.cells (.x 8) 12) (
    .chk (.cells (.x 7) 12) (
    .chk (.cells (.x 8) 12) (
    .bind 1 (
     .op (.call F.impl_alikePat [(.agg [(.cell 7 0), (.cell 7 1), (.cell 7 2), (.cell 7 3), (.cell 7 4)]), (.agg [(.cell 8 0), (.cell 8 1), (.cell 8 2), (.cell 8 3), (.cell 8 4)])] true) (
     .op (.un .not (.x 9)) (
     .ite (.x 10)
      (.jump [(.c (.v (.bool true)))])
      (.op (.call F.impl_patNames [(.agg [(.cell 7 0), (.cell 7 1), (.cell 7 2), (.cell 7 3), (.cell 7 4)])] false) (
      .chk (.one (.x 2)) (
      .chk (.one (.x 11)) (
      .op (.mkl .nils 2 [(0, (.x 2)), (1, (.x 11))]) (
      .op (.call F.slices_Concat_impl_names_string [(.x 12)] false) (
      .op (.call F.impl_patNames [(.agg [(.cell 8 0), (.cell 8 1), (.cell 8 2), (.cell 8 3), (.cell 8 4)])] false) (
      .chk (.one (.x 3)) (
      .chk (.one (.x 14)) (
      .op (.mkl .nils 2 [(0, (.x 3)), (1, (.x 14))]) (
      .op (.call F.slices_Concat_impl_names_string [(.x 15)] false) (
      .op (.call F.impl_alpha [(.agg [(.cell 7 5), (.cell 7 6), (.cell 7 7), (.cell 7 8), (.cell 7 9), (.cell 7 10), (.cell 7 11)]), (.agg [(.cell 8 5), (.cell 8 6), (.cell 8 7), (.cell 8 8), (.cell 8 9), (.cell 8 10), (.cell 8 11)]), (.x 13), (.x 16)] true) (
      .op (.un .not (.x 17)) (
      .jump [(.x 18)])))))))))))))))) (
    .ite (.x 9)
     (.esc (.esc (.esc (.ret [(.c (.v (.bool false)))]))))
     (.jump [(.cell 7 0), (.cell 7 1), (.cell 7 2), (.cell 7 3), (.cell 7 4), (.cell 7 5), (.cell 7 6), (.cell 7 7), (.cell 7 8), (.cell 7 9), (.cell 7 10), (.cell 7 11), (.cell 8 0), (.cell 8 1), (.cell 8 2), (.cell 8 3), (.cell 8 4), (.cell 8 5), (.cell 8 6), (.cell 8 7), (.cell 8 8), (.cell 8 9), (.cell 8 10), (.cell 8 11)]))))))))) (
   .op (.bin .add (.x 5) (.c (.v (.int .i64 1)))) (
   .jump [(.x 31)])))
   (.esc (.jump [])))))) (
.ret [(.c (.v (.bool true)))]))))))
theorem T.impl_alpha_l : leftF Try.prog CF Try.f49 = some (4, T.impl_alpha) := by kernel_rfl
theorem T.impl_alpha_con {args : List AV} {res : AV} (hl : args.length = 4) (hn : AV.norefs args = true) (hw : wpT Try.prog (fun _ _ _ => False) (fun a => a = res) T.impl_alpha args []) : PCon Try.prog F.impl_alpha args res :=
  con_auto Try.func49 T.impl_alpha_l hl hn hw
def T.spec_TyOk : T :=
.chk (.cells (.x 0) 4) (
.chk (.cells (.x 0) 4) (
.op (.call F.spec_l4Node [(.x 0)] false) (
.op (.un .not (.x 1)) (
.ite (.x 2)
 (.ret [(.c (.v (.bool false)))])
 (.bind 0 (
  .loop [(.c (.v (.int .i64 0)))] (
   .op (.lenL (.cell 0 3)) (
   .op (.bin .lss (.x 3) (.x 4)) (
   .ite (.x 5)
    (.op (.elem 4 (.cell 0 3) (.x 3)) (
    .chk (.cells (.x 6) 4) (
    .op (.call F.spec_TyOk [(.x 6)] false) (
    .op (.un .not (.x 7)) (
    .ite (.x 8)
     (.esc (.esc (.ret [(.c (.v (.bool false)))])))
     (.op (.bin .add (.x 3) (.c (.v (.int .i64 1)))) (
     .jump [(.x 9)])))))))
    (.esc (.jump [])))))) (
 .ret [(.c (.v (.bool true)))]))))))
def T.spec_l4Free : T :=
.chk (.cells (.x 0) 4) (
.bind 1 (
 .bind 1 (
  .op (.bin .eql (.cell 0 0) (.x 1)) (
  .ite (.x 3)
   (.op (.call F.spec_l4Has [(.sl (.x 2)), (.cell 0 1)] true) (
   .op (.un .not (.x 4)) (
   .jump [(.x 5)])))
   (.jump [(.c (.v (.bool false)))]))) (
 .ite (.x 3)
  (.chk (.one (.cell 0 1)) (
  .op (.mkl (.v (.int .i64 0)) 1 [(0, (.cell 0 1))]) (
  .op (.app 1 8 (.x 2) (.sl (.x 4))) (
  .jump [(.x 5)]))))
  (.jump [(.x 2)]))) (
.bind 1 (
 .loop [(.x 3), (.c (.v (.int .i64 0)))] (
  .op (.lenL (.cell 0 3)) (
  .op (.bin .lss (.x 5) (.x 6)) (
  .ite (.x 7)
   (.op (.elem 4 (.cell 0 3) (.x 5)) (
   .chk (.cells (.x 8) 4) (
   .op (.scall F.spec_l4Free G.spec_l4Free [(.x 8), (.x 1), (.x 4)]) (
   .op (.bin .add (.x 5) (.c (.v (.int .i64 1)))) (
   .jump [(.ext 9 0), (.x 10)])))))
   (.esc (.jump [(.x 4)])))))) (
.ret [(.x 4)])))
def T.impl_isVarKind : T :=
.op (.call F.impl_within [(.x 0), (.c (.v (.int .i64 9))), (.c (.v (.int .i64 11)))] false) (
.ret [(.x 1)])
def T.impl_TyOk : T :=
.chk (.cells (.x 0) 4) (
.bind 1 (
 .chk (.cells (.x 0) 4) (
 .op (.call F.impl_tyHeadOk [(.x 0)] false) (
 .ite (.x 1)
  (.op (.call F.slices_ContainsFunc__impl_Ty_impl_Ty [(.cell 0 3), (.c (.fn F.impl_TyOk_1 []))] false) (
  .op (.un .not (.x 2)) (
  .jump [(.x 3)])))
  (.jump [(.c (.v (.bool false)))])))) (
.ret [(.x 1)]))
def T.impl_frees : T :=
.chk (.cells (.x 0) 4) (
.bind 1 (
 .op (.bin .eql (.cell 0 0) (.x 1)) (
 .ite (.x 2)
  (.chk (.one (.cell 0 1)) (
  .op (.mkl (.v (.int .i64 0)) 1 [(0, (.cell 0 1))]) (
  .op (.app 1 8 (.c (.sl [])) (.sl (.x 3))) (
  .jump [(.x 4)]))))
  (.jump [(.c (.sl []))]))) (
.bind 1 (
 .op (.lenL (.cell 0 3)) (
 .loop [(.x 2), (.c (.v (.int .i64 0)))] (
  .op (.bin .lss (.x 5) (.x 3)) (
  .ite (.x 6)
   (.bind 6 (
    .op (.elem 4 (.cell 0 3) (.x 5)) (
    .chk (.cells (.x 7) 4) (
    .chk (.cells (.x 7) 4) (
    .chk (.cells (.x 7) 4) (
    .op (.fcall true 3 1 F.impl_frees [(.x 7), (.x 1)]) (
    .op (.lenL (.sl (.x 8))) (
    .loop [(.x 4), (.c (.v (.int .i64 0)))] (
     .op (.bin .lss (.x 11) (.x 9)) (
     .ite (.x 12)
      (.bind 1 (
       .chk (.idx (.x 8) (.x 11)) (
       .op (.get (.x 8) (.x 11) 0 none) (
       .op (.call F.slices_Contains__int_int [(.sl (.x 10)), (.x 13)] true) (
       .op (.un .not (.x 14)) (
       .ite (.x 15)
        (.chk (.one (.x 13)) (
        .op (.mkl (.v (.int .i64 0)) 1 [(0, (.x 13))]) (
        .op (.app 1 8 (.x 10) (.sl (.x 16))) (
        .jump [(.x 17)]))))
        (.jump [(.x 10)])))))) (
      .op (.bin .add (.x 11) (.c (.v (.int .i64 1)))) (
      .jump [(.x 13), (.x 14)])))
      (.esc (.jump [(.x 10), (.cell 7 0), (.cell 7 1), (.cell 7 2), (.cell 7 3), (.x 8)]))))))))))) (
   .op (.bin .add (.x 5) (.c (.v (.int .i64 1)))) (
   .jump [(.x 7), (.x 13)])))
   (.esc (.jump [(.x 4)])))))) (
.ret [(.sl (.x 3))])))
def T.spec_l4Copy : T :=
.chk (.cells (.x 0) 4) (
.chk (.cells (.x 0) 4) (
.chk (.cells (.x 0) 4) (
.op (.mkl (.agg [(.v (.int .i64 0)), (.v (.int .i64 0)), (.v (.string ⟨#[]⟩)), .nils]) 0 []) (
.bind 1 (
 .loop [(.x 1), (.c (.v (.int .i64 0)))] (
  .op (.lenL (.cell 0 3)) (
  .op (.bin .lss (.x 3) (.x 4)) (
  .ite (.x 5)
   (.op (.elem 4 (.cell 0 3) (.x 3)) (
   .chk (.cells (.x 6) 4) (
   .op (.call F.spec_l4Copy [(.x 6)] false) (
   .chk (.cells (.x 7) 4) (
   .op (.mkl (.agg [(.v (.int .i64 0)), (.v (.int .i64 0)), (.v (.string ⟨#[]⟩)), .nils]) 1 [(0, (.x 7))]) (
   .op (.app 4 56 (.x 2) (.x 8)) (
   .op (.bin .add (.x 3) (.c (.v (.int .i64 1)))) (
   .jump [(.x 9), (.x 10)]))))))))
   (.esc (.jump [(.x 2)])))))) (
.chk (.one (.cell 0 0)) (
.chk (.one (.cell 0 1)) (
.chk (.one (.cell 0 2)) (
.ret [(.agg [(.cell 0 0), (.cell 0 1), (.cell 0 2), (.sl (.x 2))])]))))))))
def T.spec_l4Put : T :=
.chk (.cells (.x 0) 4) (
.bind 0 (
 .bind 1 (
  .op (.bin .eql (.cell 0 0) (.x 1)) (
  .ite (.x 3)
   (.op (.lenL (.x 2)) (
   .op (.bin .lss (.cell 0 1) (.x 4)) (
   .jump [(.x 5)])))
   (.jump [(.c (.v (.bool false)))]))) (
 .ite (.x 3)
  (.op (.elem 4 (.x 2) (.cell 0 1)) (
  .chk (.cells (.x 4) 4) (
  .op (.call F.spec_l4Copy [(.x 4)] false) (
  .chk (.cells (.x 5) 4) (
  .esc (.ret [(.agg [(.cell 5 0), (.cell 5 1), (.cell 5 2), (.cell 5 3)])]))))))
  (.jump []))) (
.chk (.cells (.x 0) 4) (
.chk (.cells (.x 0) 4) (
.op (.mkl (.agg [(.v (.int .i64 0)), (.v (.int .i64 0)), (.v (.string ⟨#[]⟩)), .nils]) 0 []) (
.bind 1 (
 .loop [(.x 3), (.c (.v (.int .i64 0)))] (
  .op (.lenL (.cell 0 3)) (
  .op (.bin .lss (.x 5) (.x 6)) (
  .ite (.x 7)
   (.op (.elem 4 (.cell 0 3) (.x 5)) (
   .chk (.cells (.x 8) 4) (
   .op (.call F.spec_l4Put [(.x 8), (.x 1), (.x 2)] false) (
   .chk (.cells (.x 9) 4) (
   .op (.mkl (.agg [(.v (.int .i64 0)), (.v (.int .i64 0)), (.v (.string ⟨#[]⟩)), .nils]) 1 [(0, (.x 9))]) (
   .op (.app 4 56 (.x 4) (.x 10)) (
   .op (.bin .add (.x 5) (.c (.v (.int .i64 1)))) (
   .jump [(.x 11), (.x 12)]))))))))
   (.esc (.jump [(.x 4)])))))) (
.chk (.one (.cell 0 0)) (
.chk (.one (.cell 0 1)) (
.chk (.one (.cell 0 2)) (
.ret [(.agg [(.cell 0 0), (.cell 0 1), (.cell 0 2), (.sl (.x 4))])])))))))))
def T.impl_copyTy : T :=
.chk (.cells (.x 0) 4) (
.chk (.one (.c .nils)) (
.bind 1 (
 .op (.lenL (.cell 0 3)) (
 .loop [(.c (.sl [])), (.c (.v (.int .i64 0)))] (
  .op (.bin .lss (.x 3) (.x 1)) (
  .ite (.x 4)
   (.op (.elem 4 (.cell 0 3) (.x 3)) (
   .chk (.cells (.x 5) 4) (
   .chk (.cells (.x 5) 4) (
   .chk (.cells (.x 5) 4) (
   .op (.call F.impl_copyTy [(.x 5)] false) (
   .chk (.cells (.x 6) 4) (
   .op (.mkl (.agg [(.v (.int .i64 0)), (.v (.int .i64 0)), (.v (.string ⟨#[]⟩)), .nils]) 1 [(0, (.x 6))]) (
   .op (.app 4 56 (.x 2) (.x 7)) (
   .op (.bin .add (.x 3) (.c (.v (.int .i64 1)))) (
   .jump [(.x 8), (.x 9)]))))))))))
   (.esc (.jump [(.x 2)])))))) (
.chk (.one (.cell 0 0)) (
.chk (.one (.cell 0 1)) (
.chk (.one (.cell 0 2)) (
.ret [(.agg [(.cell 0 0), (.cell 0 1), (.cell 0 2), (.sl (.x 1))])]))))))
def T.impl_put : T :=
.chk (.cells (.x 0) 4) (
.bind 0 (
 .bind 1 (
  .op (.bin .eql (.cell 0 0) (.x 1)) (
  .ite (.x 3)
   (.op (.lenL (.x 2)) (
   .op (.bin .lss (.cell 0 1) (.x 4)) (
   .jump [(.x 5)])))
   (.jump [(.c (.v (.bool false)))]))) (
 .ite (.x 3)
  (.op (.elem 4 (.x 2) (.cell 0 1)) (
  .chk (.cells (.x 4) 4) (
  .op (.call F.impl_copyTy [(.x 4)] false) (
  .chk (.cells (.x 5) 4) (
  .esc (.ret [(.agg [(.cell 5 0), (.cell 5 1), (.cell 5 2), (.cell 5 3)])]))))))
  (.jump []))) (
.chk (.cells (.x 0) 4) (
.chk (.cells (.x 0) 4) (
.chk (.one (.c .nils)) (
.bind 1 (
 .op (.lenL (.cell 0 3)) (
 .loop [(.c (.sl [])), (.c (.v (.int .i64 0)))] (
  .op (.bin .lss (.x 5) (.x 3)) (
  .ite (.x 6)
   (.op (.elem 4 (.cell 0 3) (.x 5)) (
   .chk (.cells (.x 7) 4) (
   .chk (.cells (.x 7) 4) (
   .chk (.cells (.x 7) 4) (
   .op (.call F.impl_put [(.x 7), (.x 1), (.x 2)] false) (
   .chk (.cells (.x 8) 4) (
   .op (.mkl (.agg [(.v (.int .i64 0)), (.v (.int .i64 0)), (.v (.string ⟨#[]⟩)), .nils]) 1 [(0, (.x 8))]) (
   .op (.app 4 56 (.x 4) (.x 9)) (
   .op (.bin .add (.x 5) (.c (.v (.int .i64 1)))) (
   .jump [(.x 10), (.x 11)]))))))))))
   (.esc (.jump [(.x 4)])))))) (
.chk (.one (.cell 0 0)) (
.chk (.one (.cell 0 1)) (
.chk (.one (.cell 0 2)) (
.ret [(.agg [(.cell 0 0), (.cell 0 1), (.cell 0 2), (.sl (.x 3))])])))))))))
def T.laws_markText : T :=
.op (.bin .leq (.x 0) (.c (.v (.int .i64 0)))) (
.ite (.x 1)
 (.ret [(.c (.v (.string ⟨#[109, 48]⟩)))])
 (.bind 1 (
  .loop [(.x 0), (.c (.v (.string ⟨#[]⟩)))] (
   .op (.bin .gtr (.x 2) (.c (.v (.int .i64 0)))) (
   .ite (.x 4)
    (.op (.bin .rem (.x 2) (.c (.v (.int .i64 10)))) (
    .op (.bin .add (.c (.v (.int .i64 48))) (.x 5)) (
    .op (.conv .u8 (.x 6)) (
    .chk (.one (.x 7)) (
    .op (.mkl (.v (.int .u8 0)) 1 [(0, (.x 7))]) (
    .op (.pu .b2s [(.sl (.x 8))]) (
    .op (.bin .add (.x 9) (.x 3)) (
    .op (.bin .quo (.x 2) (.c (.v (.int .i64 10)))) (
    .jump [(.x 11), (.x 10)])))))))))
    (.esc (.jump [(.x 3)]))))) (
 .op (.bin .add (.c (.v (.string ⟨#[109]⟩))) (.x 2)) (
 .ret [(.x 3)]))))
def T.laws_szExpS : T :=
.op (.lenL (.x 0)) (
.op (.bin .sub (.x 1) (.x 2)) (
.op (.bin .lss (.x 3) (.c (.v (.int .i64 0)))) (
.ite (.x 4)
 (.ret [(.c (.v (.int .i64 (-1))))])
 (.bind 1 (
  .loop [(.x 3), (.c (.v (.int .i64 0)))] (
   .op (.lenL (.x 0)) (
   .op (.bin .lss (.x 6) (.x 7)) (
   .ite (.x 8)
    (.op (.elem 7 (.x 0) (.x 6)) (
    .chk (.cells (.x 9) 7) (
    .op (.call F.laws_szExp [(.x 9), (.x 5)] false) (
    .op (.bin .lss (.x 10) (.c (.v (.int .i64 0)))) (
    .ite (.x 11)
     (.esc (.esc (.ret [(.c (.v (.int .i64 (-1))))])))
     (.op (.bin .add (.x 6) (.c (.v (.int .i64 1)))) (
     .jump [(.x 10), (.x 12)])))))))
    (.esc (.jump [(.x 5)])))))) (
 .ret [(.x 5)])))))
def T.laws_szArmS : T :=
.op (.lenL (.x 0)) (
.op (.bin .sub (.x 1) (.x 2)) (
.op (.bin .lss (.x 3) (.c (.v (.int .i64 0)))) (
.ite (.x 4)
 (.ret [(.c (.v (.int .i64 (-1))))])
 (.bind 1 (
  .loop [(.x 3), (.c (.v (.int .i64 0)))] (
   .op (.lenL (.x 0)) (
   .op (.bin .lss (.x 6) (.x 7)) (
   .ite (.x 8)
    (.op (.elem 12 (.x 0) (.x 6)) (
    .chk (.cells (.x 9) 12) (
    .op (.call F.laws_szArm [(.x 9), (.x 5)] false) (
    .op (.bin .lss (.x 10) (.c (.v (.int .i64 0)))) (
    .ite (.x 11)
     (.esc (.esc (.ret [(.c (.v (.int .i64 (-1))))])))
     (.op (.bin .add (.x 6) (.c (.v (.int .i64 1)))) (
     .jump [(.x 10), (.x 12)])))))))
    (.esc (.jump [(.x 5)])))))) (
 .ret [(.x 5)])))))
def T.spec_ExpOk : T :=
.chk (.cells (.x 0) 7) (
.chk (.cells (.x 0) 7) (
.op (.call F.spec_l2Node [(.x 0)] false) (
.op (.un .not (.x 1)) (
.ite (.x 2)
 (.ret [(.c (.v (.bool false)))])
 (.bind 0 (
  .loop [(.c (.v (.int .i64 0)))] (
   .op (.lenL (.cell 0 5)) (
   .op (.bin .lss (.x 3) (.x 4)) (
   .ite (.x 5)
    (.op (.elem 7 (.cell 0 5) (.x 3)) (
    .chk (.cells (.x 6) 7) (
    .op (.call F.spec_ExpOk [(.x 6)] false) (
    .op (.un .not (.x 7)) (
    .ite (.x 8)
     (.esc (.esc (.ret [(.c (.v (.bool false)))])))
     (.op (.bin .add (.x 3) (.c (.v (.int .i64 1)))) (
     .jump [(.x 9)])))))))
    (.esc (.jump [])))))) (
 .bind 0 (
  .loop [(.c (.v (.int .i64 0)))] (
   .op (.lenL (.cell 0 6)) (
   .op (.bin .lss (.x 3) (.x 4)) (
   .ite (.x 5)
    (.bind 0 (
     .bind 1 (
      .op (.elem 12 (.cell 0 6) (.x 3)) (
      .op (.loadc 0 5 (.x 6)) (
      .op (.call F.spec_l2PatOk [(.x 7)] false) (
      .op (.un .not (.x 8)) (
      .ite (.x 9)
       (.jump [(.c (.v (.bool true)))])
       (.op (.elem 12 (.cell 0 6) (.x 3)) (
       .op (.loadc 5 7 (.x 10)) (
       .op (.call F.spec_ExpOk [(.x 11)] false) (
       .op (.un .not (.x 12)) (
       .jump [(.x 13)])))))))))) (
     .ite (.x 6)
      (.esc (.esc (.esc (.ret [(.c (.v (.bool false)))]))))
      (.jump []))) (
    .op (.bin .add (.x 3) (.c (.v (.int .i64 1)))) (
    .jump [(.x 6)])))
    (.esc (.jump [])))))) (
 .ret [(.c (.v (.bool true)))])))))))
def T.spec_l19Same : T :=
.chk (.cells (.x 0) 7) (
.chk (.cells (.x 1) 7) (
.bind 0 (
 .bind 1 (
  .op (.bin .neq (.cell 0 0) (.cell 1 0)) (
  .ite (.x 4)
   (.jump [(.c (.v (.bool true)))])
   (.op (.bin .neq (.cell 0 2) (.cell 1 2)) (
   .ite (.x 5)
    (.jump [(.c (.v (.bool true)))])
    (.op (.lenL (.cell 0 5)) (
    .op (.lenL (.cell 1 5)) (
    .op (.bin .neq (.x 6) (.x 7)) (
    .ite (.x 8)
     (.jump [(.c (.v (.bool true)))])
     (.op (.lenL (.cell 0 6)) (
     .op (.lenL (.cell 1 6)) (
     .op (.bin .neq (.x 9) (.x 10)) (
     .jump [(.x 11)])))))))))))) (
 .ite (.x 4)
  (.esc (.ret [(.c (.v (.bool false)))]))
  (.jump []))) (
.bind 0 (
 .op (.bin .eql (.cell 0 0) (.c (.v (.int .i64 5)))) (
 .ite (.x 4)
  (.op (.call F.spec_l19Name [(.x 2), (.x 3), (.cell 0 1), (.cell 1 1)] false) (
  .esc (.ret [(.x 5)])))
  (.op (.bin .eql (.cell 0 0) (.c (.v (.int .i64 8)))) (
  .ite (.x 5)
   (.op (.elem 7 (.cell 0 5) (.c (.v (.int .i64 0)))) (
   .chk (.cells (.x 6) 7) (
   .op (.elem 7 (.cell 1 5) (.c (.v (.int .i64 0)))) (
   .chk (.cells (.x 7) 7) (
   .chk (.one (.cell 0 1)) (
   .op (.mkl (.v (.string ⟨#[]⟩)) 1 [(0, (.cell 0 1))]) (
   .op (.call F.spec_l5With [(.x 2), (.x 8)] false) (
   .chk (.one (.cell 1 1)) (
   .op (.mkl (.v (.string ⟨#[]⟩)) 1 [(0, (.cell 1 1))]) (
   .op (.call F.spec_l5With [(.x 3), (.x 10)] false) (
   .op (.call F.spec_l19Same [(.x 6), (.x 7), (.x 9), (.x 11)] true) (
   .esc (.ret [(.x 12)])))))))))))))
   (.op (.bin .eql (.cell 0 0) (.c (.v (.int .i64 10)))) (
   .ite (.x 6)
    (.bind 1 (
     .op (.elem 7 (.cell 0 5) (.c (.v (.int .i64 0)))) (
     .chk (.cells (.x 7) 7) (
     .op (.elem 7 (.cell 1 5) (.c (.v (.int .i64 0)))) (
     .chk (.cells (.x 8) 7) (
     .op (.call F.spec_l19Same [(.x 7), (.x 8), (.x 2), (.x 3)] true) (
     .ite (.x 9)
      (.op (.elem 7 (.cell 0 5) (.c (.v (.int .i64 1)))) (
      .chk (.cells (.x 10) 7) (
      .op (.elem 7 (.cell 1 5) (.c (.v (.int .i64 1)))) (
      .chk (.cells (.x 11) 7) (
      .chk (.one (.cell 0 1)) (
      .op (.mkl (.v (.string ⟨#[]⟩)) 1 [(0, (.cell 0 1))]) (
      .op (.call F.spec_l5With [(.x 2), (.x 12)] false) (
      .chk (.one (.cell 1 1)) (
      .op (.mkl (.v (.string ⟨#[]⟩)) 1 [(0, (.cell 1 1))]) (
      .op (.call F.spec_l5With [(.x 3), (.x 14)] false) (
      .op (.call F.spec_l19Same [(.x 10), (.x 11), (.x 13), (.x 15)] true) (
      .jump [(.x 16)]))))))))))))
      (.jump [(.c (.v (.bool false)))]))))))) (
    .esc (.ret [(.x 7)])))
    (.op (.bin .eql (.cell 0 0) (.c (.v (.int .i64 11)))) (
    .ite (.x 7)
     (.chk (.one (.cell 0 1)) (
     .op (.mkl (.v (.string ⟨#[]⟩)) 1 [(0, (.cell 0 1))]) (
     .op (.call F.spec_l5With [(.x 2), (.sl (.x 8))] false) (
     .chk (.one (.cell 1 1)) (
     .op (.mkl (.v (.string ⟨#[]⟩)) 1 [(0, (.cell 1 1))]) (
     .op (.call F.spec_l5With [(.x 3), (.sl (.x 10))] false) (
     .bind 1 (
      .op (.elem 7 (.cell 0 5) (.c (.v (.int .i64 0)))) (
      .chk (.cells (.x 12) 7) (
      .op (.elem 7 (.cell 1 5) (.c (.v (.int .i64 0)))) (
      .chk (.cells (.x 13) 7) (
      .chk (.one (.cell 0 3)) (
      .op (.mkl (.v (.string ⟨#[]⟩)) 1 [(0, (.cell 0 3))]) (
      .op (.call F.spec_l5With [(.x 9), (.x 14)] false) (
      .chk (.one (.cell 1 3)) (
      .op (.mkl (.v (.string ⟨#[]⟩)) 1 [(0, (.cell 1 3))]) (
      .op (.call F.spec_l5With [(.x 11), (.x 16)] false) (
      .op (.call F.spec_l19Same [(.x 12), (.x 13), (.x 15), (.x 17)] true) (
      .ite (.x 18)
       (.op (.elem 7 (.cell 0 5) (.c (.v (.int .i64 1)))) (
       .chk (.cells (.x 19) 7) (
       .op (.elem 7 (.cell 1 5) (.c (.v (.int .i64 1)))) (
       .chk (.cells (.x 20) 7) (
       .op (.call F.spec_l19Same [(.x 19), (.x 20), (.x 9), (.x 11)] true) (
       .jump [(.x 21)]))))))
       (.jump [(.c (.v (.bool false)))]))))))))))))) (
     .esc (.ret [(.x 12)])))))))))
     (.jump []))))))))) (
.bind 0 (
 .bind 1 (
  .op (.bin .neq (.cell 0 1) (.cell 1 1)) (
  .ite (.x 4)
   (.jump [(.c (.v (.bool true)))])
   (.op (.bin .neq (.cell 0 3) (.cell 1 3)) (
   .jump [(.x 5)])))) (
 .ite (.x 4)
  (.esc (.ret [(.c (.v (.bool false)))]))
  (.jump []))) (
.bind 0 (
 .loop [(.c (.v (.int .i64 0)))] (
  .op (.lenL (.cell 0 5)) (
  .op (.bin .lss (.x 4) (.x 5)) (
  .ite (.x 6)
   (.op (.elem 7 (.cell 0 5) (.x 4)) (
   .chk (.cells (.x 7) 7) (
   .op (.elem 7 (.cell 1 5) (.x 4)) (
   .chk (.cells (.x 8) 7) (
   .op (.call F.spec_l19Same [(.x 7), (.x 8), (.x 2), (.x 3)] true) (
   .op (.un .not (.x 9)) (
   .ite (.x 10)
    (.esc (.esc (.ret [(.c (.v (.bool false)))])))
    (.op (.bin .add (.x 4) (.c (.v (.int .i64 1)))) (
    .jump [(.x 11)])))))))))
   (.esc (.jump [])))))) (
.bind 0 (
 .loop [(.c (.v (.int .i64 0)))] (
  .op (.lenL (.cell 0 6)) (
  .op (.bin .lss (.x 4) (.x 5)) (
  .ite (.x 6)
   (.bind 0 (
    .op (.elem 12 (.cell 0 6) (.x 4)) (
    .op (.loadc 0 5 (.x 7)) (
    .op (.elem 12 (.cell 1 6) (.x 4)) (
    .op (.loadc 0 5 (.x 9)) (
    .op (.call F.spec_l19Pats [(.x 8), (.x 10), (.x 2), (.x 3)] false) (
    .chk (.tup (.x 11) 0) (
    .chk (.tup (.x 11) 1) (
    .chk (.tup (.x 11) 2) (
    .bind 1 (
     .op (.un .not (.ext 11 2)) (
     .ite (.x 12)
      (.jump [(.c (.v (.bool true)))])
      (.op (.elem 12 (.cell 0 6) (.x 4)) (
      .op (.loadc 5 7 (.x 13)) (
      .op (.elem 12 (.cell 1 6) (.x 4)) (
      .op (.loadc 5 7 (.x 15)) (
      .op (.call F.spec_l19Same [(.x 14), (.x 16), (.ext 11 0), (.ext 11 1)] true) (
      .op (.un .not (.x 17)) (
      .jump [(.x 18)]))))))))) (
    .ite (.x 12)
     (.esc (.esc (.esc (.ret [(.c (.v (.bool false)))]))))
     (.jump []))))))))))) (
   .op (.bin .add (.x 4) (.c (.v (.int .i64 1)))) (
   .jump [(.x 7)])))
   (.esc (.jump [])))))) (
.ret [(.c (.v (.bool true)))])))))))
def T.laws_toExpS : T :=
.op (.lenL (.x 0)) (
.op (.rep 104 (.agg [(.v (.int .i64 0)), (.v (.string ⟨#[]⟩)), (.v (.int .i64 0)), (.v (.string ⟨#[]⟩)), (.v (.int .i64 0)), .nils, .nils]) (.x 1) (.x 1)) (
.bind 1 (
 .loop [(.x 2), (.c (.v (.int .i64 0)))] (
  .op (.lenL (.x 0)) (
  .op (.bin .lss (.x 4) (.x 5)) (
  .ite (.x 6)
   (.op (.elem 7 (.x 0) (.x 4)) (
   .chk (.cells (.x 7) 7) (
   .op (.call F.laws_toExp [(.x 7)] false) (
   .chk (.idx (.x 3) (.x 4)) (
   .chk (.cells (.x 8) 7) (
   .op (.set (.x 3) (.x 4) 0 7 (.x 8)) (
   .op (.bin .add (.x 4) (.c (.v (.int .i64 1)))) (
   .jump [(.x 9), (.x 10)]))))))))
   (.esc (.jump [(.x 3)])))))) (
.ret [(.sl (.x 3))])))
def T.laws_toArmS : T :=
.op (.lenL (.x 0)) (
.op (.rep 168 (.agg [(.v (.int .i64 0)), (.v (.string ⟨#[]⟩)), (.v (.int .i64 0)), (.v (.int .i64 0)), .nils, (.v (.int .i64 0)), (.v (.string ⟨#[]⟩)), (.v (.int .i64 0)), (.v (.string ⟨#[]⟩)), (.v (.int .i64 0)), .nils, .nils]) (.x 1) (.x 1)) (
.bind 1 (
 .loop [(.x 2), (.c (.v (.int .i64 0)))] (
  .op (.lenL (.x 0)) (
  .op (.bin .lss (.x 4) (.x 5)) (
  .ite (.x 6)
   (.op (.elem 12 (.x 0) (.x 4)) (
   .chk (.cells (.x 7) 12) (
   .op (.call F.laws_toArm [(.x 7)] false) (
   .chk (.idx (.x 3) (.x 4)) (
   .chk (.cells (.x 8) 12) (
   .op (.set (.x 3) (.x 4) 0 12 (.x 8)) (
   .op (.bin .add (.x 4) (.c (.v (.int .i64 1)))) (
   .jump [(.x 9), (.x 10)]))))))))
   (.esc (.jump [(.x 3)])))))) (
.ret [(.sl (.x 3))])))
def T.laws_eqExpS : T :=
.op (.lenL (.x 0)) (
.op (.lenL (.x 1)) (
.op (.bin .neq (.x 2) (.x 3)) (
.ite (.x 4)
 (.ret [(.c (.v (.bool false)))])
 (.bind 0 (
  .loop [(.c (.v (.int .i64 0)))] (
   .op (.lenL (.x 0)) (
   .op (.bin .lss (.x 5) (.x 6)) (
   .ite (.x 7)
    (.op (.elem 7 (.x 0) (.x 5)) (
    .chk (.cells (.x 8) 7) (
    .op (.elem 7 (.x 1) (.x 5)) (
    .chk (.cells (.x 9) 7) (
    .op (.call F.laws_eqExp [(.x 8), (.x 9)] true) (
    .op (.un .not (.x 10)) (
    .ite (.x 11)
     (.esc (.esc (.ret [(.c (.v (.bool false)))])))
     (.op (.bin .add (.x 5) (.c (.v (.int .i64 1)))) (
     .jump [(.x 12)])))))))))
    (.esc (.jump [])))))) (
 .ret [(.c (.v (.bool true)))])))))
def T.laws_eqArmS : T :=
.op (.lenL (.x 0)) (
.op (.lenL (.x 1)) (
.op (.bin .neq (.x 2) (.x 3)) (
.ite (.x 4)
 (.ret [(.c (.v (.bool false)))])
 (.bind 0 (
  .loop [(.c (.v (.int .i64 0)))] (
   .op (.lenL (.x 0)) (
   .op (.bin .lss (.x 5) (.x 6)) (
   .ite (.x 7)
    (.op (.elem 12 (.x 0) (.x 5)) (
    .chk (.cells (.x 8) 12) (
    .op (.elem 12 (.x 1) (.x 5)) (
    .chk (.cells (.x 9) 12) (
    .op (.call F.laws_eqArm [(.x 8), (.x 9)] true) (
    .op (.un .not (.x 10)) (
    .ite (.x 11)
     (.esc (.esc (.ret [(.c (.v (.bool false)))])))
     (.op (.bin .add (.x 5) (.c (.v (.int .i64 1)))) (
     .jump [(.x 12)])))))))))
    (.esc (.jump [])))))) (
 .ret [(.c (.v (.bool true)))])))))
def T.spec_l4Right : T :=
.bind 0 (
 .loop [(.c (.v (.int .i64 0)))] (
  .op (.lenL (.x 0)) (
  .op (.bin .lss (.x 2) (.x 3)) (
  .ite (.x 4)
   (.bind 1 (
    .bind 0 (
     .bind 1 (
      .op (.elem 4 (.x 0) (.x 2)) (
      .chk (.cells (.x 5) 4) (
      .op (.call F.spec_TySize [(.x 5)] false) (
      .op (.bin .gtr (.x 6) (.c (.v (.int .i64 200)))) (
      .ite (.x 7)
       (.jump [(.c (.v (.bool true)))])
       (.op (.elem 4 (.x 0) (.x 2)) (
       .chk (.cells (.x 8) 4) (
       .op (.call F.spec_TyOk [(.x 8)] false) (
       .op (.un .not (.x 9)) (
       .jump [(.x 10)])))))))))) (
     .ite (.x 5)
      (.esc (.esc (.esc (.esc (.ret [(.c (.v (.bool false)))])))))
      (.jump []))) (
    .op (.elem 4 (.x 0) (.x 2)) (
    .chk (.cells (.x 5) 4) (
    .op (.fcall false 3 1 F.spec_Free [(.x 5), (.c (.v (.int .i64 11)))]) (
    .loop [(.c (.v (.int .i64 0)))] (
     .op (.lenL (.sl (.x 6))) (
     .op (.bin .lss (.x 7) (.x 8)) (
     .ite (.x 9)
      (.chk (.idx (.x 6) (.x 7)) (
      .op (.get (.x 6) (.x 7) 0 none) (
      .op (.bin .geq (.x 10) (.x 1)) (
      .ite (.x 11)
       (.esc (.esc (.esc (.esc (.ret [(.c (.v (.bool false)))])))))
       (.op (.bin .add (.x 7) (.c (.v (.int .i64 1)))) (
       .jump [(.x 12)]))))))
      (.esc (.jump [(.x 6)])))))))))) (
   .op (.bin .add (.x 2) (.c (.v (.int .i64 1)))) (
   .jump [(.x 6)])))
   (.esc (.jump [])))))) (
.ret [(.c (.v (.bool true)))])
def T.spec_l4Lay : T :=
.chk (.cells (.x 1) 4) (
.op (.bin .eql (.cell 1 0) (.c (.v (.int .i64 11)))) (
.ite (.x 2)
 (.ret [(.cell 1 1)])
 (.op (.mkl (.v (.int .i64 0)) 0 []) (
 .bind 1 (
  .loop [(.x 3), (.c (.v (.int .i64 0)))] (
   .op (.lenL (.cell 1 3)) (
   .op (.bin .lss (.x 5) (.x 6)) (
   .ite (.x 7)
    (.op (.elem 4 (.cell 1 3) (.x 5)) (
    .chk (.cells (.x 8) 4) (
    .op (.call F.spec_l4Lay [(.x 0), (.x 8)] false) (
    .chk (.one (.x 9)) (
    .op (.mkl (.v (.int .i64 0)) 1 [(0, (.x 9))]) (
    .op (.app 1 8 (.x 4) (.sl (.x 10))) (
    .op (.bin .add (.x 5) (.c (.v (.int .i64 1)))) (
    .jump [(.x 11), (.x 12)]))))))))
    (.esc (.jump [(.x 4)])))))) (
 .chk (.cells (.x 1) 4) (
 .op (.call F.spec_l4Add [(.x 0), (.x 1), (.sl (.x 4))] true) (
 .ret [(.x 5)])))))))
def T.spec_l4Find : T :=
.bind 1 (
 .loop [(.x 1)] (
  .chk (.isFn (.x 0)) (
  .op (.fap 2 (.x 0)) (
  .op (.ldp none (.x 3)) (
  .op (.elem 1 (.x 4) (.x 2)) (
  .chk (.lt (.x 5) 0) (
  .op (.bin .neq (.cell 5 0) (.x 2)) (
  .ite (.x 6)
   (.chk (.isFn (.x 0)) (
   .op (.fap 2 (.x 0)) (
   .op (.ldp none (.x 7)) (
   .op (.elem 1 (.x 8) (.x 2)) (
   .chk (.lt (.x 9) 0) (
   .jump [(.cell 9 0)]))))))
   (.esc (.jump [(.x 2)])))))))))) (
.ret [(.x 2)])
def T.spec_l4Read : T :=
.op (.call F.spec_l4Find [(.x 0), (.x 1)] false) (
.chk (.isFn (.x 0)) (
.op (.fap 0 (.x 0)) (
.op (.ldp none (.x 3)) (
.op (.elem 4 (.x 4) (.x 2)) (
.chk (.cells (.x 5) 4) (
.chk (.cells (.x 5) 4) (
.op (.mkl (.agg [(.v (.int .i64 0)), (.v (.int .i64 0)), (.v (.string ⟨#[]⟩)), .nils]) 0 []) (
.bind 1 (
 .loop [(.x 6), (.c (.v (.int .i64 0)))] (
  .chk (.isFn (.x 0)) (
  .op (.fap 1 (.x 0)) (
  .op (.ldp none (.x 9)) (
  .op (.elem 1 (.x 10) (.x 2)) (
  .chk (.lt (.x 11) 0) (
  .op (.lenL (.cell 11 0)) (
  .op (.bin .lss (.x 8) (.x 12)) (
  .ite (.x 13)
   (.chk (.isFn (.x 0)) (
   .op (.fap 1 (.x 0)) (
   .op (.ldp none (.x 14)) (
   .op (.elem 1 (.x 15) (.x 2)) (
   .chk (.lt (.x 16) 0) (
   .op (.elem 1 (.cell 16 0) (.x 8)) (
   .chk (.lt (.x 17) 0) (
   .op (.call F.spec_l4Read [(.x 0), (.cell 17 0)] false) (
   .chk (.cells (.x 18) 4) (
   .op (.mkl (.agg [(.v (.int .i64 0)), (.v (.int .i64 0)), (.v (.string ⟨#[]⟩)), .nils]) 1 [(0, (.x 18))]) (
   .op (.app 4 56 (.x 7) (.x 19)) (
   .op (.bin .add (.x 8) (.c (.v (.int .i64 1)))) (
   .jump [(.x 20), (.x 21)])))))))))))))
   (.esc (.jump [(.x 7)]))))))))))) (
.chk (.one (.cell 5 0)) (
.chk (.one (.cell 5 1)) (
.chk (.one (.cell 5 2)) (
.ret [(.agg [(.cell 5 0), (.cell 5 1), (.cell 5 2), (.sl (.x 7))])]))))))))))))
def T.laws_szInstr : T :=
.chk (.cells (.x 0) 6) (
.op (.lenS (.cell 0 5)) (
.op (.bin .sub (.x 1) (.x 2)) (
.op (.bin .lss (.x 3) (.c (.v (.int .i64 0)))) (
.ite (.x 4)
 (.ret [(.c (.v (.int .i64 (-1))))])
 (.ret [(.x 3)])))))
def T.laws_toInstr : T :=
.chk (.cells (.x 0) 6) (
.chk (.one (.cell 0 0)) (
.chk (.one (.cell 0 1)) (
.chk (.one (.cell 0 2)) (
.chk (.one (.cell 0 3)) (
.chk (.one (.cell 0 4)) (
.chk (.one (.cell 0 5)) (
.chk (.cells (.x 0) 6) (
.chk (.cells (.x 0) 6) (
.ret [(.agg [(.cell 0 0), (.cell 0 1), (.cell 0 2), (.cell 0 3), (.cell 0 4), (.cell 0 5)])])))))))))
def T.laws_eqInstr : T :=
.chk (.cells (.x 0) 6) (
.chk (.cells (.x 1) 6) (
.op (.bin .neq (.cell 0 0) (.cell 1 0)) (
.ite (.x 2)
 (.ret [(.c (.v (.bool false)))])
 (.op (.bin .neq (.cell 0 1) (.cell 1 1)) (
 .ite (.x 3)
  (.ret [(.c (.v (.bool false)))])
  (.op (.bin .neq (.cell 0 2) (.cell 1 2)) (
  .ite (.x 4)
   (.ret [(.c (.v (.bool false)))])
   (.op (.bin .neq (.cell 0 3) (.cell 1 3)) (
   .ite (.x 5)
    (.ret [(.c (.v (.bool false)))])
    (.op (.bin .neq (.cell 0 4) (.cell 1 4)) (
    .ite (.x 6)
     (.ret [(.c (.v (.bool false)))])
     (.op (.bin .neq (.cell 0 5) (.cell 1 5)) (
     .ite (.x 7)
      (.ret [(.c (.v (.bool false)))])
      (.ret [(.c (.v (.bool true)))]))))))))))))))
def T.impl_headOk : T :=
.chk (.cells (.x 0) 7) (
.op (.lenL (.cell 0 5)) (
.op (.bin .eql (.x 1) (.c (.v (.int .i64 0)))) (
.op (.bin .eql (.cell 0 1) (.c (.v (.string ⟨#[]⟩)))) (
.op (.bin .eql (.cell 0 2) (.c (.v (.int .i64 0)))) (
.op (.bin .eql (.cell 0 3) (.c (.v (.string ⟨#[]⟩)))) (
.bind 4 (
 .op (.bin .eql (.cell 0 0) (.c (.v (.int .i64 1)))) (
 .ite (.x 6)
  (.op (.bin .geq (.cell 0 2) (.c (.v (.int .i64 0)))) (
  .jump [(.x 2), (.x 3), (.x 7), (.x 5)]))
  (.op (.bin .eql (.cell 0 0) (.c (.v (.int .i64 2)))) (
  .ite (.x 7)
   (.op (.call F.impl_plain [(.cell 0 3)] false) (
   .jump [(.x 2), (.x 3), (.x 4), (.x 8)]))
   (.op (.bin .eql (.cell 0 0) (.c (.v (.int .i64 3)))) (
   .ite (.x 8)
    (.op (.call F.impl_within [(.cell 0 2), (.c (.v (.int .i64 0))), (.c (.v (.int .i64 1)))] false) (
    .jump [(.x 2), (.x 3), (.x 9), (.x 5)]))
    (.op (.bin .eql (.cell 0 0) (.c (.v (.int .i64 4)))) (
    .ite (.x 9)
     (.jump [(.x 2), (.x 3), (.x 4), (.x 5)])
     (.op (.bin .eql (.cell 0 0) (.c (.v (.int .i64 5)))) (
     .ite (.x 10)
      (.op (.call F.impl_lowOk [(.cell 0 1)] false) (
      .jump [(.x 2), (.x 11), (.x 4), (.x 5)]))
      (.op (.bin .eql (.cell 0 0) (.c (.v (.int .i64 6)))) (
      .ite (.x 11)
       (.op (.lenL (.cell 0 5)) (
       .op (.bin .leq (.x 12) (.c (.v (.int .i64 1)))) (
       .op (.call F.impl_upOk [(.cell 0 1)] true) (
       .jump [(.x 13), (.x 14), (.x 4), (.x 5)]))))
       (.op (.bin .eql (.cell 0 0) (.c (.v (.int .i64 7)))) (
       .ite (.x 12)
        (.op (.lenL (.cell 0 5)) (
        .op (.bin .geq (.x 13) (.c (.v (.int .i64 2)))) (
        .jump [(.x 14), (.x 3), (.x 4), (.x 5)])))
        (.op (.bin .eql (.cell 0 0) (.c (.v (.int .i64 8)))) (
        .ite (.x 13)
         (.op (.lenL (.cell 0 5)) (
         .op (.bin .eql (.x 14) (.c (.v (.int .i64 1)))) (
         .op (.call F.impl_lowOk [(.cell 0 1)] true) (
         .jump [(.x 15), (.x 16), (.x 4), (.x 5)]))))
         (.op (.bin .eql (.cell 0 0) (.c (.v (.int .i64 9)))) (
         .ite (.x 14)
          (.op (.lenL (.cell 0 5)) (
          .op (.bin .eql (.x 15) (.c (.v (.int .i64 2)))) (
          .jump [(.x 16), (.x 3), (.x 4), (.x 5)])))
          (.op (.bin .eql (.cell 0 0) (.c (.v (.int .i64 10)))) (
          .ite (.x 15)
           (.op (.lenL (.cell 0 5)) (
           .op (.bin .eql (.x 16) (.c (.v (.int .i64 2)))) (
           .op (.call F.impl_lowOk [(.cell 0 1)] true) (
           .jump [(.x 17), (.x 18), (.x 4), (.x 5)]))))
           (.op (.bin .eql (.cell 0 0) (.c (.v (.int .i64 11)))) (
           .ite (.x 16)
            (.op (.lenL (.cell 0 5)) (
            .op (.bin .eql (.x 17) (.c (.v (.int .i64 2)))) (
            .op (.call F.impl_lowOk [(.cell 0 1)] true) (
            .op (.call F.impl_lowOk [(.cell 0 3)] true) (
            .jump [(.x 18), (.x 19), (.x 4), (.x 20)])))))
            (.op (.bin .eql (.cell 0 0) (.c (.v (.int .i64 12)))) (
            .ite (.x 17)
             (.op (.lenL (.cell 0 5)) (
             .op (.bin .eql (.x 18) (.c (.v (.int .i64 3)))) (
             .jump [(.x 19), (.x 3), (.x 4), (.x 5)])))
             (.op (.bin .eql (.cell 0 0) (.c (.v (.int .i64 13)))) (
             .ite (.x 18)
              (.op (.lenL (.cell 0 5)) (
              .op (.bin .eql (.x 19) (.c (.v (.int .i64 1)))) (
              .jump [(.x 20), (.x 3), (.x 4), (.x 5)])))
              (.op (.bin .eql (.cell 0 0) (.c (.v (.int .i64 14)))) (
              .ite (.x 19)
               (.op (.lenL (.cell 0 5)) (
               .op (.bin .eql (.x 20) (.c (.v (.int .i64 2)))) (
               .op (.call F.impl_binarySign [(.cell 0 1)] true) (
               .jump [(.x 21), (.x 22), (.x 4), (.x 5)]))))
               (.op (.bin .eql (.cell 0 0) (.c (.v (.int .i64 15)))) (
               .ite (.x 20)
                (.op (.lenL (.cell 0 5)) (
                .op (.call F.impl_primArity [(.cell 0 1)] true) (
                .op (.bin .eql (.x 21) (.x 22)) (
                .jump [(.x 23), (.c (.v (.bool true))), (.x 4), (.x 5)]))))
                (.esc (.ret [(.c (.v (.bool false)))])))))))))))))))))))))))))))))))) (
.bind 1 (
 .ite (.x 6)
  (.ite (.x 7)
   (.ite (.x 8)
    (.ite (.x 9)
     (.op (.bin .geq (.cell 0 4) (.c (.v (.int .i64 0)))) (
     .ite (.x 10)
      (.op (.bin .eql (.cell 0 0) (.c (.v (.int .i64 13)))) (
      .op (.lenL (.cell 0 6)) (
      .op (.bin .gtr (.x 12) (.c (.v (.int .i64 0)))) (
      .op (.beq false (.x 11) (.x 13)) (
      .jump [(.x 14)])))))
      (.jump [(.c (.v (.bool false)))])))
     (.jump [(.c (.v (.bool false)))]))
    (.jump [(.c (.v (.bool false)))]))
   (.jump [(.c (.v (.bool false)))]))
  (.jump [(.c (.v (.bool false)))])) (
.ret [(.x 10)]))))))))
theorem T.impl_headOk_l : leftF Try.prog CF Try.f86 = some (1, T.impl_headOk) := by kernel_rfl
theorem T.impl_headOk_con {args : List AV} {res : AV} (hl : args.length = 1) (hn : AV.norefs args = true) (hw : wpT Try.prog (fun _ _ _ => False) (fun a => a = res) T.impl_headOk args []) : PCon Try.prog F.impl_headOk args res :=
  con_auto Try.func86 T.impl_headOk_l hl hn hw
def T.impl_patOk : T :=
.chk (.cells (.x 0) 5) (
.op (.lenL (.cell 0 4)) (
.op (.bin .eql (.x 1) (.c (.v (.int .i64 0)))) (
.op (.bin .eql (.cell 0 1) (.c (.v (.string ⟨#[]⟩)))) (
.op (.bin .eql (.cell 0 2) (.c (.v (.int .i64 0)))) (
.bind 3 (
 .bind 1 (
  .op (.bin .eql (.cell 0 0) (.c (.v (.int .i64 1)))) (
  .ite (.x 5)
   (.jump [(.x 5)])
   (.op (.bin .eql (.cell 0 0) (.c (.v (.int .i64 5)))) (
   .jump [(.x 6)])))) (
 .ite (.x 5)
  (.jump [(.x 2), (.x 3), (.x 4)])
  (.op (.bin .eql (.cell 0 0) (.c (.v (.int .i64 2)))) (
  .ite (.x 6)
   (.op (.call F.impl_lowOk [(.cell 0 1)] false) (
   .jump [(.x 2), (.x 7), (.x 4)]))
   (.op (.bin .eql (.cell 0 0) (.c (.v (.int .i64 3)))) (
   .ite (.x 7)
    (.op (.bin .geq (.cell 0 2) (.c (.v (.int .i64 0)))) (
    .jump [(.x 2), (.x 3), (.x 8)]))
    (.op (.bin .eql (.cell 0 0) (.c (.v (.int .i64 4)))) (
    .ite (.x 8)
     (.op (.call F.impl_within [(.cell 0 2), (.c (.v (.int .i64 0))), (.c (.v (.int .i64 1)))] false) (
     .jump [(.x 2), (.x 3), (.x 9)]))
     (.op (.bin .eql (.cell 0 0) (.c (.v (.int .i64 6)))) (
     .ite (.x 9)
      (.op (.lenL (.cell 0 4)) (
      .op (.bin .geq (.x 10) (.c (.v (.int .i64 2)))) (
      .jump [(.x 11), (.x 3), (.x 4)])))
      (.op (.bin .eql (.cell 0 0) (.c (.v (.int .i64 7)))) (
      .ite (.x 10)
       (.op (.lenL (.cell 0 4)) (
       .op (.bin .leq (.x 11) (.c (.v (.int .i64 1)))) (
       .op (.call F.impl_upOk [(.cell 0 1)] true) (
       .jump [(.x 12), (.x 13), (.x 4)]))))
       (.esc (.ret [(.c (.v (.bool false)))])))))))))))))) (
.bind 1 (
 .ite (.x 5)
  (.ite (.x 6)
   (.ite (.x 7)
    (.op (.bin .geq (.cell 0 3) (.c (.v (.int .i64 0)))) (
    .ite (.x 8)
     (.op (.call F.slices_ContainsFunc__impl_Pat_impl_Pat [(.cell 0 4), (.c (.fn F.impl_patOk_1 []))] false) (
     .op (.un .not (.x 9)) (
     .jump [(.x 10)])))
     (.jump [(.c (.v (.bool false)))])))
    (.jump [(.c (.v (.bool false)))]))
   (.jump [(.c (.v (.bool false)))]))
  (.jump [(.c (.v (.bool false)))])) (
.ret [(.x 8)])))))))
theorem T.impl_patOk_l : leftF Try.prog CF Try.f87 = some (1, T.impl_patOk) := by kernel_rfl
theorem T.impl_patOk_con {args : List AV} {res : AV} (hl : args.length = 1) (hn : AV.norefs args = true) (hw : wpT Try.prog (fun _ _ _ => False) (fun a => a = res) T.impl_patOk args []) : PCon Try.prog F.impl_patOk args res :=
  con_auto Try.func87 T.impl_patOk_l hl hn hw
def T.impl_names_at : T :=
.bind 0 (
 .op (.lenL (.x 0)) (
 .op (.bin .sub (.x 2) (.c (.v (.int .i64 1)))) (
 .loop [(.x 3)] (
  .op (.bin .geq (.x 4) (.c (.v (.int .i64 0)))) (
  .ite (.x 5)
   (.op (.elem 1 (.x 0) (.x 4)) (
   .chk (.lt (.x 6) 0) (
   .op (.bin .eql (.cell 6 0) (.x 1)) (
   .ite (.x 7)
    (.esc (.esc (.ret [(.x 4)])))
    (.op (.bin .sub (.x 4) (.c (.v (.int .i64 1)))) (
    .jump [(.x 8)]))))))
   (.esc (.jump []))))))) (
.ret [(.c (.v (.int .i64 (-1))))])
theorem T.impl_names_at_l : leftF Try.prog CF Try.f88 = some (2, T.impl_names_at) := by kernel_rfl
theorem T.impl_names_at_con {args : List AV} {res : AV} (hl : args.length = 2) (hn : AV.norefs args = true) (hw : wpT Try.prog (fun _ _ _ => False) (fun a => a = res) T.impl_names_at args []) : PCon Try.prog F.impl_names_at args res :=
  con_auto Try.func88 T.impl_names_at_l hl hn hw
def T.slices_Concat_impl_names_string_B : T :=
.bind 1 (
 .op (.lenL (.x 0)) (
 .loop [(.c (.v (.int .i64 0))), (.c (.v (.int .i64 0)))] (
  .op (.bin .lss (.x 3) (.x 1)) (
  .ite (.x 4)
   (.bind 1 (
    .op (.elem 1 (.x 0) (.x 3)) (
    .chk (.lt (.x 5) 0) (
    .op (.lenL (.cell 5 0)) (
    .op (.bin .add (.x 2) (.x 6)) (
    .op (.bin .lss (.x 7) (.c (.v (.int .i64 0)))) (
    .ite (.x 8)
     (.chk (.no) (
     .chk (.no) (
     .jump [(.x 7)])))
     (.jump [(.x 7)]))))))) (
   .op (.bin .add (.x 3) (.c (.v (.int .i64 1)))) (
   .jump [(.x 5), (.x 6)])))
   (.esc (.jump [(.x 2)])))))) (
.op (.scall F.slices_Grow_impl_names_string G.slices_Grow_impl_names_string_s1 [(.x 1)]) (
.bind 1 (
 .op (.lenL (.x 0)) (
 .loop [(.c (.sl [])), (.c (.v (.int .i64 0)))] (
  .op (.bin .lss (.x 5) (.x 3)) (
  .ite (.x 6)
   (.op (.elem 1 (.x 0) (.x 5)) (
   .chk (.lt (.x 7) 0) (
   .op (.app 1 16 (.x 4) (.cell 7 0)) (
   .op (.bin .add (.x 5) (.c (.v (.int .i64 1)))) (
   .jump [(.x 8), (.x 9)])))))
   (.esc (.jump [(.x 4)])))))) (
.ret [(.sl (.x 3))])))
theorem T.slices_Concat_impl_names_string_B_l : leftF Try.prog CFB Try.f89 = some (1, T.slices_Concat_impl_names_string_B) := by kernel_rfl
theorem T.slices_Concat_impl_names_string_B_con {args : List AV} {res : AV} (hl : args.length = 1) (hn : AV.norefs args = true) (hw : wpT Try.prog (fun _ _ _ => False) (fun a => a = res) T.slices_Concat_impl_names_string_B args []) : PCon Try.prog F.slices_Concat_impl_names_string args res :=
  con_auto Try.func89 T.slices_Concat_impl_names_string_B_l hl hn hw
def T.slices_Concat_impl_names_string : T :=
.bind 1 (
 .op (.lenL (.x 0)) (
 .loop [(.c (.v (.int .i64 0))), (.c (.v (.int .i64 0)))] (
  .op (.bin .lss (.x 3) (.x 1)) (
  .ite (.x 4)
   (.bind 1 (
    .op (.elem 1 (.x 0) (.x 3)) (
    .chk (.lt (.x 5) 0) (
    .op (.lenL (.cell 5 0)) (
    .op (.bin .add (.x 2) (.x 6)) (
    .op (.bin .lss (.x 7) (.c (.v (.int .i64 0)))) (
    .ite (.x 8)
     (.chk (.no) (
     .chk (.no) (
     .jump [(.x 7)])))
     (.jump [(.x 7)]))))))) (
   .op (.bin .add (.x 3) (.c (.v (.int .i64 1)))) (
   .jump [(.x 5), (.x 6)])))
   (.esc (.jump [(.x 2)])))))) (
.op (.scall F.slices_Grow_impl_names_string G.slices_Grow_impl_names_string [(.x 1)]) (
.bind 1 (
 .op (.lenL (.x 0)) (
 .loop [(.ext 2 0), (.c (.v (.int .i64 0)))] (
  .op (.bin .lss (.x 5) (.x 3)) (
  .ite (.x 6)
   (.op (.elem 1 (.x 0) (.x 5)) (
   .chk (.lt (.x 7) 0) (
   .op (.app 1 16 (.x 4) (.cell 7 0)) (
   .op (.bin .add (.x 5) (.c (.v (.int .i64 1)))) (
   .jump [(.x 8), (.x 9)])))))
   (.esc (.jump [(.x 4)])))))) (
.ret [(.sl (.x 3))])))
theorem T.slices_Concat_impl_names_string_l : leftF Try.prog CF Try.f89 = some (1, T.slices_Concat_impl_names_string) := by kernel_rfl
theorem T.slices_Concat_impl_names_string_con {args : List AV} {res : AV} (hl : args.length = 1) (hn : AV.norefs args = true) (hw : wpT Try.prog (fun _ _ _ => False) (fun a => a = res) T.slices_Concat_impl_names_string args []) : PCon Try.prog F.slices_Concat_impl_names_string args res :=
  con_auto Try.func89 T.slices_Concat_impl_names_string_l hl hn hw
def T.impl_bindsIn : T :=
.chk (.cells (.x 0) 7) (
.bind 0 (
 .bind 1 (
  .op (.bin .eql (.cell 0 0) (.c (.v (.int .i64 8)))) (
  .ite (.x 2)
   (.jump [(.x 2)])
   (.bind 1 (
    .op (.bin .eql (.cell 0 0) (.c (.v (.int .i64 10)))) (
    .ite (.x 3)
     (.op (.bin .eql (.x 1) (.c (.v (.int .i64 1)))) (
     .jump [(.x 4)]))
     (.jump [(.c (.v (.bool false)))]))) (
   .ite (.x 3)
    (.jump [(.x 3)])
    (.op (.bin .eql (.cell 0 0) (.c (.v (.int .i64 11)))) (
    .ite (.x 4)
     (.op (.bin .eql (.x 1) (.c (.v (.int .i64 1)))) (
     .jump [(.x 5)]))
     (.jump [(.c (.v (.bool false)))]))))))) (
 .ite (.x 2)
  (.chk (.one (.cell 0 1)) (
  .op (.mkl (.v (.string ⟨#[]⟩)) 1 [(0, (.cell 0 1))]) (
  .esc (.ret [(.sl (.x 3))]))))
  (.op (.bin .eql (.cell 0 0) (.c (.v (.int .i64 11)))) (
  .ite (.x 3)
   (.chk (.one (.cell 0 1)) (
   .chk (.one (.cell 0 3)) (
   .op (.mkl (.v (.string ⟨#[]⟩)) 2 [(0, (.cell 0 1)), (1, (.cell 0 3))]) (
   .esc (.ret [(.sl (.x 4))])))))
   (.jump []))))) (
.ret [(.c .nils)]))
theorem T.impl_bindsIn_l : leftF Try.prog CF Try.f90 = some (2, T.impl_bindsIn) := by kernel_rfl
theorem T.impl_bindsIn_con {args : List AV} {res : AV} (hl : args.length = 2) (hn : AV.norefs args = true) (hw : wpT Try.prog (fun _ _ _ => False) (fun a => a = res) T.impl_bindsIn args []) : PCon Try.prog F.impl_bindsIn args res :=
  con_auto Try.func90 T.impl_bindsIn_l hl hn hw
def T.impl_alikePat : T :=
.chk (.cells (.x 0) 5) (
.chk (.cells (.x 1) 5) (
.bind 1 (
 .op (.bin .eql (.cell 0 0) (.cell 1 0)) (
 .ite (.x 2)
  (.op (.bin .eql (.cell 0 0) (.c (.v (.int .i64 2)))) (
  .ite (.x 3)
   (.op (.bin .eql (.cell 0 2) (.cell 1 2)) (
   .ite (.x 4)
    (.op (.call F.slices_EqualFunc__impl_Pat__impl_Pat_impl_Pat_impl_Pat [(.cell 0 4), (.cell 1 4), (.c (.fn F.impl_alikePat []))] false) (
    .jump [(.x 5)]))
    (.jump [(.c (.v (.bool false)))])))
   (.op (.bin .eql (.cell 0 1) (.cell 1 1)) (
   .ite (.x 4)
    (.op (.bin .eql (.cell 0 2) (.cell 1 2)) (
    .ite (.x 5)
     (.op (.call F.slices_EqualFunc__impl_Pat__impl_Pat_impl_Pat_impl_Pat [(.cell 0 4), (.cell 1 4), (.c (.fn F.impl_alikePat []))] false) (
     .jump [(.x 6)]))
     (.jump [(.c (.v (.bool false)))])))
    (.jump [(.c (.v (.bool false)))])))))
  (.jump [(.c (.v (.bool false)))]))) (
.ret [(.x 2)])))
theorem T.impl_alikePat_l : leftF Try.prog CF Try.f91 = some (2, T.impl_alikePat) := by kernel_rfl
theorem T.impl_alikePat_con {args : List AV} {res : AV} (hl : args.length = 2) (hn : AV.norefs args = true) (hw : wpT Try.prog (fun _ _ _ => False) (fun a => a = res) T.impl_alikePat args []) : PCon Try.prog F.impl_alikePat args res :=
  con_auto Try.func91 T.impl_alikePat_l hl hn hw
def T.impl_patNames : T :=
.chk (.cells (.x 0) 5) (
.bind 1 (
 .op (.bin .eql (.cell 0 0) (.c (.v (.int .i64 2)))) (
 .ite (.x 1)
  (.chk (.one (.cell 0 1)) (
  .op (.mkl (.v (.string ⟨#[]⟩)) 1 [(0, (.cell 0 1))]) (
  .op (.app 1 16 (.c (.sl [])) (.sl (.x 2))) (
  .jump [(.x 3)]))))
  (.jump [(.c (.sl []))]))) (
.bind 1 (
 .op (.lenL (.cell 0 4)) (
 .loop [(.x 1), (.c (.v (.int .i64 0)))] (
  .op (.bin .lss (.x 4) (.x 2)) (
  .ite (.x 5)
   (.op (.elem 5 (.cell 0 4) (.x 4)) (
   .chk (.cells (.x 6) 5) (
   .chk (.cells (.x 6) 5) (
   .chk (.cells (.x 6) 5) (
   .op (.call F.impl_patNames [(.x 6)] false) (
   .op (.app 1 16 (.x 3) (.x 7)) (
   .op (.bin .add (.x 4) (.c (.v (.int .i64 1)))) (
   .jump [(.x 8), (.x 9)]))))))))
   (.esc (.jump [(.x 3)])))))) (
.ret [(.sl (.x 2))])))
theorem T.impl_patNames_l : leftF Try.prog CF Try.f92 = some (1, T.impl_patNames) := by kernel_rfl
theorem T.impl_patNames_con {args : List AV} {res : AV} (hl : args.length = 1) (hn : AV.norefs args = true) (hw : wpT Try.prog (fun _ _ _ => False) (fun a => a = res) T.impl_patNames args []) : PCon Try.prog F.impl_patNames args res :=
  con_auto Try.func92 T.impl_patNames_l hl hn hw
def T.spec_l4Node : T :=
.chk (.cells (.x 0) 4) (
.op (.lenL (.cell 0 3)) (
.bind 0 (
 .bind 1 (
  .op (.bin .neq (.cell 0 0) (.c (.v (.int .i64 7)))) (
  .ite (.x 2)
   (.op (.bin .neq (.cell 0 2) (.c (.v (.string ⟨#[]⟩)))) (
   .ite (.x 3)
    (.jump [(.c (.v (.bool true)))])
    (.op (.bin .lss (.cell 0 0) (.c (.v (.int .i64 9)))) (
    .ite (.x 4)
     (.op (.bin .neq (.cell 0 1) (.c (.v (.int .i64 0)))) (
     .jump [(.x 5)]))
     (.jump [(.c (.v (.bool false)))])))))
   (.op (.bin .lss (.cell 0 0) (.c (.v (.int .i64 9)))) (
   .ite (.x 3)
    (.op (.bin .neq (.cell 0 1) (.c (.v (.int .i64 0)))) (
    .jump [(.x 4)]))
    (.jump [(.c (.v (.bool false)))]))))) (
 .ite (.x 2)
  (.esc (.ret [(.c (.v (.bool false)))]))
  (.jump []))) (
.bind 0 (
 .bind 1 (
  .op (.bin .eql (.cell 0 0) (.c (.v (.int .i64 1)))) (
  .ite (.x 2)
   (.jump [(.x 2)])
   (.op (.bin .eql (.cell 0 0) (.c (.v (.int .i64 2)))) (
   .ite (.x 3)
    (.jump [(.x 3)])
    (.op (.bin .eql (.cell 0 0) (.c (.v (.int .i64 3)))) (
    .ite (.x 4)
     (.jump [(.x 4)])
     (.op (.bin .eql (.cell 0 0) (.c (.v (.int .i64 4)))) (
     .jump [(.x 5)])))))))) (
 .ite (.x 2)
  (.op (.bin .eql (.x 1) (.c (.v (.int .i64 0)))) (
  .esc (.ret [(.x 3)])))
  (.op (.bin .eql (.cell 0 0) (.c (.v (.int .i64 5)))) (
  .ite (.x 3)
   (.op (.bin .eql (.x 1) (.c (.v (.int .i64 2)))) (
   .esc (.ret [(.x 4)])))
   (.op (.bin .eql (.cell 0 0) (.c (.v (.int .i64 6)))) (
   .ite (.x 4)
    (.op (.bin .geq (.x 1) (.c (.v (.int .i64 2)))) (
    .esc (.ret [(.x 5)])))
    (.op (.bin .eql (.cell 0 0) (.c (.v (.int .i64 7)))) (
    .ite (.x 5)
     (.op (.call F.spec_l1Low [(.cell 0 2)] false) (
     .esc (.ret [(.x 6)])))
     (.op (.bin .eql (.cell 0 0) (.c (.v (.int .i64 8)))) (
     .ite (.x 6)
      (.op (.bin .eql (.x 1) (.c (.v (.int .i64 1)))) (
      .esc (.ret [(.x 7)])))
      (.bind 1 (
       .op (.bin .eql (.cell 0 0) (.c (.v (.int .i64 9)))) (
       .ite (.x 7)
        (.jump [(.x 7)])
        (.op (.bin .eql (.cell 0 0) (.c (.v (.int .i64 10)))) (
        .ite (.x 8)
         (.jump [(.x 8)])
         (.op (.bin .eql (.cell 0 0) (.c (.v (.int .i64 11)))) (
         .jump [(.x 9)])))))) (
      .ite (.x 7)
       (.bind 1 (
        .op (.bin .eql (.x 1) (.c (.v (.int .i64 0)))) (
        .ite (.x 8)
         (.op (.bin .geq (.cell 0 1) (.c (.v (.int .i64 0)))) (
         .jump [(.x 9)]))
         (.jump [(.c (.v (.bool false)))]))) (
       .esc (.ret [(.x 8)])))
       (.jump []))))))))))))) (
.ret [(.c (.v (.bool false)))]))))
def T.spec_l4Has : T :=
.bind 0 (
 .loop [(.c (.v (.int .i64 0)))] (
  .op (.lenL (.x 0)) (
  .op (.bin .lss (.x 2) (.x 3)) (
  .ite (.x 4)
   (.op (.elem 1 (.x 0) (.x 2)) (
   .chk (.lt (.x 5) 0) (
   .op (.bin .eql (.cell 5 0) (.x 1)) (
   .ite (.x 6)
    (.esc (.esc (.ret [(.c (.v (.bool true)))])))
    (.op (.bin .add (.x 2) (.c (.v (.int .i64 1)))) (
    .jump [(.x 7)]))))))
   (.esc (.jump [])))))) (
.ret [(.c (.v (.bool false)))])
def T.impl_tyHeadOk : T :=
.chk (.cells (.x 0) 4) (
.op (.lenL (.cell 0 3)) (
.op (.bin .eql (.x 1) (.c (.v (.int .i64 0)))) (
.op (.bin .eql (.cell 0 2) (.c (.v (.string ⟨#[]⟩)))) (
.op (.bin .eql (.cell 0 1) (.c (.v (.int .i64 0)))) (
.bind 3 (
 .bind 1 (
  .op (.bin .eql (.cell 0 0) (.c (.v (.int .i64 1)))) (
  .ite (.x 5)
   (.jump [(.x 5)])
   (.op (.bin .eql (.cell 0 0) (.c (.v (.int .i64 2)))) (
   .ite (.x 6)
    (.jump [(.x 6)])
    (.op (.bin .eql (.cell 0 0) (.c (.v (.int .i64 3)))) (
    .ite (.x 7)
     (.jump [(.x 7)])
     (.op (.bin .eql (.cell 0 0) (.c (.v (.int .i64 4)))) (
     .jump [(.x 8)])))))))) (
 .ite (.x 5)
  (.jump [(.x 2), (.x 3), (.x 4)])
  (.op (.bin .eql (.cell 0 0) (.c (.v (.int .i64 5)))) (
  .ite (.x 6)
   (.op (.lenL (.cell 0 3)) (
   .op (.bin .eql (.x 7) (.c (.v (.int .i64 2)))) (
   .jump [(.x 8), (.x 3), (.x 4)])))
   (.op (.bin .eql (.cell 0 0) (.c (.v (.int .i64 6)))) (
   .ite (.x 7)
    (.op (.lenL (.cell 0 3)) (
    .op (.bin .geq (.x 8) (.c (.v (.int .i64 2)))) (
    .jump [(.x 9), (.x 3), (.x 4)])))
    (.op (.bin .eql (.cell 0 0) (.c (.v (.int .i64 7)))) (
    .ite (.x 8)
     (.op (.call F.impl_lowOk [(.cell 0 2)] false) (
     .jump [(.c (.v (.bool true))), (.x 9), (.x 4)]))
     (.op (.bin .eql (.cell 0 0) (.c (.v (.int .i64 8)))) (
     .ite (.x 9)
      (.op (.lenL (.cell 0 3)) (
      .op (.bin .eql (.x 10) (.c (.v (.int .i64 1)))) (
      .jump [(.x 11), (.x 3), (.x 4)])))
      (.bind 1 (
       .op (.bin .eql (.cell 0 0) (.c (.v (.int .i64 9)))) (
       .ite (.x 10)
        (.jump [(.x 10)])
        (.op (.bin .eql (.cell 0 0) (.c (.v (.int .i64 10)))) (
        .ite (.x 11)
         (.jump [(.x 11)])
         (.op (.bin .eql (.cell 0 0) (.c (.v (.int .i64 11)))) (
         .jump [(.x 12)])))))) (
      .ite (.x 10)
       (.op (.bin .geq (.cell 0 1) (.c (.v (.int .i64 0)))) (
       .jump [(.x 2), (.x 3), (.x 11)]))
       (.esc (.ret [(.c (.v (.bool false)))])))))))))))))) (
.bind 1 (
 .ite (.x 5)
  (.ite (.x 6)
   (.jump [(.x 7)])
   (.jump [(.c (.v (.bool false)))]))
  (.jump [(.c (.v (.bool false)))])) (
.ret [(.x 8)])))))))
def T.slices_ContainsFunc__impl_Ty_impl_Ty : T :=
.op (.call F.slices_IndexFunc__impl_Ty_impl_Ty [(.x 0), (.x 1)] false) (
.op (.bin .geq (.x 2) (.c (.v (.int .i64 0)))) (
.ret [(.x 3)]))
def T.impl_TyOk_1 : T :=
.chk (.cells (.x 0) 4) (
.chk (.cells (.x 0) 4) (
.op (.call F.impl_TyOk [(.x 0)] false) (
.op (.un .not (.x 1)) (
.ret [(.x 2)]))))
def T.slices_Contains__int_int : T :=
.op (.call F.slices_Index__int_int [(.x 0), (.x 1)] false) (
.op (.bin .geq (.x 2) (.c (.v (.int .i64 0)))) (
.ret [(.x 3)]))
def T.laws_szArm : T :=
.chk (.cells (.x 0) 12) (
.op (.call F.laws_szPat [(.agg [(.cell 0 0), (.cell 0 1), (.cell 0 2), (.cell 0 3), (.cell 0 4)]), (.x 1)] false) (
.op (.bin .lss (.x 2) (.c (.v (.int .i64 0)))) (
.ite (.x 3)
 (.ret [(.c (.v (.int .i64 (-1))))])
 (.op (.call F.laws_szExp [(.agg [(.cell 0 5), (.cell 0 6), (.cell 0 7), (.cell 0 8), (.cell 0 9), (.cell 0 10), (.cell 0 11)]), (.x 2)] false) (
 .op (.bin .lss (.x 4) (.c (.v (.int .i64 0)))) (
 .ite (.x 5)
  (.ret [(.c (.v (.int .i64 (-1))))])
  (.ret [(.x 4)])))))))
def T.spec_l2Node : T :=
.chk (.cells (.x 0) 7) (
.op (.lenL (.cell 0 5)) (
.bind 0 (
 .op (.bin .eql (.cell 0 0) (.c (.v (.int .i64 1)))) (
 .ite (.x 2)
  (.bind 1 (
   .chk (.cells (.x 0) 7) (
   .op (.call F.spec_l2Plain [(.x 0), (.c (.v (.string ⟨#[117]⟩)))] false) (
   .ite (.x 3)
    (.op (.bin .geq (.cell 0 2) (.c (.v (.int .i64 0)))) (
    .ite (.x 4)
     (.op (.bin .eql (.x 1) (.c (.v (.int .i64 0)))) (
     .jump [(.x 5)]))
     (.jump [(.c (.v (.bool false)))])))
    (.jump [(.c (.v (.bool false)))])))) (
  .esc (.ret [(.x 3)])))
  (.op (.bin .eql (.cell 0 0) (.c (.v (.int .i64 2)))) (
  .ite (.x 3)
   (.bind 1 (
    .chk (.cells (.x 0) 7) (
    .op (.call F.spec_l2Plain [(.x 0), (.c (.v (.string ⟨#[116]⟩)))] false) (
    .ite (.x 4)
     (.op (.call F.spec_l1Chars [(.cell 0 3)] false) (
     .ite (.x 5)
      (.op (.bin .eql (.x 1) (.c (.v (.int .i64 0)))) (
      .jump [(.x 6)]))
      (.jump [(.c (.v (.bool false)))])))
     (.jump [(.c (.v (.bool false)))])))) (
   .esc (.ret [(.x 4)])))
   (.op (.bin .eql (.cell 0 0) (.c (.v (.int .i64 3)))) (
   .ite (.x 4)
    (.bind 1 (
     .chk (.cells (.x 0) 7) (
     .op (.call F.spec_l2Plain [(.x 0), (.c (.v (.string ⟨#[117]⟩)))] false) (
     .ite (.x 5)
      (.op (.call F.spec_l1In [(.cell 0 2), (.c (.v (.int .i64 0))), (.c (.v (.int .i64 1)))] false) (
      .ite (.x 6)
       (.op (.bin .eql (.x 1) (.c (.v (.int .i64 0)))) (
       .jump [(.x 7)]))
       (.jump [(.c (.v (.bool false)))])))
      (.jump [(.c (.v (.bool false)))])))) (
    .esc (.ret [(.x 5)])))
    (.op (.bin .eql (.cell 0 0) (.c (.v (.int .i64 4)))) (
    .ite (.x 5)
     (.bind 1 (
      .chk (.cells (.x 0) 7) (
      .op (.call F.spec_l2Plain [(.x 0), (.c (.v (.string ⟨#[]⟩)))] false) (
      .ite (.x 6)
       (.op (.bin .eql (.x 1) (.c (.v (.int .i64 0)))) (
       .jump [(.x 7)]))
       (.jump [(.c (.v (.bool false)))])))) (
     .esc (.ret [(.x 6)])))
     (.op (.bin .eql (.cell 0 0) (.c (.v (.int .i64 5)))) (
     .ite (.x 6)
      (.bind 1 (
       .chk (.cells (.x 0) 7) (
       .op (.call F.spec_l2Plain [(.x 0), (.c (.v (.string ⟨#[110]⟩)))] false) (
       .ite (.x 7)
        (.op (.call F.spec_l1Low [(.cell 0 1)] false) (
        .ite (.x 8)
         (.op (.bin .eql (.x 1) (.c (.v (.int .i64 0)))) (
         .jump [(.x 9)]))
         (.jump [(.c (.v (.bool false)))])))
        (.jump [(.c (.v (.bool false)))])))) (
      .esc (.ret [(.x 7)])))
      (.op (.bin .eql (.cell 0 0) (.c (.v (.int .i64 6)))) (
      .ite (.x 7)
       (.bind 1 (
        .chk (.cells (.x 0) 7) (
        .op (.call F.spec_l2Plain [(.x 0), (.c (.v (.string ⟨#[110]⟩)))] false) (
        .ite (.x 8)
         (.op (.call F.spec_l1Name [(.cell 0 1), (.c (.v (.bool true)))] false) (
         .ite (.x 9)
          (.op (.bin .leq (.x 1) (.c (.v (.int .i64 1)))) (
          .jump [(.x 10)]))
          (.jump [(.c (.v (.bool false)))])))
         (.jump [(.c (.v (.bool false)))])))) (
       .esc (.ret [(.x 8)])))
       (.op (.bin .eql (.cell 0 0) (.c (.v (.int .i64 7)))) (
       .ite (.x 8)
        (.bind 1 (
         .chk (.cells (.x 0) 7) (
         .op (.call F.spec_l2Plain [(.x 0), (.c (.v (.string ⟨#[]⟩)))] false) (
         .ite (.x 9)
          (.op (.bin .geq (.x 1) (.c (.v (.int .i64 2)))) (
          .jump [(.x 10)]))
          (.jump [(.c (.v (.bool false)))])))) (
        .esc (.ret [(.x 9)])))
        (.op (.bin .eql (.cell 0 0) (.c (.v (.int .i64 8)))) (
        .ite (.x 9)
         (.bind 1 (
          .chk (.cells (.x 0) 7) (
          .op (.call F.spec_l2Plain [(.x 0), (.c (.v (.string ⟨#[110]⟩)))] false) (
          .ite (.x 10)
           (.op (.call F.spec_l1Low [(.cell 0 1)] false) (
           .ite (.x 11)
            (.op (.bin .eql (.x 1) (.c (.v (.int .i64 1)))) (
            .jump [(.x 12)]))
            (.jump [(.c (.v (.bool false)))])))
           (.jump [(.c (.v (.bool false)))])))) (
         .esc (.ret [(.x 10)])))
         (.op (.bin .eql (.cell 0 0) (.c (.v (.int .i64 9)))) (
         .ite (.x 10)
          (.bind 1 (
           .chk (.cells (.x 0) 7) (
           .op (.call F.spec_l2Plain [(.x 0), (.c (.v (.string ⟨#[]⟩)))] false) (
           .ite (.x 11)
            (.op (.bin .eql (.x 1) (.c (.v (.int .i64 2)))) (
            .jump [(.x 12)]))
            (.jump [(.c (.v (.bool false)))])))) (
          .esc (.ret [(.x 11)])))
          (.op (.bin .eql (.cell 0 0) (.c (.v (.int .i64 10)))) (
          .ite (.x 11)
           (.bind 1 (
            .chk (.cells (.x 0) 7) (
            .op (.call F.spec_l2Plain [(.x 0), (.c (.v (.string ⟨#[110]⟩)))] false) (
            .ite (.x 12)
             (.op (.call F.spec_l1Low [(.cell 0 1)] false) (
             .ite (.x 13)
              (.op (.bin .eql (.x 1) (.c (.v (.int .i64 2)))) (
              .jump [(.x 14)]))
              (.jump [(.c (.v (.bool false)))])))
             (.jump [(.c (.v (.bool false)))])))) (
           .esc (.ret [(.x 12)])))
           (.op (.bin .eql (.cell 0 0) (.c (.v (.int .i64 11)))) (
           .ite (.x 12)
            (.bind 1 (
             .chk (.cells (.x 0) 7) (
             .op (.call F.spec_l2Plain [(.x 0), (.c (.v (.string ⟨#[110, 116]⟩)))] false) (
             .ite (.x 13)
              (.op (.call F.spec_l1Low [(.cell 0 1)] false) (
              .ite (.x 14)
               (.op (.call F.spec_l1Low [(.cell 0 3)] false) (
               .ite (.x 15)
                (.op (.bin .eql (.x 1) (.c (.v (.int .i64 2)))) (
                .jump [(.x 16)]))
                (.jump [(.c (.v (.bool false)))])))
               (.jump [(.c (.v (.bool false)))])))
              (.jump [(.c (.v (.bool false)))])))) (
            .esc (.ret [(.x 13)])))
            (.op (.bin .eql (.cell 0 0) (.c (.v (.int .i64 12)))) (
            .ite (.x 13)
             (.bind 1 (
              .chk (.cells (.x 0) 7) (
              .op (.call F.spec_l2Plain [(.x 0), (.c (.v (.string ⟨#[]⟩)))] false) (
              .ite (.x 14)
               (.op (.bin .eql (.x 1) (.c (.v (.int .i64 3)))) (
               .jump [(.x 15)]))
               (.jump [(.c (.v (.bool false)))])))) (
             .esc (.ret [(.x 14)])))
             (.op (.bin .eql (.cell 0 0) (.c (.v (.int .i64 13)))) (
             .ite (.x 14)
              (.bind 1 (
               .chk (.cells (.x 0) 7) (
               .op (.call F.spec_l2Plain [(.x 0), (.c (.v (.string ⟨#[]⟩)))] false) (
               .ite (.x 15)
                (.op (.bin .eql (.x 1) (.c (.v (.int .i64 1)))) (
                .ite (.x 16)
                 (.op (.lenL (.cell 0 6)) (
                 .op (.bin .gtr (.x 17) (.c (.v (.int .i64 0)))) (
                 .jump [(.x 18)])))
                 (.jump [(.c (.v (.bool false)))])))
                (.jump [(.c (.v (.bool false)))])))) (
              .esc (.ret [(.x 15)])))
              (.op (.bin .eql (.cell 0 0) (.c (.v (.int .i64 14)))) (
              .ite (.x 15)
               (.bind 1 (
                .chk (.cells (.x 0) 7) (
                .op (.call F.spec_l2Plain [(.x 0), (.c (.v (.string ⟨#[110]⟩)))] false) (
                .ite (.x 16)
                 (.op (.call F.spec_l2Op [(.cell 0 1)] false) (
                 .ite (.x 17)
                  (.op (.bin .eql (.x 1) (.c (.v (.int .i64 2)))) (
                  .jump [(.x 18)]))
                  (.jump [(.c (.v (.bool false)))])))
                 (.jump [(.c (.v (.bool false)))])))) (
               .esc (.ret [(.x 16)])))
               (.op (.bin .eql (.cell 0 0) (.c (.v (.int .i64 15)))) (
               .ite (.x 16)
                (.bind 1 (
                 .chk (.cells (.x 0) 7) (
                 .op (.call F.spec_l2Plain [(.x 0), (.c (.v (.string ⟨#[110]⟩)))] false) (
                 .ite (.x 17)
                  (.op (.bin .eql (.cell 0 1) (.c (.v (.string ⟨#[114, 101, 97, 100]⟩)))) (
                  .ite (.x 18)
                   (.op (.bin .eql (.x 1) (.c (.v (.int .i64 0)))) (
                   .ite (.x 19)
                    (.jump [(.c (.v (.bool true)))])
                    (.op (.call F.spec_l2Prim [(.cell 0 1)] false) (
                    .ite (.x 20)
                     (.op (.bin .eql (.x 1) (.c (.v (.int .i64 1)))) (
                     .jump [(.x 21)]))
                     (.jump [(.c (.v (.bool false)))])))))
                   (.op (.call F.spec_l2Prim [(.cell 0 1)] false) (
                   .ite (.x 19)
                    (.op (.bin .eql (.x 1) (.c (.v (.int .i64 1)))) (
                    .jump [(.x 20)]))
                    (.jump [(.c (.v (.bool false)))])))))
                  (.jump [(.c (.v (.bool false)))])))) (
                .esc (.ret [(.x 17)])))
                (.jump []))))))))))))))))))))))))))))))) (
.ret [(.c (.v (.bool false)))])))
def T.spec_l2PatOk : T :=
.chk (.cells (.x 0) 5) (
.op (.lenL (.cell 0 4)) (
.op (.bin .geq (.cell 0 3) (.c (.v (.int .i64 0)))) (
.op (.bin .eql (.cell 0 1) (.c (.v (.string ⟨#[]⟩)))) (
.op (.bin .eql (.cell 0 2) (.c (.v (.int .i64 0)))) (
.bind 1 (
 .bind 1 (
  .op (.bin .eql (.cell 0 0) (.c (.v (.int .i64 1)))) (
  .ite (.x 5)
   (.jump [(.x 5)])
   (.op (.bin .eql (.cell 0 0) (.c (.v (.int .i64 5)))) (
   .jump [(.x 6)])))) (
 .ite (.x 5)
  (.ite (.x 2)
   (.ite (.x 3)
    (.ite (.x 4)
     (.op (.bin .eql (.x 1) (.c (.v (.int .i64 0)))) (
     .jump [(.x 6)]))
     (.jump [(.c (.v (.bool false)))]))
    (.jump [(.c (.v (.bool false)))]))
   (.jump [(.c (.v (.bool false)))]))
  (.op (.bin .eql (.cell 0 0) (.c (.v (.int .i64 2)))) (
  .ite (.x 6)
   (.ite (.x 2)
    (.op (.call F.spec_l1Low [(.cell 0 1)] false) (
    .ite (.x 7)
     (.ite (.x 4)
      (.op (.bin .eql (.x 1) (.c (.v (.int .i64 0)))) (
      .jump [(.x 8)]))
      (.jump [(.c (.v (.bool false)))]))
     (.jump [(.c (.v (.bool false)))])))
    (.jump [(.c (.v (.bool false)))]))
   (.op (.bin .eql (.cell 0 0) (.c (.v (.int .i64 3)))) (
   .ite (.x 7)
    (.ite (.x 2)
     (.ite (.x 3)
      (.op (.bin .geq (.cell 0 2) (.c (.v (.int .i64 0)))) (
      .ite (.x 8)
       (.op (.bin .eql (.x 1) (.c (.v (.int .i64 0)))) (
       .jump [(.x 9)]))
       (.jump [(.c (.v (.bool false)))])))
      (.jump [(.c (.v (.bool false)))]))
     (.jump [(.c (.v (.bool false)))]))
    (.op (.bin .eql (.cell 0 0) (.c (.v (.int .i64 4)))) (
    .ite (.x 8)
     (.ite (.x 2)
      (.ite (.x 3)
       (.op (.call F.spec_l1In [(.cell 0 2), (.c (.v (.int .i64 0))), (.c (.v (.int .i64 1)))] false) (
       .ite (.x 9)
        (.op (.bin .eql (.x 1) (.c (.v (.int .i64 0)))) (
        .jump [(.x 10)]))
        (.jump [(.c (.v (.bool false)))])))
       (.jump [(.c (.v (.bool false)))]))
      (.jump [(.c (.v (.bool false)))]))
     (.op (.bin .eql (.cell 0 0) (.c (.v (.int .i64 6)))) (
     .ite (.x 9)
      (.ite (.x 2)
       (.ite (.x 3)
        (.ite (.x 4)
         (.op (.bin .geq (.x 1) (.c (.v (.int .i64 2)))) (
         .jump [(.x 10)]))
         (.jump [(.c (.v (.bool false)))]))
        (.jump [(.c (.v (.bool false)))]))
       (.jump [(.c (.v (.bool false)))]))
      (.op (.bin .eql (.cell 0 0) (.c (.v (.int .i64 7)))) (
      .ite (.x 10)
       (.ite (.x 2)
        (.op (.call F.spec_l1Name [(.cell 0 1), (.c (.v (.bool true)))] false) (
        .ite (.x 11)
         (.ite (.x 4)
          (.op (.bin .leq (.x 1) (.c (.v (.int .i64 1)))) (
          .jump [(.x 12)]))
          (.jump [(.c (.v (.bool false)))]))
         (.jump [(.c (.v (.bool false)))])))
        (.jump [(.c (.v (.bool false)))]))
       (.esc (.ret [(.c (.v (.bool false)))])))))))))))))) (
.bind 1 (
 .loop [(.x 5), (.c (.v (.int .i64 0)))] (
  .bind 0 (
   .bind 1 (
    .op (.bin .lss (.x 7) (.x 1)) (
    .ite (.x 8)
     (.jump [(.x 6)])
     (.jump [(.c (.v (.bool false)))]))) (
   .ite (.x 8)
    (.jump [])
    (.esc (.esc (.jump [(.x 6)]))))) (
  .op (.elem 5 (.cell 0 4) (.x 7)) (
  .chk (.cells (.x 8) 5) (
  .op (.call F.spec_l2PatOk [(.x 8)] false) (
  .op (.bin .add (.x 7) (.c (.v (.int .i64 1)))) (
  .jump [(.x 9), (.x 10)]))))))) (
.ret [(.x 6)])))))))
def T.spec_l19Name : T :=
.op (.call F.spec_l19Bound [(.x 0), (.x 2)] false) (
.bind 1 (
 .op (.call F.spec_l19Bound [(.x 1), (.x 3)] false) (
 .op (.bin .eql (.x 4) (.x 5)) (
 .ite (.x 6)
  (.op (.bin .geq (.x 4) (.c (.v (.int .i64 0)))) (
  .ite (.x 7)
   (.jump [(.c (.v (.bool true)))])
   (.op (.bin .eql (.x 2) (.x 3)) (
   .jump [(.x 8)]))))
  (.jump [(.c (.v (.bool false)))])))) (
.ret [(.x 5)]))
def T.spec_l5With : T :=
.op (.mkl (.v (.string ⟨#[]⟩)) 0 []) (
.op (.app 1 16 (.x 2) (.x 0)) (
.op (.app 1 16 (.x 3) (.x 1)) (
.ret [(.sl (.x 4))])))
def T.spec_l19Pats : T :=
.chk (.cells (.x 0) 5) (
.chk (.cells (.x 1) 5) (
.bind 0 (
 .bind 1 (
  .op (.bin .neq (.cell 0 0) (.cell 1 0)) (
  .ite (.x 4)
   (.jump [(.c (.v (.bool true)))])
   (.op (.bin .neq (.cell 0 2) (.cell 1 2)) (
   .ite (.x 5)
    (.jump [(.c (.v (.bool true)))])
    (.op (.lenL (.cell 0 4)) (
    .op (.lenL (.cell 1 4)) (
    .op (.bin .neq (.x 6) (.x 7)) (
    .ite (.x 8)
     (.jump [(.c (.v (.bool true)))])
     (.op (.bin .neq (.cell 0 0) (.c (.v (.int .i64 2)))) (
     .ite (.x 9)
      (.op (.bin .neq (.cell 0 1) (.cell 1 1)) (
      .jump [(.x 10)]))
      (.jump [(.c (.v (.bool false)))]))))))))))) (
 .ite (.x 4)
  (.esc (.ret [(.x 2), (.x 3), (.c (.v (.bool false)))]))
  (.jump []))) (
.op (.bin .eql (.cell 0 0) (.c (.v (.int .i64 2)))) (
.ite (.x 4)
 (.chk (.one (.cell 0 1)) (
 .op (.mkl (.v (.string ⟨#[]⟩)) 1 [(0, (.cell 0 1))]) (
 .op (.call F.spec_l5With [(.x 2), (.x 5)] false) (
 .chk (.one (.cell 1 1)) (
 .op (.mkl (.v (.string ⟨#[]⟩)) 1 [(0, (.cell 1 1))]) (
 .op (.call F.spec_l5With [(.x 3), (.x 7)] false) (
 .ret [(.x 6), (.x 8), (.c (.v (.bool true)))])))))))
 (.bind 2 (
  .loop [(.x 2), (.x 3), (.c (.v (.int .i64 0)))] (
   .op (.lenL (.cell 0 4)) (
   .op (.bin .lss (.x 7) (.x 8)) (
   .ite (.x 9)
    (.op (.elem 5 (.cell 0 4) (.x 7)) (
    .chk (.cells (.x 10) 5) (
    .op (.elem 5 (.cell 1 4) (.x 7)) (
    .chk (.cells (.x 11) 5) (
    .op (.call F.spec_l19Pats [(.x 10), (.x 11), (.x 5), (.x 6)] false) (
    .chk (.tup (.x 12) 0) (
    .chk (.tup (.x 12) 1) (
    .chk (.tup (.x 12) 2) (
    .op (.un .not (.ext 12 2)) (
    .ite (.x 13)
     (.esc (.esc (.ret [(.x 5), (.x 6), (.c (.v (.bool false)))])))
     (.op (.bin .add (.x 7) (.c (.v (.int .i64 1)))) (
     .jump [(.ext 12 0), (.ext 12 1), (.x 14)]))))))))))))
    (.esc (.jump [(.x 5), (.x 6)])))))) (
 .ret [(.x 5), (.x 6), (.c (.v (.bool true)))]))))))
def T.laws_toArm : T :=
.chk (.cells (.x 0) 12) (
.op (.call F.laws_toPat [(.agg [(.cell 0 0), (.cell 0 1), (.cell 0 2), (.cell 0 3), (.cell 0 4)])] false) (
.chk (.cells (.x 1) 5) (
.op (.call F.laws_toExp [(.agg [(.cell 0 5), (.cell 0 6), (.cell 0 7), (.cell 0 8), (.cell 0 9), (.cell 0 10), (.cell 0 11)])] false) (
.chk (.cells (.x 2) 7) (
.chk (.cells (.agg [(.cell 1 0), (.cell 1 1), (.cell 1 2), (.cell 1 3), (.cell 1 4), (.cell 2 0), (.cell 2 1), (.cell 2 2), (.cell 2 3), (.cell 2 4), (.cell 2 5), (.cell 2 6)]) 12) (
.ret [(.agg [(.cell 1 0), (.cell 1 1), (.cell 1 2), (.cell 1 3), (.cell 1 4), (.cell 2 0), (.cell 2 1), (.cell 2 2), (.cell 2 3), (.cell 2 4), (.cell 2 5), (.cell 2 6)])]))))))
def T.laws_eqArm : T :=
.chk (.cells (.x 0) 12) (
.chk (.cells (.x 1) 12) (
.op (.call F.laws_eqPat [(.agg [(.cell 0 0), (.cell 0 1), (.cell 0 2), (.cell 0 3), (.cell 0 4)]), (.agg [(.cell 1 0), (.cell 1 1), (.cell 1 2), (.cell 1 3), (.cell 1 4)])] false) (
.op (.un .not (.x 2)) (
.ite (.x 3)
 (.ret [(.c (.v (.bool false)))])
 (.op (.call F.laws_eqExp [(.agg [(.cell 0 5), (.cell 0 6), (.cell 0 7), (.cell 0 8), (.cell 0 9), (.cell 0 10), (.cell 0 11)]), (.agg [(.cell 1 5), (.cell 1 6), (.cell 1 7), (.cell 1 8), (.cell 1 9), (.cell 1 10), (.cell 1 11)])] false) (
 .op (.un .not (.x 4)) (
 .ite (.x 5)
  (.ret [(.c (.v (.bool false)))])
  (.ret [(.c (.v (.bool true)))]))))))))
def T.spec_TySize : T :=
.chk (.cells (.x 0) 4) (
.bind 1 (
 .loop [(.c (.v (.int .i64 1))), (.c (.v (.int .i64 0)))] (
  .op (.lenL (.cell 0 3)) (
  .op (.bin .lss (.x 2) (.x 3)) (
  .ite (.x 4)
   (.op (.elem 4 (.cell 0 3) (.x 2)) (
   .chk (.cells (.x 5) 4) (
   .op (.call F.spec_TySize [(.x 5)] false) (
   .op (.bin .add (.x 1) (.x 6)) (
   .op (.bin .add (.x 2) (.c (.v (.int .i64 1)))) (
   .jump [(.x 7), (.x 8)]))))))
   (.esc (.jump [(.x 1)])))))) (
.ret [(.x 1)]))
def T.impl_plain : T :=
.bind 0 (
 .loop [(.c (.v (.int .i64 0)))] (
  .op (.lenS (.x 0)) (
  .op (.bin .lss (.x 1) (.x 2)) (
  .ite (.x 3)
   (.bind 0 (
    .bind 1 (
     .op (.idxS (.x 0) (.x 1)) (
     .op (.conv .i64 (.x 4)) (
     .op (.call F.impl_within [(.x 5), (.c (.v (.int .i64 32))), (.c (.v (.int .i64 126)))] false) (
     .op (.un .not (.x 6)) (
     .ite (.x 7)
      (.op (.idxS (.x 0) (.x 1)) (
      .op (.bin .neq (.x 8) (.c (.v (.int .u8 10)))) (
      .jump [(.x 9)])))
      (.jump [(.c (.v (.bool false)))])))))) (
    .ite (.x 4)
     (.esc (.esc (.esc (.ret [(.c (.v (.bool false)))]))))
     (.jump []))) (
   .op (.bin .add (.x 1) (.c (.v (.int .i64 1)))) (
   .jump [(.x 4)])))
   (.esc (.jump [])))))) (
.ret [(.c (.v (.bool true)))])
theorem T.impl_plain_l : leftF Try.prog CF Try.f114 = some (1, T.impl_plain) := by kernel_rfl
theorem T.impl_plain_con {args : List AV} {res : AV} (hl : args.length = 1) (hn : AV.norefs args = true) (hw : wpT Try.prog (fun _ _ _ => False) (fun a => a = res) T.impl_plain args []) : PCon Try.prog F.impl_plain args res :=
  con_auto Try.func114 T.impl_plain_l hl hn hw
def T.impl_lowOk : T :=
.bind 1 (
 .op (.call F.impl_isName [(.x 0), (.c (.fn F.impl_small []))] false) (
 .ite (.x 1)
  (.op (.call F.impl_isKey [(.x 0)] false) (
  .op (.un .not (.x 2)) (
  .jump [(.x 3)])))
  (.jump [(.c (.v (.bool false)))]))) (
.ret [(.x 1)])
theorem T.impl_lowOk_l : leftF Try.prog CF Try.f115 = some (1, T.impl_lowOk) := by kernel_rfl
theorem T.impl_lowOk_con {args : List AV} {res : AV} (hl : args.length = 1) (hn : AV.norefs args = true) (hw : wpT Try.prog (fun _ _ _ => False) (fun a => a = res) T.impl_lowOk args []) : PCon Try.prog F.impl_lowOk args res :=
  con_auto Try.func115 T.impl_lowOk_l hl hn hw
def T.impl_upOk : T :=
.op (.call F.impl_isName [(.x 0), (.c (.fn F.impl_great []))] false) (
.ret [(.x 1)])
theorem T.impl_upOk_l : leftF Try.prog CF Try.f116 = some (1, T.impl_upOk) := by kernel_rfl
theorem T.impl_upOk_con {args : List AV} {res : AV} (hl : args.length = 1) (hn : AV.norefs args = true) (hw : wpT Try.prog (fun _ _ _ => False) (fun a => a = res) T.impl_upOk args []) : PCon Try.prog F.impl_upOk args res :=
  con_auto Try.func116 T.impl_upOk_l hl hn hw
def T.impl_binarySign : T :=
.chk (.one (.c (.v (.string ⟨#[43]⟩)))) (
.chk (.one (.c (.v (.string ⟨#[45]⟩)))) (
.chk (.one (.c (.v (.string ⟨#[42]⟩)))) (
.chk (.one (.c (.v (.string ⟨#[94]⟩)))) (
.chk (.one (.c (.v (.string ⟨#[61]⟩)))) (
.chk (.one (.c (.v (.string ⟨#[60]⟩)))) (
.chk (.one (.c (.v (.string ⟨#[58, 61]⟩)))) (
.op (.mkl (.v (.string ⟨#[]⟩)) 7 [(0, (.c (.v (.string ⟨#[43]⟩)))), (1, (.c (.v (.string ⟨#[45]⟩)))), (2, (.c (.v (.string ⟨#[42]⟩)))), (3, (.c (.v (.string ⟨#[94]⟩)))), (4, (.c (.v (.string ⟨#[61]⟩)))), (5, (.c (.v (.string ⟨#[60]⟩)))), (6, (.c (.v (.string ⟨#[58, 61]⟩))))]) (
.op (.call F.slices_Contains__string_string [(.sl (.x 1)), (.x 0)] true) (
.ret [(.x 2)])))))))))
theorem T.impl_binarySign_l : leftF Try.prog CF Try.f117 = some (1, T.impl_binarySign) := by kernel_rfl
theorem T.impl_binarySign_con {args : List AV} {res : AV} (hl : args.length = 1) (hn : AV.norefs args = true) (hw : wpT Try.prog (fun _ _ _ => False) (fun a => a = res) T.impl_binarySign args []) : PCon Try.prog F.impl_binarySign args res :=
  con_auto Try.func117 T.impl_binarySign_l hl hn hw
def T.impl_primArity : T :=
.bind 0 (
 .op (.bin .eql (.x 0) (.c (.v (.string ⟨#[114, 101, 97, 100]⟩)))) (
 .ite (.x 1)
  (.esc (.ret [(.c (.v (.int .i64 0)))]))
  (.bind 1 (
   .op (.bin .eql (.x 0) (.c (.v (.string ⟨#[112, 114, 105, 110, 116]⟩)))) (
   .ite (.x 2)
    (.jump [(.x 2)])
    (.op (.bin .eql (.x 0) (.c (.v (.string ⟨#[101, 120, 105, 116]⟩)))) (
    .ite (.x 3)
     (.jump [(.x 3)])
     (.op (.bin .eql (.x 0) (.c (.v (.string ⟨#[115, 105, 122, 101]⟩)))) (
     .ite (.x 4)
      (.jump [(.x 4)])
      (.op (.bin .eql (.x 0) (.c (.v (.string ⟨#[114, 101, 102]⟩)))) (
      .ite (.x 5)
       (.jump [(.x 5)])
       (.op (.bin .eql (.x 0) (.c (.v (.string ⟨#[33]⟩)))) (
       .jump [(.x 6)])))))))))) (
  .ite (.x 2)
   (.esc (.ret [(.c (.v (.int .i64 1)))]))
   (.jump []))))) (
.ret [(.c (.v (.int .i64 (-1))))])
theorem T.impl_primArity_l : leftF Try.prog CF Try.f118 = some (1, T.impl_primArity) := by kernel_rfl
theorem T.impl_primArity_con {args : List AV} {res : AV} (hl : args.length = 1) (hn : AV.norefs args = true) (hw : wpT Try.prog (fun _ _ _ => False) (fun a => a = res) T.impl_primArity args []) : PCon Try.prog F.impl_primArity args res :=
  con_auto Try.func118 T.impl_primArity_l hl hn hw
def T.slices_ContainsFunc__impl_Pat_impl_Pat : T :=
.op (.call F.slices_IndexFunc__impl_Pat_impl_Pat [(.x 0), (.x 1)] false) (
.op (.bin .geq (.x 2) (.c (.v (.int .i64 0)))) (
.ret [(.x 3)]))
theorem T.slices_ContainsFunc__impl_Pat_impl_Pat_l : leftF Try.prog CF Try.f119 = some (2, T.slices_ContainsFunc__impl_Pat_impl_Pat) := by kernel_rfl
theorem T.slices_ContainsFunc__impl_Pat_impl_Pat_con {args : List AV} {res : AV} (hl : args.length = 2) (hn : AV.norefs args = true) (hw : wpT Try.prog (fun _ _ _ => False) (fun a => a = res) T.slices_ContainsFunc__impl_Pat_impl_Pat args []) : PCon Try.prog F.slices_ContainsFunc__impl_Pat_impl_Pat args res :=
  con_auto Try.func119 T.slices_ContainsFunc__impl_Pat_impl_Pat_l hl hn hw
def T.impl_patOk_1 : T :=
.chk (.cells (.x 0) 5) (
.chk (.cells (.x 0) 5) (
.op (.call F.impl_patOk [(.x 0)] false) (
.op (.un .not (.x 1)) (
.ret [(.x 2)]))))
theorem T.impl_patOk_1_l : leftF Try.prog CF Try.f120 = some (1, T.impl_patOk_1) := by kernel_rfl
theorem T.impl_patOk_1_con {args : List AV} {res : AV} (hl : args.length = 1) (hn : AV.norefs args = true) (hw : wpT Try.prog (fun _ _ _ => False) (fun a => a = res) T.impl_patOk_1 args []) : PCon Try.prog F.impl_patOk_1 args res :=
  con_auto Try.func120 T.impl_patOk_1_l hl hn hw
def T.slices_Grow_impl_names_string : T :=
.op (.bin .lss (.x 0) (.c (.v (.int .i64 0)))) (
.ite (.x 1)
 (.chk (.no) (
 .chk (.no) (
 .op (.bin .sub (.c (.v (.int .i64 0))) (.c (.v (.int .i64 0)))) (
 .op (.bin .sub (.x 0) (.x 2)) (
 .op (.bin .gtr (.x 3) (.c (.v (.int .i64 0)))) (
 .ite (.x 4)
  (.op (.rep 16 (.v (.string ⟨#[]⟩)) (.x 3) (.x 3)) (
  .chk (.ne (.x 5)) (
  .ret [(.c (.sl []))])))
  (.chk (.no) (
  .ret []))))))))
 (.op (.bin .sub (.c (.v (.int .i64 0))) (.c (.v (.int .i64 0)))) (
 .op (.bin .sub (.x 0) (.x 2)) (
 .op (.bin .gtr (.x 3) (.c (.v (.int .i64 0)))) (
 .ite (.x 4)
  (.op (.rep 16 (.v (.string ⟨#[]⟩)) (.x 3) (.x 3)) (
  .chk (.ne (.x 5)) (
  .ret [(.c (.sl []))])))
  (.chk (.no) (
  .ret [])))))))
theorem T.slices_Grow_impl_names_string_l : leftS Try.prog CFC G.slices_Grow_impl_names_string Try.f121 = some T.slices_Grow_impl_names_string := by kernel_rfl
theorem T.slices_Grow_impl_names_string_scon {ins outs : List AV} (hl : ins.length = 1) (ho : outs.length = 1) (hn : AV.norefs ins = true) (hw : wpT Try.prog (fun _ _ _ => False) (fun a => a = packR outs) T.slices_Grow_impl_names_string ins []) : SCon Try.prog F.slices_Grow_impl_names_string G.slices_Grow_impl_names_string ins outs :=
  scon_auto Try.func121 T.slices_Grow_impl_names_string_l hl hn ho hw
def T.slices_Grow_impl_names_string_s1 : T :=
.op (.bin .lss (.x 0) (.c (.v (.int .i64 0)))) (
.ite (.x 1)
 (.chk (.no) (
 .chk (.no) (
 .op (.bin .sub (.c (.v (.int .i64 0))) (.c (.v (.int .i64 0)))) (
 .op (.bin .sub (.x 0) (.x 2)) (
 .op (.bin .gtr (.x 3) (.c (.v (.int .i64 0)))) (
 .ite (.x 4)
  (.op (.rep 16 (.v (.string ⟨#[]⟩)) (.x 3) (.x 3)) (
  .chk (.ne (.x 5)) (
  .chk (.no) (
  .ret []))))
  (.ret [])))))))
 (.op (.bin .sub (.c (.v (.int .i64 0))) (.c (.v (.int .i64 0)))) (
 .op (.bin .sub (.x 0) (.x 2)) (
 .op (.bin .gtr (.x 3) (.c (.v (.int .i64 0)))) (
 .ite (.x 4)
  (.op (.rep 16 (.v (.string ⟨#[]⟩)) (.x 3) (.x 3)) (
  .chk (.ne (.x 5)) (
  .chk (.no) (
  .ret []))))
  (.ret []))))))
theorem T.slices_Grow_impl_names_string_s1_l : leftS Try.prog CFC G.slices_Grow_impl_names_string_s1 Try.f121 = some T.slices_Grow_impl_names_string_s1 := by kernel_rfl
theorem T.slices_Grow_impl_names_string_s1_scon {ins outs : List AV} (hl : ins.length = 1) (ho : outs.length = 0) (hn : AV.norefs ins = true) (hw : wpT Try.prog (fun _ _ _ => False) (fun a => a = packR outs) T.slices_Grow_impl_names_string_s1 ins []) : SCon Try.prog F.slices_Grow_impl_names_string G.slices_Grow_impl_names_string_s1 ins outs :=
  scon_auto Try.func121 T.slices_Grow_impl_names_string_s1_l hl hn ho hw
def T.slices_EqualFunc__impl_Pat__impl_Pat_impl_Pat_impl_Pat : T :=
.op (.lenL (.x 0)) (
.op (.lenL (.x 1)) (
.op (.bin .neq (.x 3) (.x 4)) (
.ite (.x 5)
 (.ret [(.c (.v (.bool false)))])
 (.bind 0 (
  .op (.lenL (.x 0)) (
  .loop [(.c (.v (.int .i64 0)))] (
   .op (.bin .lss (.x 7) (.x 6)) (
   .ite (.x 8)
    (.op (.elem 5 (.x 0) (.x 7)) (
    .chk (.cells (.x 9) 5) (
    .chk (.cells (.x 9) 5) (
    .op (.elem 5 (.x 1) (.x 7)) (
    .chk (.cells (.x 10) 5) (
    .chk (.cells (.x 10) 5) (
    .chk (.cells (.x 9) 5) (
    .chk (.cells (.x 10) 5) (
    .op (.callv (.x 2) [(.x 9), (.x 10)] false) (
    .op (.un .not (.x 11)) (
    .ite (.x 12)
     (.esc (.esc (.ret [(.c (.v (.bool false)))])))
     (.op (.bin .add (.x 7) (.c (.v (.int .i64 1)))) (
     .jump [(.x 13)])))))))))))))
    (.esc (.jump [])))))) (
 .ret [(.c (.v (.bool true)))])))))
theorem T.slices_EqualFunc__impl_Pat__impl_Pat_impl_Pat_impl_Pat_l : leftF Try.prog CF Try.f122 = some (3, T.slices_EqualFunc__impl_Pat__impl_Pat_impl_Pat_impl_Pat) := by kernel_rfl
theorem T.slices_EqualFunc__impl_Pat__impl_Pat_impl_Pat_impl_Pat_con {args : List AV} {res : AV} (hl : args.length = 3) (hn : AV.norefs args = true) (hw : wpT Try.prog (fun _ _ _ => False) (fun a => a = res) T.slices_EqualFunc__impl_Pat__impl_Pat_impl_Pat_impl_Pat args []) : PCon Try.prog F.slices_EqualFunc__impl_Pat__impl_Pat_impl_Pat_impl_Pat args res :=
  con_auto Try.func122 T.slices_EqualFunc__impl_Pat__impl_Pat_impl_Pat_impl_Pat_l hl hn hw
def T.spec_l1Low : T :=
.bind 1 (
 .op (.call F.spec_l1Name [(.x 0), (.c (.v (.bool false)))] false) (
 .ite (.x 1)
  (.op (.call F.spec_l1Key [(.x 0)] false) (
  .op (.un .not (.x 2)) (
  .jump [(.x 3)])))
  (.jump [(.c (.v (.bool false)))]))) (
.ret [(.x 1)])
def T.slices_IndexFunc__impl_Ty_impl_Ty : T :=
.bind 0 (
 .op (.lenL (.x 0)) (
 .loop [(.c (.v (.int .i64 0)))] (
  .op (.bin .lss (.x 3) (.x 2)) (
  .ite (.x 4)
   (.op (.elem 4 (.x 0) (.x 3)) (
   .chk (.cells (.x 5) 4) (
   .op (.callv (.x 1) [(.x 5)] false) (
   .ite (.x 6)
    (.esc (.esc (.ret [(.x 3)])))
    (.op (.bin .add (.x 3) (.c (.v (.int .i64 1)))) (
    .jump [(.x 7)]))))))
   (.esc (.jump [])))))) (
.ret [(.c (.v (.int .i64 (-1))))])
def T.slices_Index__int_int : T :=
.bind 0 (
 .op (.lenL (.x 0)) (
 .loop [(.c (.v (.int .i64 0)))] (
  .op (.bin .lss (.x 3) (.x 2)) (
  .ite (.x 4)
   (.op (.elem 1 (.x 0) (.x 3)) (
   .chk (.lt (.x 5) 0) (
   .op (.bin .eql (.x 1) (.cell 5 0)) (
   .ite (.x 6)
    (.esc (.esc (.ret [(.x 3)])))
    (.op (.bin .add (.x 3) (.c (.v (.int .i64 1)))) (
    .jump [(.x 7)]))))))
   (.esc (.jump [])))))) (
.ret [(.c (.v (.int .i64 (-1))))])
def T.laws_szPat : T :=
.chk (.cells (.x 0) 5) (
.op (.lenS (.cell 0 1)) (
.op (.bin .sub (.x 1) (.x 2)) (
.op (.bin .lss (.x 3) (.c (.v (.int .i64 0)))) (
.ite (.x 4)
 (.ret [(.c (.v (.int .i64 (-1))))])
 (.op (.call F.laws_szPatS [(.cell 0 4), (.x 3)] false) (
 .op (.bin .lss (.x 5) (.c (.v (.int .i64 0)))) (
 .ite (.x 6)
  (.ret [(.c (.v (.int .i64 (-1))))])
  (.ret [(.x 5)]))))))))
def T.spec_l2Plain : T :=
.chk (.cells (.x 0) 7) (
.bind 3 (
 .loop [(.c (.v (.bool false))), (.c (.v (.bool false))), (.c (.v (.bool false))), (.c (.v (.int .i64 0)))] (
  .op (.lenS (.x 1)) (
  .op (.bin .lss (.x 5) (.x 6)) (
  .ite (.x 7)
   (.bind 3 (
    .bind 1 (
     .ite (.x 2)
      (.jump [(.c (.v (.bool true)))])
      (.op (.idxS (.x 1) (.x 5)) (
      .op (.bin .eql (.x 8) (.c (.v (.int .u8 110)))) (
      .jump [(.x 9)])))) (
    .bind 1 (
     .ite (.x 3)
      (.jump [(.c (.v (.bool true)))])
      (.op (.idxS (.x 1) (.x 5)) (
      .op (.bin .eql (.x 9) (.c (.v (.int .u8 117)))) (
      .jump [(.x 10)])))) (
    .ite (.x 4)
     (.jump [(.x 8), (.x 9), (.c (.v (.bool true)))])
     (.op (.idxS (.x 1) (.x 5)) (
     .op (.bin .eql (.x 10) (.c (.v (.int .u8 116)))) (
     .jump [(.x 8), (.x 9), (.x 11)])))))) (
   .op (.bin .add (.x 5) (.c (.v (.int .i64 1)))) (
   .jump [(.x 8), (.x 9), (.x 10), (.x 11)])))
   (.esc (.jump [(.x 2), (.x 3), (.x 4)])))))) (
.bind 1 (
 .op (.bin .geq (.cell 0 4) (.c (.v (.int .i64 0)))) (
 .ite (.x 5)
  (.ite (.x 2)
   (.ite (.x 3)
    (.ite (.x 4)
     (.op (.bin .eql (.cell 0 0) (.c (.v (.int .i64 13)))) (
     .ite (.x 6)
      (.jump [(.c (.v (.bool true)))])
      (.op (.lenL (.cell 0 6)) (
      .op (.bin .eql (.x 7) (.c (.v (.int .i64 0)))) (
      .jump [(.x 8)])))))
     (.op (.bin .eql (.cell 0 3) (.c (.v (.string ⟨#[]⟩)))) (
     .ite (.x 6)
      (.op (.bin .eql (.cell 0 0) (.c (.v (.int .i64 13)))) (
      .ite (.x 7)
       (.jump [(.c (.v (.bool true)))])
       (.op (.lenL (.cell 0 6)) (
       .op (.bin .eql (.x 8) (.c (.v (.int .i64 0)))) (
       .jump [(.x 9)])))))
      (.jump [(.c (.v (.bool false)))]))))
    (.op (.bin .eql (.cell 0 2) (.c (.v (.int .i64 0)))) (
    .ite (.x 6)
     (.ite (.x 4)
      (.op (.bin .eql (.cell 0 0) (.c (.v (.int .i64 13)))) (
      .ite (.x 7)
       (.jump [(.c (.v (.bool true)))])
       (.op (.lenL (.cell 0 6)) (
       .op (.bin .eql (.x 8) (.c (.v (.int .i64 0)))) (
       .jump [(.x 9)])))))
      (.op (.bin .eql (.cell 0 3) (.c (.v (.string ⟨#[]⟩)))) (
      .ite (.x 7)
       (.op (.bin .eql (.cell 0 0) (.c (.v (.int .i64 13)))) (
       .ite (.x 8)
        (.jump [(.c (.v (.bool true)))])
        (.op (.lenL (.cell 0 6)) (
        .op (.bin .eql (.x 9) (.c (.v (.int .i64 0)))) (
        .jump [(.x 10)])))))
       (.jump [(.c (.v (.bool false)))]))))
     (.jump [(.c (.v (.bool false)))]))))
   (.op (.bin .eql (.cell 0 1) (.c (.v (.string ⟨#[]⟩)))) (
   .ite (.x 6)
    (.ite (.x 3)
     (.ite (.x 4)
      (.op (.bin .eql (.cell 0 0) (.c (.v (.int .i64 13)))) (
      .ite (.x 7)
       (.jump [(.c (.v (.bool true)))])
       (.op (.lenL (.cell 0 6)) (
       .op (.bin .eql (.x 8) (.c (.v (.int .i64 0)))) (
       .jump [(.x 9)])))))
      (.op (.bin .eql (.cell 0 3) (.c (.v (.string ⟨#[]⟩)))) (
      .ite (.x 7)
       (.op (.bin .eql (.cell 0 0) (.c (.v (.int .i64 13)))) (
       .ite (.x 8)
        (.jump [(.c (.v (.bool true)))])
        (.op (.lenL (.cell 0 6)) (
        .op (.bin .eql (.x 9) (.c (.v (.int .i64 0)))) (
        .jump [(.x 10)])))))
       (.jump [(.c (.v (.bool false)))]))))
     (.op (.bin .eql (.cell 0 2) (.c (.v (.int .i64 0)))) (
     .ite (.x 7)
      (.ite (.x 4)
       (.op (.bin .eql (.cell 0 0) (.c (.v (.int .i64 13)))) (
       .ite (.x 8)
        (.jump [(.c (.v (.bool true)))])
        (.op (.lenL (.cell 0 6)) (
        .op (.bin .eql (.x 9) (.c (.v (.int .i64 0)))) (
        .jump [(.x 10)])))))
       (.op (.bin .eql (.cell 0 3) (.c (.v (.string ⟨#[]⟩)))) (
       .ite (.x 8)
        (.op (.bin .eql (.cell 0 0) (.c (.v (.int .i64 13)))) (
        .ite (.x 9)
         (.jump [(.c (.v (.bool true)))])
         (.op (.lenL (.cell 0 6)) (
         .op (.bin .eql (.x 10) (.c (.v (.int .i64 0)))) (
         .jump [(.x 11)])))))
        (.jump [(.c (.v (.bool false)))]))))
      (.jump [(.c (.v (.bool false)))]))))
    (.jump [(.c (.v (.bool false)))]))))
  (.jump [(.c (.v (.bool false)))]))) (
.ret [(.x 5)])))
def T.spec_l1Chars : T :=
.bind 0 (
 .loop [(.c (.v (.int .i64 0)))] (
  .op (.lenS (.x 0)) (
  .op (.bin .lss (.x 1) (.x 2)) (
  .ite (.x 3)
   (.bind 0 (
    .bind 1 (
     .op (.idxS (.x 0) (.x 1)) (
     .op (.bin .neq (.x 4) (.c (.v (.int .u8 10)))) (
     .ite (.x 5)
      (.op (.idxS (.x 0) (.x 1)) (
      .op (.conv .i64 (.x 6)) (
      .op (.call F.spec_l1In [(.x 7), (.c (.v (.int .i64 32))), (.c (.v (.int .i64 126)))] false) (
      .op (.un .not (.x 8)) (
      .jump [(.x 9)])))))
      (.jump [(.c (.v (.bool false)))])))) (
    .ite (.x 4)
     (.esc (.esc (.esc (.ret [(.c (.v (.bool false)))]))))
     (.jump []))) (
   .op (.bin .add (.x 1) (.c (.v (.int .i64 1)))) (
   .jump [(.x 4)])))
   (.esc (.jump [])))))) (
.ret [(.c (.v (.bool true)))])
def T.spec_l1Name : T :=
.bind 0 (
 .bind 1 (
  .op (.lenS (.x 0)) (
  .op (.call F.spec_l1In [(.x 2), (.c (.v (.int .i64 1))), (.c (.v (.int .i64 12)))] false) (
  .op (.un .not (.x 3)) (
  .ite (.x 4)
   (.jump [(.c (.v (.bool true)))])
   (.op (.idxS (.x 0) (.c (.v (.int .i64 0)))) (
   .op (.conv .i64 (.x 5)) (
   .op (.call F.spec_l1Upper [(.x 6)] false) (
   .op (.beq true (.x 1) (.x 7)) (
   .ite (.x 8)
    (.jump [(.c (.v (.bool true)))])
    (.op (.un .not (.x 1)) (
    .ite (.x 9)
     (.op (.idxS (.x 0) (.c (.v (.int .i64 0)))) (
     .op (.conv .i64 (.x 10)) (
     .op (.call F.spec_l1Lower [(.x 11)] false) (
     .op (.un .not (.x 12)) (
     .jump [(.x 13)])))))
     (.jump [(.c (.v (.bool false)))])))))))))))) (
 .ite (.x 2)
  (.esc (.ret [(.c (.v (.bool false)))]))
  (.jump []))) (
.bind 0 (
 .loop [(.c (.v (.int .i64 0)))] (
  .op (.lenS (.x 0)) (
  .op (.bin .lss (.x 2) (.x 3)) (
  .ite (.x 4)
   (.op (.idxS (.x 0) (.x 2)) (
   .op (.conv .i64 (.x 5)) (
   .op (.call F.spec_l1NameByte [(.x 6)] false) (
   .op (.un .not (.x 7)) (
   .ite (.x 8)
    (.esc (.esc (.ret [(.c (.v (.bool false)))])))
    (.op (.bin .add (.x 2) (.c (.v (.int .i64 1)))) (
    .jump [(.x 9)])))))))
   (.esc (.jump [])))))) (
.ret [(.c (.v (.bool true)))]))
def T.spec_l2Op : T :=
.bind 1 (
 .op (.bin .eql (.x 0) (.c (.v (.string ⟨#[43]⟩)))) (
 .ite (.x 1)
  (.jump [(.c (.v (.bool true)))])
  (.op (.bin .eql (.x 0) (.c (.v (.string ⟨#[45]⟩)))) (
  .ite (.x 2)
   (.jump [(.c (.v (.bool true)))])
   (.op (.bin .eql (.x 0) (.c (.v (.string ⟨#[42]⟩)))) (
   .ite (.x 3)
    (.jump [(.c (.v (.bool true)))])
    (.op (.bin .eql (.x 0) (.c (.v (.string ⟨#[94]⟩)))) (
    .ite (.x 4)
     (.jump [(.c (.v (.bool true)))])
     (.op (.bin .eql (.x 0) (.c (.v (.string ⟨#[61]⟩)))) (
     .ite (.x 5)
      (.jump [(.c (.v (.bool true)))])
      (.op (.bin .eql (.x 0) (.c (.v (.string ⟨#[60]⟩)))) (
      .ite (.x 6)
       (.jump [(.c (.v (.bool true)))])
       (.op (.bin .eql (.x 0) (.c (.v (.string ⟨#[58, 61]⟩)))) (
       .jump [(.x 7)])))))))))))))) (
.ret [(.x 1)])
def T.spec_l2Prim : T :=
.bind 1 (
 .op (.bin .eql (.x 0) (.c (.v (.string ⟨#[112, 114, 105, 110, 116]⟩)))) (
 .ite (.x 1)
  (.jump [(.c (.v (.bool true)))])
  (.op (.bin .eql (.x 0) (.c (.v (.string ⟨#[101, 120, 105, 116]⟩)))) (
  .ite (.x 2)
   (.jump [(.c (.v (.bool true)))])
   (.op (.bin .eql (.x 0) (.c (.v (.string ⟨#[115, 105, 122, 101]⟩)))) (
   .ite (.x 3)
    (.jump [(.c (.v (.bool true)))])
    (.op (.bin .eql (.x 0) (.c (.v (.string ⟨#[114, 101, 102]⟩)))) (
    .ite (.x 4)
     (.jump [(.c (.v (.bool true)))])
     (.op (.bin .eql (.x 0) (.c (.v (.string ⟨#[33]⟩)))) (
     .jump [(.x 5)])))))))))) (
.ret [(.x 1)])
def T.spec_l19Bound : T :=
.bind 0 (
 .op (.lenL (.x 0)) (
 .op (.bin .sub (.x 2) (.c (.v (.int .i64 1)))) (
 .loop [(.x 3)] (
  .op (.bin .geq (.x 4) (.c (.v (.int .i64 0)))) (
  .ite (.x 5)
   (.op (.elem 1 (.x 0) (.x 4)) (
   .chk (.lt (.x 6) 0) (
   .op (.bin .eql (.cell 6 0) (.x 1)) (
   .ite (.x 7)
    (.esc (.esc (.ret [(.x 4)])))
    (.op (.bin .sub (.x 4) (.c (.v (.int .i64 1)))) (
    .jump [(.x 8)]))))))
   (.esc (.jump []))))))) (
.ret [(.c (.v (.int .i64 (-1))))])
def T.laws_toPat : T :=
.chk (.cells (.x 0) 5) (
.chk (.one (.cell 0 0)) (
.chk (.one (.cell 0 1)) (
.chk (.one (.cell 0 2)) (
.chk (.one (.cell 0 3)) (
.op (.call F.laws_toPatS [(.cell 0 4)] false) (
.chk (.one (.x 1)) (
.chk (.cells (.agg [(.cell 0 0), (.cell 0 1), (.cell 0 2), (.cell 0 3), (.x 1)]) 5) (
.ret [(.agg [(.cell 0 0), (.cell 0 1), (.cell 0 2), (.cell 0 3), (.x 1)])]))))))))
def T.laws_eqPat : T :=
.chk (.cells (.x 0) 5) (
.chk (.cells (.x 1) 5) (
.op (.bin .neq (.cell 0 0) (.cell 1 0)) (
.ite (.x 2)
 (.ret [(.c (.v (.bool false)))])
 (.op (.bin .neq (.cell 0 1) (.cell 1 1)) (
 .ite (.x 3)
  (.ret [(.c (.v (.bool false)))])
  (.op (.bin .neq (.cell 0 2) (.cell 1 2)) (
  .ite (.x 4)
   (.ret [(.c (.v (.bool false)))])
   (.op (.bin .neq (.cell 0 3) (.cell 1 3)) (
   .ite (.x 5)
    (.ret [(.c (.v (.bool false)))])
    (.op (.call F.laws_eqPatS [(.cell 0 4), (.cell 1 4)] false) (
    .op (.un .not (.x 6)) (
    .ite (.x 7)
     (.ret [(.c (.v (.bool false)))])
     (.ret [(.c (.v (.bool true)))])))))))))))))
def T.slices_Grow__impl_Ty_impl_Ty : T :=
.op (.bin .lss (.x 0) (.c (.v (.int .i64 0)))) (
.ite (.x 1)
 (.chk (.no) (
 .chk (.no) (
 .op (.bin .sub (.c (.v (.int .i64 0))) (.c (.v (.int .i64 0)))) (
 .op (.bin .sub (.x 0) (.x 2)) (
 .op (.bin .gtr (.x 3) (.c (.v (.int .i64 0)))) (
 .ite (.x 4)
  (.op (.rep 56 (.agg [(.v (.int .i64 0)), (.v (.int .i64 0)), (.v (.string ⟨#[]⟩)), .nils]) (.x 3) (.x 3)) (
  .chk (.ne (.x 5)) (
  .ret [(.c (.sl []))])))
  (.chk (.no) (
  .ret []))))))))
 (.op (.bin .sub (.c (.v (.int .i64 0))) (.c (.v (.int .i64 0)))) (
 .op (.bin .sub (.x 0) (.x 2)) (
 .op (.bin .gtr (.x 3) (.c (.v (.int .i64 0)))) (
 .ite (.x 4)
  (.op (.rep 56 (.agg [(.v (.int .i64 0)), (.v (.int .i64 0)), (.v (.string ⟨#[]⟩)), .nils]) (.x 3) (.x 3)) (
  .chk (.ne (.x 5)) (
  .ret [(.c (.sl []))])))
  (.chk (.no) (
  .ret [])))))))
def T.slices_Grow__impl_Ty_impl_Ty_s1 : T :=
.op (.bin .lss (.x 0) (.c (.v (.int .i64 0)))) (
.ite (.x 1)
 (.chk (.no) (
 .chk (.no) (
 .op (.bin .sub (.c (.v (.int .i64 0))) (.c (.v (.int .i64 0)))) (
 .op (.bin .sub (.x 0) (.x 2)) (
 .op (.bin .gtr (.x 3) (.c (.v (.int .i64 0)))) (
 .ite (.x 4)
  (.op (.rep 56 (.agg [(.v (.int .i64 0)), (.v (.int .i64 0)), (.v (.string ⟨#[]⟩)), .nils]) (.x 3) (.x 3)) (
  .chk (.ne (.x 5)) (
  .chk (.no) (
  .ret []))))
  (.ret [])))))))
 (.op (.bin .sub (.c (.v (.int .i64 0))) (.c (.v (.int .i64 0)))) (
 .op (.bin .sub (.x 0) (.x 2)) (
 .op (.bin .gtr (.x 3) (.c (.v (.int .i64 0)))) (
 .ite (.x 4)
  (.op (.rep 56 (.agg [(.v (.int .i64 0)), (.v (.int .i64 0)), (.v (.string ⟨#[]⟩)), .nils]) (.x 3) (.x 3)) (
  .chk (.ne (.x 5)) (
  .chk (.no) (
  .ret []))))
  (.ret []))))))
def T.impl_isName : T :=
.bind 1 (
 .op (.lenS (.x 0)) (
 .op (.call F.impl_within [(.x 2), (.c (.v (.int .i64 1))), (.c (.v (.int .i64 12)))] false) (
 .ite (.x 3)
  (.op (.idxS (.x 0) (.c (.v (.int .i64 0)))) (
  .op (.callv (.x 1) [(.x 4)] false) (
  .ite (.x 5)
   (.op (.call F.impl_run [(.x 0), (.c (.v (.int .i64 0))), (.c (.fn F.impl_nameByte []))] false) (
   .op (.lenS (.x 0)) (
   .op (.bin .eql (.x 6) (.x 7)) (
   .jump [(.x 8)]))))
   (.jump [(.c (.v (.bool false)))]))))
  (.jump [(.c (.v (.bool false)))])))) (
.ret [(.x 2)])
theorem T.impl_isName_l : leftF Try.prog CF Try.f137 = some (2, T.impl_isName) := by kernel_rfl
theorem T.impl_isName_con {args : List AV} {res : AV} (hl : args.length = 2) (hn : AV.norefs args = true) (hw : wpT Try.prog (fun _ _ _ => False) (fun a => a = res) T.impl_isName args []) : PCon Try.prog F.impl_isName args res :=
  con_auto Try.func137 T.impl_isName_l hl hn hw
def T.impl_small : T :=
.bind 1 (
 .op (.bin .geq (.x 0) (.c (.v (.int .u8 97)))) (
 .ite (.x 1)
  (.op (.bin .leq (.x 0) (.c (.v (.int .u8 122)))) (
  .jump [(.x 2)]))
  (.jump [(.c (.v (.bool false)))]))) (
.ret [(.x 1)])
theorem T.impl_small_l : leftF Try.prog CF Try.f138 = some (1, T.impl_small) := by kernel_rfl
theorem T.impl_small_con {args : List AV} {res : AV} (hl : args.length = 1) (hn : AV.norefs args = true) (hw : wpT Try.prog (fun _ _ _ => False) (fun a => a = res) T.impl_small args []) : PCon Try.prog F.impl_small args res :=
  con_auto Try.func138 T.impl_small_l hl hn hw
def T.impl_isKey : T :=
.chk (.one (.c (.v (.string ⟨#[116, 121, 112, 101]⟩)))) (
.chk (.one (.c (.v (.string ⟨#[111, 102]⟩)))) (
.chk (.one (.c (.v (.string ⟨#[108, 101, 116]⟩)))) (
.chk (.one (.c (.v (.string ⟨#[114, 101, 99]⟩)))) (
.chk (.one (.c (.v (.string ⟨#[105, 110]⟩)))) (
.chk (.one (.c (.v (.string ⟨#[102, 117, 110]⟩)))) (
.chk (.one (.c (.v (.string ⟨#[105, 102]⟩)))) (
.chk (.one (.c (.v (.string ⟨#[116, 104, 101, 110]⟩)))) (
.chk (.one (.c (.v (.string ⟨#[101, 108, 115, 101]⟩)))) (
.chk (.one (.c (.v (.string ⟨#[109, 97, 116, 99, 104]⟩)))) (
.chk (.one (.c (.v (.string ⟨#[119, 105, 116, 104]⟩)))) (
.chk (.one (.c (.v (.string ⟨#[101, 110, 100]⟩)))) (
.chk (.one (.c (.v (.string ⟨#[116, 114, 117, 101]⟩)))) (
.chk (.one (.c (.v (.string ⟨#[102, 97, 108, 115, 101]⟩)))) (
.chk (.one (.c (.v (.string ⟨#[114, 101, 102]⟩)))) (
.chk (.one (.c (.v (.string ⟨#[114, 101, 97, 100]⟩)))) (
.chk (.one (.c (.v (.string ⟨#[112, 114, 105, 110, 116]⟩)))) (
.chk (.one (.c (.v (.string ⟨#[101, 120, 105, 116]⟩)))) (
.chk (.one (.c (.v (.string ⟨#[115, 105, 122, 101]⟩)))) (
.op (.mkl (.v (.string ⟨#[]⟩)) 19 [(0, (.c (.v (.string ⟨#[116, 121, 112, 101]⟩)))), (1, (.c (.v (.string ⟨#[111, 102]⟩)))), (2, (.c (.v (.string ⟨#[108, 101, 116]⟩)))), (3, (.c (.v (.string ⟨#[114, 101, 99]⟩)))), (4, (.c (.v (.string ⟨#[105, 110]⟩)))), (5, (.c (.v (.string ⟨#[102, 117, 110]⟩)))), (6, (.c (.v (.string ⟨#[105, 102]⟩)))), (7, (.c (.v (.string ⟨#[116, 104, 101, 110]⟩)))), (8, (.c (.v (.string ⟨#[101, 108, 115, 101]⟩)))), (9, (.c (.v (.string ⟨#[109, 97, 116, 99, 104]⟩)))), (10, (.c (.v (.string ⟨#[119, 105, 116, 104]⟩)))), (11, (.c (.v (.string ⟨#[101, 110, 100]⟩)))), (12, (.c (.v (.string ⟨#[116, 114, 117, 101]⟩)))), (13, (.c (.v (.string ⟨#[102, 97, 108, 115, 101]⟩)))), (14, (.c (.v (.string ⟨#[114, 101, 102]⟩)))), (15, (.c (.v (.string ⟨#[114, 101, 97, 100]⟩)))), (16, (.c (.v (.string ⟨#[112, 114, 105, 110, 116]⟩)))), (17, (.c (.v (.string ⟨#[101, 120, 105, 116]⟩)))), (18, (.c (.v (.string ⟨#[115, 105, 122, 101]⟩))))]) (
.op (.call F.slices_Contains__string_string [(.sl (.x 1)), (.x 0)] true) (
.ret [(.x 2)])))))))))))))))))))))
theorem T.impl_isKey_l : leftF Try.prog CF Try.f139 = some (1, T.impl_isKey) := by kernel_rfl
theorem T.impl_isKey_con {args : List AV} {res : AV} (hl : args.length = 1) (hn : AV.norefs args = true) (hw : wpT Try.prog (fun _ _ _ => False) (fun a => a = res) T.impl_isKey args []) : PCon Try.prog F.impl_isKey args res :=
  con_auto Try.func139 T.impl_isKey_l hl hn hw
def T.impl_great : T :=
.bind 1 (
 .op (.bin .geq (.x 0) (.c (.v (.int .u8 65)))) (
 .ite (.x 1)
  (.op (.bin .leq (.x 0) (.c (.v (.int .u8 90)))) (
  .jump [(.x 2)]))
  (.jump [(.c (.v (.bool false)))]))) (
.ret [(.x 1)])
theorem T.impl_great_l : leftF Try.prog CF Try.f140 = some (1, T.impl_great) := by kernel_rfl
theorem T.impl_great_con {args : List AV} {res : AV} (hl : args.length = 1) (hn : AV.norefs args = true) (hw : wpT Try.prog (fun _ _ _ => False) (fun a => a = res) T.impl_great args []) : PCon Try.prog F.impl_great args res :=
  con_auto Try.func140 T.impl_great_l hl hn hw
def T.slices_Contains__string_string : T :=
.op (.call F.slices_Index__string_string [(.x 0), (.x 1)] false) (
.op (.bin .geq (.x 2) (.c (.v (.int .i64 0)))) (
.ret [(.x 3)]))
theorem T.slices_Contains__string_string_l : leftF Try.prog CF Try.f141 = some (2, T.slices_Contains__string_string) := by kernel_rfl
theorem T.slices_Contains__string_string_con {args : List AV} {res : AV} (hl : args.length = 2) (hn : AV.norefs args = true) (hw : wpT Try.prog (fun _ _ _ => False) (fun a => a = res) T.slices_Contains__string_string args []) : PCon Try.prog F.slices_Contains__string_string args res :=
  con_auto Try.func141 T.slices_Contains__string_string_l hl hn hw
def T.slices_IndexFunc__impl_Pat_impl_Pat : T :=
.bind 0 (
 .op (.lenL (.x 0)) (
 .loop [(.c (.v (.int .i64 0)))] (
  .op (.bin .lss (.x 3) (.x 2)) (
  .ite (.x 4)
   (.op (.elem 5 (.x 0) (.x 3)) (
   .chk (.cells (.x 5) 5) (
   .op (.callv (.x 1) [(.x 5)] false) (
   .ite (.x 6)
    (.esc (.esc (.ret [(.x 3)])))
    (.op (.bin .add (.x 3) (.c (.v (.int .i64 1)))) (
    .jump [(.x 7)]))))))
   (.esc (.jump [])))))) (
.ret [(.c (.v (.int .i64 (-1))))])
theorem T.slices_IndexFunc__impl_Pat_impl_Pat_l : leftF Try.prog CF Try.f142 = some (2, T.slices_IndexFunc__impl_Pat_impl_Pat) := by kernel_rfl
theorem T.slices_IndexFunc__impl_Pat_impl_Pat_con {args : List AV} {res : AV} (hl : args.length = 2) (hn : AV.norefs args = true) (hw : wpT Try.prog (fun _ _ _ => False) (fun a => a = res) T.slices_IndexFunc__impl_Pat_impl_Pat args []) : PCon Try.prog F.slices_IndexFunc__impl_Pat_impl_Pat args res :=
  con_auto Try.func142 T.slices_IndexFunc__impl_Pat_impl_Pat_l hl hn hw
def T.spec_l1Key : T :=
.chk (.one (.c (.v (.string ⟨#[116, 121, 112, 101]⟩)))) (
.chk (.one (.c (.v (.string ⟨#[111, 102]⟩)))) (
.chk (.one (.c (.v (.string ⟨#[108, 101, 116]⟩)))) (
.chk (.one (.c (.v (.string ⟨#[114, 101, 99]⟩)))) (
.chk (.one (.c (.v (.string ⟨#[105, 110]⟩)))) (
.chk (.one (.c (.v (.string ⟨#[102, 117, 110]⟩)))) (
.chk (.one (.c (.v (.string ⟨#[105, 102]⟩)))) (
.chk (.one (.c (.v (.string ⟨#[116, 104, 101, 110]⟩)))) (
.chk (.one (.c (.v (.string ⟨#[101, 108, 115, 101]⟩)))) (
.chk (.one (.c (.v (.string ⟨#[109, 97, 116, 99, 104]⟩)))) (
.chk (.one (.c (.v (.string ⟨#[119, 105, 116, 104]⟩)))) (
.chk (.one (.c (.v (.string ⟨#[101, 110, 100]⟩)))) (
.chk (.one (.c (.v (.string ⟨#[116, 114, 117, 101]⟩)))) (
.chk (.one (.c (.v (.string ⟨#[102, 97, 108, 115, 101]⟩)))) (
.chk (.one (.c (.v (.string ⟨#[114, 101, 102]⟩)))) (
.chk (.one (.c (.v (.string ⟨#[114, 101, 97, 100]⟩)))) (
.chk (.one (.c (.v (.string ⟨#[112, 114, 105, 110, 116]⟩)))) (
.chk (.one (.c (.v (.string ⟨#[101, 120, 105, 116]⟩)))) (
.chk (.one (.c (.v (.string ⟨#[115, 105, 122, 101]⟩)))) (
.op (.mkl (.v (.string ⟨#[]⟩)) 19 [(0, (.c (.v (.string ⟨#[116, 121, 112, 101]⟩)))), (1, (.c (.v (.string ⟨#[111, 102]⟩)))), (2, (.c (.v (.string ⟨#[108, 101, 116]⟩)))), (3, (.c (.v (.string ⟨#[114, 101, 99]⟩)))), (4, (.c (.v (.string ⟨#[105, 110]⟩)))), (5, (.c (.v (.string ⟨#[102, 117, 110]⟩)))), (6, (.c (.v (.string ⟨#[105, 102]⟩)))), (7, (.c (.v (.string ⟨#[116, 104, 101, 110]⟩)))), (8, (.c (.v (.string ⟨#[101, 108, 115, 101]⟩)))), (9, (.c (.v (.string ⟨#[109, 97, 116, 99, 104]⟩)))), (10, (.c (.v (.string ⟨#[119, 105, 116, 104]⟩)))), (11, (.c (.v (.string ⟨#[101, 110, 100]⟩)))), (12, (.c (.v (.string ⟨#[116, 114, 117, 101]⟩)))), (13, (.c (.v (.string ⟨#[102, 97, 108, 115, 101]⟩)))), (14, (.c (.v (.string ⟨#[114, 101, 102]⟩)))), (15, (.c (.v (.string ⟨#[114, 101, 97, 100]⟩)))), (16, (.c (.v (.string ⟨#[112, 114, 105, 110, 116]⟩)))), (17, (.c (.v (.string ⟨#[101, 120, 105, 116]⟩)))), (18, (.c (.v (.string ⟨#[115, 105, 122, 101]⟩))))]) (
.bind 0 (
 .loop [(.c (.v (.int .i64 0)))] (
  .op (.lenL (.sl (.x 1))) (
  .op (.bin .lss (.x 2) (.x 3)) (
  .ite (.x 4)
   (.chk (.idx (.x 1) (.x 2)) (
   .op (.get (.x 1) (.x 2) 0 none) (
   .op (.bin .eql (.x 5) (.x 0)) (
   .ite (.x 6)
    (.esc (.esc (.ret [(.c (.v (.bool true)))])))
    (.op (.bin .add (.x 2) (.c (.v (.int .i64 1)))) (
    .jump [(.x 7)]))))))
   (.esc (.jump [])))))) (
.ret [(.c (.v (.bool false)))])))))))))))))))))))))
def T.laws_szPatS : T :=
.op (.lenL (.x 0)) (
.op (.bin .sub (.x 1) (.x 2)) (
.op (.bin .lss (.x 3) (.c (.v (.int .i64 0)))) (
.ite (.x 4)
 (.ret [(.c (.v (.int .i64 (-1))))])
 (.bind 1 (
  .loop [(.x 3), (.c (.v (.int .i64 0)))] (
   .op (.lenL (.x 0)) (
   .op (.bin .lss (.x 6) (.x 7)) (
   .ite (.x 8)
    (.op (.elem 5 (.x 0) (.x 6)) (
    .chk (.cells (.x 9) 5) (
    .op (.call F.laws_szPat [(.x 9), (.x 5)] false) (
    .op (.bin .lss (.x 10) (.c (.v (.int .i64 0)))) (
    .ite (.x 11)
     (.esc (.esc (.ret [(.c (.v (.int .i64 (-1))))])))
     (.op (.bin .add (.x 6) (.c (.v (.int .i64 1)))) (
     .jump [(.x 10), (.x 12)])))))))
    (.esc (.jump [(.x 5)])))))) (
 .ret [(.x 5)])))))
def T.spec_l1Upper : T :=
.op (.call F.spec_l1In [(.x 0), (.c (.v (.int .i64 65))), (.c (.v (.int .i64 90)))] false) (
.ret [(.x 1)])
def T.spec_l1Lower : T :=
.op (.call F.spec_l1In [(.x 0), (.c (.v (.int .i64 97))), (.c (.v (.int .i64 122)))] false) (
.ret [(.x 1)])
def T.spec_l1NameByte : T :=
.bind 1 (
 .op (.call F.spec_l1Lower [(.x 0)] false) (
 .ite (.x 1)
  (.jump [(.c (.v (.bool true)))])
  (.op (.call F.spec_l1Upper [(.x 0)] false) (
  .ite (.x 2)
   (.jump [(.c (.v (.bool true)))])
   (.op (.call F.spec_l1Num [(.x 0)] false) (
   .ite (.x 3)
    (.jump [(.c (.v (.bool true)))])
    (.op (.bin .eql (.x 0) (.c (.v (.int .i64 95)))) (
    .jump [(.x 4)])))))))) (
.ret [(.x 1)])
def T.laws_toPatS : T :=
.op (.lenL (.x 0)) (
.op (.rep 64 (.agg [(.v (.int .i64 0)), (.v (.string ⟨#[]⟩)), (.v (.int .i64 0)), (.v (.int .i64 0)), .nils]) (.x 1) (.x 1)) (
.bind 1 (
 .loop [(.x 2), (.c (.v (.int .i64 0)))] (
  .op (.lenL (.x 0)) (
  .op (.bin .lss (.x 4) (.x 5)) (
  .ite (.x 6)
   (.op (.elem 5 (.x 0) (.x 4)) (
   .chk (.cells (.x 7) 5) (
   .op (.call F.laws_toPat [(.x 7)] false) (
   .chk (.idx (.x 3) (.x 4)) (
   .chk (.cells (.x 8) 5) (
   .op (.set (.x 3) (.x 4) 0 5 (.x 8)) (
   .op (.bin .add (.x 4) (.c (.v (.int .i64 1)))) (
   .jump [(.x 9), (.x 10)]))))))))
   (.esc (.jump [(.x 3)])))))) (
.ret [(.sl (.x 3))])))
def T.laws_eqPatS : T :=
.op (.lenL (.x 0)) (
.op (.lenL (.x 1)) (
.op (.bin .neq (.x 2) (.x 3)) (
.ite (.x 4)
 (.ret [(.c (.v (.bool false)))])
 (.bind 0 (
  .loop [(.c (.v (.int .i64 0)))] (
   .op (.lenL (.x 0)) (
   .op (.bin .lss (.x 5) (.x 6)) (
   .ite (.x 7)
    (.op (.elem 5 (.x 0) (.x 5)) (
    .chk (.cells (.x 8) 5) (
    .op (.elem 5 (.x 1) (.x 5)) (
    .chk (.cells (.x 9) 5) (
    .op (.call F.laws_eqPat [(.x 8), (.x 9)] true) (
    .op (.un .not (.x 10)) (
    .ite (.x 11)
     (.esc (.esc (.ret [(.c (.v (.bool false)))])))
     (.op (.bin .add (.x 5) (.c (.v (.int .i64 1)))) (
     .jump [(.x 12)])))))))))
    (.esc (.jump [])))))) (
 .ret [(.c (.v (.bool true)))])))))
def T.impl_run : T :=
.bind 1 (
 .loop [(.x 1)] (
  .bind 0 (
   .bind 1 (
    .op (.lenS (.x 0)) (
    .op (.bin .lss (.x 3) (.x 4)) (
    .ite (.x 5)
     (.op (.idxS (.x 0) (.x 3)) (
     .op (.callv (.x 2) [(.x 6)] false) (
     .jump [(.x 7)])))
     (.jump [(.c (.v (.bool false)))])))) (
   .ite (.x 4)
    (.jump [])
    (.esc (.esc (.jump [(.x 3)]))))) (
  .op (.bin .add (.x 3) (.c (.v (.int .i64 1)))) (
  .jump [(.x 4)])))) (
.ret [(.x 3)])
theorem T.impl_run_l : leftF Try.prog CF Try.f150 = some (3, T.impl_run) := by kernel_rfl
theorem T.impl_run_con {args : List AV} {res : AV} (hl : args.length = 3) (hn : AV.norefs args = true) (hw : wpT Try.prog (fun _ _ _ => False) (fun a => a = res) T.impl_run args []) : PCon Try.prog F.impl_run args res :=
  con_auto Try.func150 T.impl_run_l hl hn hw
def T.impl_nameByte : T :=
.bind 1 (
 .op (.call F.impl_small [(.x 0)] false) (
 .ite (.x 1)
  (.jump [(.c (.v (.bool true)))])
  (.op (.call F.impl_great [(.x 0)] false) (
  .ite (.x 2)
   (.jump [(.c (.v (.bool true)))])
   (.op (.call F.impl_digit [(.x 0)] false) (
   .ite (.x 3)
    (.jump [(.c (.v (.bool true)))])
    (.op (.bin .eql (.x 0) (.c (.v (.int .u8 95)))) (
    .jump [(.x 4)])))))))) (
.ret [(.x 1)])
theorem T.impl_nameByte_l : leftF Try.prog CF Try.f151 = some (1, T.impl_nameByte) := by kernel_rfl
theorem T.impl_nameByte_con {args : List AV} {res : AV} (hl : args.length = 1) (hn : AV.norefs args = true) (hw : wpT Try.prog (fun _ _ _ => False) (fun a => a = res) T.impl_nameByte args []) : PCon Try.prog F.impl_nameByte args res :=
  con_auto Try.func151 T.impl_nameByte_l hl hn hw
def T.slices_Index__string_string : T :=
.bind 0 (
 .op (.lenL (.x 0)) (
 .loop [(.c (.v (.int .i64 0)))] (
  .op (.bin .lss (.x 3) (.x 2)) (
  .ite (.x 4)
   (.op (.elem 1 (.x 0) (.x 3)) (
   .chk (.lt (.x 5) 0) (
   .op (.bin .eql (.x 1) (.cell 5 0)) (
   .ite (.x 6)
    (.esc (.esc (.ret [(.x 3)])))
    (.op (.bin .add (.x 3) (.c (.v (.int .i64 1)))) (
    .jump [(.x 7)]))))))
   (.esc (.jump [])))))) (
.ret [(.c (.v (.int .i64 (-1))))])
theorem T.slices_Index__string_string_l : leftF Try.prog CF Try.f152 = some (2, T.slices_Index__string_string) := by kernel_rfl
theorem T.slices_Index__string_string_con {args : List AV} {res : AV} (hl : args.length = 2) (hn : AV.norefs args = true) (hw : wpT Try.prog (fun _ _ _ => False) (fun a => a = res) T.slices_Index__string_string args []) : PCon Try.prog F.slices_Index__string_string args res :=
  con_auto Try.func152 T.slices_Index__string_string_l hl hn hw
def T.spec_l1Num : T :=
.op (.call F.spec_l1In [(.x 0), (.c (.v (.int .i64 48))), (.c (.v (.int .i64 57)))] false) (
.ret [(.x 1)])
def T.impl_digit : T :=
.bind 1 (
 .op (.bin .geq (.x 0) (.c (.v (.int .u8 48)))) (
 .ite (.x 1)
  (.op (.bin .leq (.x 0) (.c (.v (.int .u8 57)))) (
  .jump [(.x 2)]))
  (.jump [(.c (.v (.bool false)))]))) (
.ret [(.x 1)])
theorem T.impl_digit_l : leftF Try.prog CF Try.f154 = some (1, T.impl_digit) := by kernel_rfl
theorem T.impl_digit_con {args : List AV} {res : AV} (hl : args.length = 1) (hn : AV.norefs args = true) (hw : wpT Try.prog (fun _ _ _ => False) (fun a => a = res) T.impl_digit args []) : PCon Try.prog F.impl_digit args res :=
  con_auto Try.func154 T.impl_digit_l hl hn hw
end Go.Proofs.Ab
