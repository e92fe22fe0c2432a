/-
  WHAT IS LEFT of this seat's functions, printed by a program of ours (wip/tool/Gen2.lean) from the translation; each with the theorem that it is what is left of that function.
-/
import Derived.Test.YtimcinieaeaolaaGreatDoorChecked
import Derived.KernelRfl
import Derived.Test.YtimcinieaeaolaaGreatDoorAbM4
set_option linter.unusedVariables false
set_option linter.unusedSimpArgs false
set_option linter.defProp false
namespace Go.Proofs.Ab
open Go.Ab
set_option maxRecDepth 100000
namespace F
abbrev laws_FnTrees : FuncId := 3
abbrev laws_big : FuncId := 4
abbrev spec_DrawTree : FuncId := 5
abbrev impl_ProgOk : FuncId := 6
abbrev impl_SameProg : FuncId := 7
abbrev impl_ExpSize : FuncId := 8
abbrev impl_Print : FuncId := 9
abbrev impl_PrintExp : FuncId := 10
abbrev spec_l1New : FuncId := 11
abbrev spec_l2DrawProg : FuncId := 12
abbrev spec_l1Below : FuncId := 13
abbrev impl_ExpOk : FuncId := 14
abbrev slices_ContainsFunc__impl_Data_impl_Data : FuncId := 15
abbrev impl_ProgOk_1 : FuncId := 16
abbrev impl_dataOk : FuncId := 17
abbrev impl_SameProg_1 : FuncId := 18
abbrev impl_sameType : FuncId := 19
abbrev impl_SameProg_2 : FuncId := 20
abbrev slices_Equal__string_string : FuncId := 21
abbrev slices_EqualFunc__impl_Ctor__impl_Ctor_impl_Ctor_impl_Ctor : FuncId := 22
abbrev slices_EqualFunc__impl_Data__impl_Data_impl_Data_impl_Data : FuncId := 23
abbrev impl_sameExp : FuncId := 24
abbrev impl_patSize : FuncId := 25
abbrev impl_typesForm : FuncId := 26
abbrev impl_expForm : FuncId := 27
abbrev spec_l1Str : FuncId := 28
abbrev spec_l1Once : FuncId := 29
abbrev spec_l2DrawUp : FuncId := 30
abbrev spec_l2DrawType : FuncId := 31
abbrev spec_l2DrawExp : FuncId := 32
abbrev spec_l1Byte : FuncId := 33
abbrev impl_headOk : FuncId := 34
abbrev impl_patOk : FuncId := 35
abbrev slices_IndexFunc__impl_Data_impl_Data : FuncId := 36
abbrev impl_upOk : FuncId := 37
abbrev impl_typeOk : FuncId := 38
abbrev impl_emptyType : FuncId := 39
abbrev impl_lowOk : FuncId := 40
abbrev slices_ContainsFunc__string_string : FuncId := 41
abbrev impl_dataOk_1 : FuncId := 42
abbrev impl_isName : FuncId := 43
abbrev impl_small : FuncId := 44
abbrev slices_EqualFunc__impl_TypeExp__impl_TypeExp_impl_TypeExp_impl_TypeExp : FuncId := 45
abbrev impl_sameExp_1 : FuncId := 46
abbrev impl_samePat : FuncId := 47
abbrev slices_EqualFunc__impl_Exp__impl_Exp_impl_Exp_impl_Exp : FuncId := 48
abbrev slices_EqualFunc__impl_Arm__impl_Arm_impl_Arm_impl_Arm : FuncId := 49
abbrev impl_typeForm : FuncId := 50
abbrev strings_Join : FuncId := 51
abbrev strconv_Itoa : FuncId := 52
abbrev impl_quoted : FuncId := 53
abbrev impl_boolWord : FuncId := 54
abbrev impl_forms_impl_Exp : FuncId := 55
abbrev impl_opLevels : FuncId := 56
abbrev impl_bracketed : FuncId := 57
abbrev impl_openForm : FuncId := 58
abbrev spec_l2DrawLeaf : FuncId := 59
abbrev spec_l2DrawName : FuncId := 60
abbrev spec_l2DrawPat : FuncId := 61
abbrev spec_l2DrawExps : FuncId := 62
abbrev impl_plain : FuncId := 63
abbrev impl_within : FuncId := 64
abbrev impl_binarySign : FuncId := 65
abbrev impl_primArity : FuncId := 66
abbrev slices_ContainsFunc__impl_Pat_impl_Pat : FuncId := 67
abbrev impl_patOk_1 : FuncId := 68
abbrev impl_great : FuncId := 69
abbrev slices_ContainsFunc__impl_TypeExp_impl_TypeExp : FuncId := 70
abbrev impl_typeOk_1 : FuncId := 71
abbrev impl_isKey : FuncId := 72
abbrev slices_IndexFunc__string_string : FuncId := 73
abbrev impl_run : FuncId := 74
abbrev impl_nameByte : FuncId := 75
abbrev slices_EqualFunc__impl_Pat__impl_Pat_impl_Pat_impl_Pat : FuncId := 76
abbrev impl_forms_impl_TypeExp : FuncId := 77
abbrev strings_Builder_Grow : FuncId := 78
abbrev strings_Builder_WriteString : FuncId := 79
abbrev impl_openForm_1 : FuncId := 82
abbrev impl_patForm : FuncId := 83
abbrev spec_l1Int : FuncId := 84
abbrev slices_Contains__string_string : FuncId := 85
abbrev slices_IndexFunc__impl_Pat_impl_Pat : FuncId := 86
abbrev slices_IndexFunc__impl_TypeExp_impl_TypeExp : FuncId := 87
abbrev impl_digit : FuncId := 88
abbrev strings_Builder_copyCheck : FuncId := 89
abbrev strings_Builder_grow : FuncId := 90
abbrev internalstrconv_FormatInt : FuncId := 91
abbrev impl_forms_impl_Pat : FuncId := 92
abbrev slices_Index__string_string : FuncId := 93
end F
def FL : List Nat := [3, 4, 6, 7, 8, 9, 10, 13, 14, 15, 16, 17, 18, 19, 20, 21, 22, 23, 24, 25, 26, 27, 28, 29, 30, 33, 34, 35, 36, 37, 38, 39, 40, 41, 42, 43, 44, 45, 46, 47, 48, 49, 50, 51, 52, 53, 54, 55, 56, 57, 58, 60, 63, 64, 65, 66, 67, 68, 69, 70, 71, 72, 73, 74, 75, 76, 77, 80, 81, 82, 83, 84, 85, 86, 87, 88, 91, 92, 93, 96, 97, 100, 101, 102, 103, 104, 105, 106]
def FR : List (Nat × Bool × Nat × Nat) := []
abbrev G.spec_l1New : Sig := ⟨1, [(.d (.x 0))], [], 3, (.ptr 0 0), [(.box 69 [(.d (.x 0)), (.d (.x 1)), (.d (.x 2))])], []⟩
abbrev G.spec_l2DrawProg : Sig := ⟨4, [(.ptr 0 0), (.d (.x 3))], [(.box 69 [(.d (.x 0)), (.d (.x 1)), (.d (.x 2))])], 4, (.d (.x 0)), [(.box 69 [(.d (.x 1)), (.d (.x 2)), (.d (.x 3))])], []⟩
abbrev G.spec_l1Below : Sig := ⟨4, [(.ptr 0 0), (.d (.x 3))], [(.box 69 [(.d (.x 0)), (.d (.x 1)), (.d (.x 2))])], 4, (.d (.x 0)), [(.box 69 [(.d (.x 1)), (.d (.x 2)), (.d (.x 3))])], []⟩
abbrev G.spec_l1Str : Sig := ⟨4, [(.ptr 0 0), (.d (.x 3))], [(.box 69 [(.d (.x 0)), (.d (.x 1)), (.d (.x 2))])], 4, (.d (.x 0)), [(.box 69 [(.d (.x 1)), (.d (.x 2)), (.d (.x 3))])], []⟩
abbrev G.spec_l1Once : Sig := ⟨4, [(.ptr 0 0), (.d (.x 3))], [(.box 69 [(.d (.x 0)), (.d (.x 1)), (.d (.x 2))])], 4, (.d (.x 0)), [(.box 69 [(.d (.x 1)), (.d (.x 2)), (.d (.x 3))])], []⟩
abbrev G.spec_l2DrawUp : Sig := ⟨3, [(.ptr 0 0)], [(.box 69 [(.d (.x 0)), (.d (.x 1)), (.d (.x 2))])], 4, (.d (.x 0)), [(.box 69 [(.d (.x 1)), (.d (.x 2)), (.d (.x 3))])], []⟩
abbrev G.spec_l2DrawType : Sig := ⟨4, [(.ptr 0 0), (.d (.x 3))], [(.box 69 [(.d (.x 0)), (.d (.x 1)), (.d (.x 2))])], 4, (.d (.x 0)), [(.box 69 [(.d (.x 1)), (.d (.x 2)), (.d (.x 3))])], []⟩
abbrev G.spec_l2DrawExp : Sig := ⟨4, [(.ptr 0 0), (.d (.x 3))], [(.box 69 [(.d (.x 0)), (.d (.x 1)), (.d (.x 2))])], 4, (.d (.x 0)), [(.box 69 [(.d (.x 1)), (.d (.x 2)), (.d (.x 3))])], []⟩
abbrev G.spec_l1Byte : Sig := ⟨3, [(.ptr 0 0)], [(.box 69 [(.d (.x 0)), (.d (.x 1)), (.d (.x 2))])], 4, (.d (.x 0)), [(.box 69 [(.d (.x 1)), (.d (.x 2)), (.d (.x 3))])], []⟩
abbrev G.spec_l2DrawLeaf : Sig := ⟨3, [(.ptr 0 0)], [(.box 69 [(.d (.x 0)), (.d (.x 1)), (.d (.x 2))])], 4, (.d (.x 0)), [(.box 69 [(.d (.x 1)), (.d (.x 2)), (.d (.x 3))])], []⟩
abbrev G.spec_l2DrawName : Sig := ⟨3, [(.ptr 0 0)], [(.box 69 [(.d (.x 0)), (.d (.x 1)), (.d (.x 2))])], 4, (.d (.x 0)), [(.box 69 [(.d (.x 1)), (.d (.x 2)), (.d (.x 3))])], []⟩
abbrev G.spec_l2DrawPat : Sig := ⟨4, [(.ptr 0 0), (.d (.x 3))], [(.box 69 [(.d (.x 0)), (.d (.x 1)), (.d (.x 2))])], 4, (.d (.x 0)), [(.box 69 [(.d (.x 1)), (.d (.x 2)), (.d (.x 3))])], []⟩
abbrev G.spec_l2DrawExps : Sig := ⟨5, [(.ptr 0 0), (.d (.x 3)), (.d (.x 4))], [(.box 69 [(.d (.x 0)), (.d (.x 1)), (.d (.x 2))])], 4, (.d (.x 0)), [(.box 69 [(.d (.x 1)), (.d (.x 2)), (.d (.x 3))])], []⟩
abbrev G.spec_l1Int : Sig := ⟨4, [(.ptr 0 0), (.d (.x 3))], [(.box 69 [(.d (.x 0)), (.d (.x 1)), (.d (.x 2))])], 4, (.d (.x 0)), [(.box 69 [(.d (.x 1)), (.d (.x 2)), (.d (.x 3))])], []⟩
def SG : List (Nat × List Sig) := [(11, [G.spec_l1New]), (12, [G.spec_l2DrawProg]), (13, [G.spec_l1Below]), (28, [G.spec_l1Str]), (29, [G.spec_l1Once]), (30, [G.spec_l2DrawUp]), (31, [G.spec_l2DrawType]), (32, [G.spec_l2DrawExp]), (33, [G.spec_l1Byte]), (59, [G.spec_l2DrawLeaf]), (60, [G.spec_l2DrawName]), (61, [G.spec_l2DrawPat]), (62, [G.spec_l2DrawExps]), (84, [G.spec_l1Int])]
abbrev CF : Cfg := ⟨FL, FR, SG, false⟩
abbrev CFC : Cfg := ⟨FL, FR, SG, true⟩
def T.laws_FnTrees : T :=
.op (.call F.laws_big [(.x 0)] false) (
.ite (.x 1)
 (.ret [(.c (.v (.bool true)))])
 (.op (.call F.spec_DrawTree [(.x 0)] false) (
 .chk (.cells (.x 2) 8) (
 .chk (.cells (.x 2) 8) (
 .chk (.cells (.x 2) 8) (
 .chk (.cells (.agg [(.cell 2 1), (.cell 2 2), (.cell 2 3), (.cell 2 4), (.cell 2 5), (.cell 2 6), (.cell 2 7)]) 7) (
 .chk (.cells (.agg [(.cell 2 1), (.cell 2 2), (.cell 2 3), (.cell 2 4), (.cell 2 5), (.cell 2 6), (.cell 2 7)]) 7) (
 .op (.mkl (.agg [(.v (.int .i64 0)), (.v (.string ⟨#[]⟩)), (.v (.int .i64 0)), (.v (.string ⟨#[]⟩)), (.v (.int .i64 0)), .nils, .nils]) 2 [(0, (.agg [(.cell 2 1), (.cell 2 2), (.cell 2 3), (.cell 2 4), (.cell 2 5), (.cell 2 6), (.cell 2 7)])), (1, (.agg [(.cell 2 1), (.cell 2 2), (.cell 2 3), (.cell 2 4), (.cell 2 5), (.cell 2 6), (.cell 2 7)]))]) (
 .chk (.one (.c (.v (.int .i64 7)))) (
 .chk (.one (.c (.v (.int .i64 7)))) (
 .chk (.one (.c (.v (.string ⟨#[]⟩)))) (
 .chk (.one (.c (.v (.int .i64 0)))) (
 .chk (.one (.c (.v (.string ⟨#[]⟩)))) (
 .chk (.one (.c (.v (.int .i64 0)))) (
 .chk (.one (.c .nils)) (
 .bind 0 (
  .bind 1 (
   .chk (.cells (.x 2) 8) (
   .op (.call F.impl_ProgOk [(.x 2)] true) (
   .op (.un .not (.x 4)) (
   .ite (.x 5)
    (.jump [(.c (.v (.bool true)))])
    (.op (.call F.impl_ProgOk [(.agg [(.cell 2 0), (.c (.v (.int .i64 7))), (.c (.v (.string ⟨#[]⟩))), (.c (.v (.int .i64 0))), (.c (.v (.string ⟨#[]⟩))), (.c (.v (.int .i64 0))), (.sl (.x 3)), (.c .nils)])] true) (
    .op (.un .not (.x 6)) (
    .ite (.x 7)
     (.jump [(.c (.v (.bool true)))])
     (.chk (.cells (.x 2) 8) (
     .chk (.cells (.x 2) 8) (
     .op (.call F.impl_SameProg [(.x 2), (.x 2)] true) (
     .op (.un .not (.x 8)) (
     .ite (.x 9)
      (.jump [(.c (.v (.bool true)))])
      (.chk (.cells (.x 2) 8) (
      .op (.call F.impl_SameProg [(.x 2), (.agg [(.cell 2 0), (.c (.v (.int .i64 7))), (.c (.v (.string ⟨#[]⟩))), (.c (.v (.int .i64 0))), (.c (.v (.string ⟨#[]⟩))), (.c (.v (.int .i64 0))), (.sl (.x 3)), (.c .nils)])] true) (
      .ite (.x 10)
       (.jump [(.c (.v (.bool true)))])
       (.op (.call F.impl_ExpSize [(.agg [(.c (.v (.int .i64 7))), (.c (.v (.string ⟨#[]⟩))), (.c (.v (.int .i64 0))), (.c (.v (.string ⟨#[]⟩))), (.c (.v (.int .i64 0))), (.sl (.x 3)), (.c .nils)])] true) (
       .op (.call F.impl_ExpSize [(.agg [(.cell 2 1), (.cell 2 2), (.cell 2 3), (.cell 2 4), (.cell 2 5), (.cell 2 6), (.cell 2 7)])] true) (
       .op (.bin .mul (.c (.v (.int .i64 2))) (.x 12)) (
       .op (.bin .add (.x 13) (.c (.v (.int .i64 1)))) (
       .op (.bin .neq (.x 11) (.x 14)) (
       .jump [(.x 15)]))))))))))))))))))))) (
  .ite (.x 4)
   (.esc (.ret [(.c (.v (.bool false)))]))
   (.jump []))) (
 .chk (.cells (.x 2) 8) (
 .op (.call F.impl_Print [(.x 2)] false) (
 .op (.call F.impl_PrintExp [(.agg [(.cell 2 1), (.cell 2 2), (.cell 2 3), (.cell 2 4), (.cell 2 5), (.cell 2 6), (.cell 2 7)])] false) (
 .chk (.one (.c (.v (.int .i64 (-1))))) (
 .bind 1 (
  .op (.lenS (.x 4)) (
  .op (.lenS (.x 5)) (
  .op (.bin .gtr (.x 6) (.x 7)) (
  .ite (.x 8)
   (.op (.lenS (.x 5)) (
   .op (.bin .gtr (.x 9) (.c (.v (.int .i64 0)))) (
   .ite (.x 10)
    (.op (.lenS (.x 4)) (
    .op (.lenS (.x 5)) (
    .op (.bin .sub (.x 11) (.x 12)) (
    .op (.bin .sub (.x 13) (.c (.v (.int .i64 1)))) (
    .op (.lenS (.x 4)) (
    .op (.bin .sub (.x 15) (.c (.v (.int .i64 1)))) (
    .op (.sliceS (.x 4) (some (.x 14)) (some (.x 16))) (
    .op (.bin .eql (.x 17) (.x 5)) (
    .ite (.x 18)
     (.op (.lenS (.x 4)) (
     .op (.bin .sub (.x 19) (.c (.v (.int .i64 1)))) (
     .op (.idxS (.x 4) (.x 20)) (
     .op (.bin .eql (.x 21) (.c (.v (.int .u8 10)))) (
     .ite (.x 22)
      (.op (.call F.impl_Print [(.agg [(.cell 2 0), (.c (.v (.int .i64 7))), (.c (.v (.string ⟨#[]⟩))), (.c (.v (.int .i64 0))), (.c (.v (.string ⟨#[]⟩))), (.c (.v (.int .i64 (-1)))), (.sl (.x 3)), (.c .nils)])] false) (
      .op (.bin .eql (.x 23) (.c (.v (.string ⟨#[]⟩)))) (
      .jump [(.x 24)])))
      (.jump [(.c (.v (.bool false)))]))))))
     (.jump [(.c (.v (.bool false)))]))))))))))
    (.jump [(.c (.v (.bool false)))]))))
   (.jump [(.c (.v (.bool false)))]))))) (
 .ret [(.x 6)]))))))))))))))))))))))
theorem T.laws_FnTrees_l : leftF Tryz.prog CF Tryz.f3 = some (1, T.laws_FnTrees) := by kernel_rfl
theorem T.laws_FnTrees_con {args : List AV} {res : AV} (hl : args.length = 1) (hn : AV.norefs args = true) (hw : wpT Tryz.prog (fun _ _ _ => False) (fun a => a = res) T.laws_FnTrees args []) : PCon Tryz.prog F.laws_FnTrees args res :=
  con_auto Tryz.func3 T.laws_FnTrees_l hl hn hw
def T.laws_big : T :=
.op (.lenL (.x 0)) (
.op (.bin .gtr (.x 1) (.c (.v (.int .i64 1048576)))) (
.ret [(.x 2)]))
theorem T.laws_big_l : leftF Tryz.prog CF Tryz.f4 = some (1, T.laws_big) := by kernel_rfl
theorem T.laws_big_con {args : List AV} {res : AV} (hl : args.length = 1) (hn : AV.norefs args = true) (hw : wpT Tryz.prog (fun _ _ _ => False) (fun a => a = res) T.laws_big args []) : PCon Tryz.prog F.laws_big args res :=
  con_auto Tryz.func4 T.laws_big_l hl hn hw
def T.spec_DrawTree : T :=
.op (.scall F.spec_l1New G.spec_l1New [(.x 0)]) (
.op (.scall F.spec_l1Below G.spec_l1Below [(.ext 1 0), (.ext 1 1), (.ext 1 2), (.c (.v (.int .i64 4)))]) (
.op (.bin .add (.c (.v (.int .i64 2))) (.ext 2 0)) (
.op (.scall F.spec_l2DrawProg G.spec_l2DrawProg [(.ext 2 1), (.ext 2 2), (.ext 2 3), (.x 3)]) (
.op (.val (.ext 4 0)) (
.chk (.cells (.x 5) 8) (
.ret [(.agg [(.cell 5 0), (.cell 5 1), (.cell 5 2), (.cell 5 3), (.cell 5 4), (.cell 5 5), (.cell 5 6), (.cell 5 7)])]))))))
theorem T.spec_DrawTree_l : leftF Tryz.prog CF Tryz.f5 = some (1, T.spec_DrawTree) := by kernel_rfl
theorem T.spec_DrawTree_con {args : List AV} {res : AV} (hl : args.length = 1) (hn : AV.norefs args = true) (hw : wpT Tryz.prog (fun _ _ _ => False) (fun a => a = res) T.spec_DrawTree args []) : PCon Tryz.prog F.spec_DrawTree args res :=
  con_auto Tryz.func5 T.spec_DrawTree_l hl hn hw
def T.impl_ProgOk : T :=
.chk (.cells (.x 0) 8) (
.bind 1 (
 .op (.call F.impl_ExpOk [(.agg [(.cell 0 1), (.cell 0 2), (.cell 0 3), (.cell 0 4), (.cell 0 5), (.cell 0 6), (.cell 0 7)])] false) (
 .ite (.x 1)
  (.op (.call F.slices_ContainsFunc__impl_Data_impl_Data [(.cell 0 0), (.c (.fn F.impl_ProgOk_1 []))] false) (
  .op (.un .not (.x 2)) (
  .jump [(.x 3)])))
  (.jump [(.c (.v (.bool false)))]))) (
.ret [(.x 1)]))
theorem T.impl_ProgOk_l : leftF Tryz.prog CF Tryz.f6 = some (1, T.impl_ProgOk) := by kernel_rfl
theorem T.impl_ProgOk_con {args : List AV} {res : AV} (hl : args.length = 1) (hn : AV.norefs args = true) (hw : wpT Tryz.prog (fun _ _ _ => False) (fun a => a = res) T.impl_ProgOk args []) : PCon Tryz.prog F.impl_ProgOk args res :=
  con_auto Tryz.func6 T.impl_ProgOk_l hl hn hw
def T.impl_SameProg : T :=
.chk (.cells (.x 0) 8) (
.chk (.cells (.x 1) 8) (
.chk (.one (.c (.v .nilFunc))) (
.chk (.one (.c (.fn F.impl_SameProg_1 []))) (
.bind 1 (
 .op (.call F.slices_EqualFunc__impl_Data__impl_Data_impl_Data_impl_Data [(.cell 0 0), (.cell 1 0), (.fn F.impl_SameProg_2 [(.ip (.c (.fn F.impl_SameProg_1 [])) 0)])] false) (
 .ite (.x 2)
  (.op (.call F.impl_sameExp [(.agg [(.cell 0 1), (.cell 0 2), (.cell 0 3), (.cell 0 4), (.cell 0 5), (.cell 0 6), (.cell 0 7)]), (.agg [(.cell 1 1), (.cell 1 2), (.cell 1 3), (.cell 1 4), (.cell 1 5), (.cell 1 6), (.cell 1 7)])] false) (
  .jump [(.x 3)]))
  (.jump [(.c (.v (.bool false)))]))) (
.ret [(.x 2)])))))
theorem T.impl_SameProg_l : leftF Tryz.prog CF Tryz.f7 = some (2, T.impl_SameProg) := by kernel_rfl
theorem T.impl_SameProg_con {args : List AV} {res : AV} (hl : args.length = 2) (hn : AV.norefs args = true) (hw : wpT Tryz.prog (fun _ _ _ => False) (fun a => a = res) T.impl_SameProg args []) : PCon Tryz.prog F.impl_SameProg args res :=
  con_auto Tryz.func7 T.impl_SameProg_l hl hn hw
def T.impl_ExpSize : T :=
.chk (.cells (.x 0) 7) (
.bind 1 (
 .op (.lenL (.cell 0 5)) (
 .loop [(.c (.v (.int .i64 1))), (.c (.v (.int .i64 0)))] (
  .op (.bin .lss (.x 3) (.x 1)) (
  .ite (.x 4)
   (.op (.elem 7 (.cell 0 5) (.x 3)) (
   .chk (.cells (.x 5) 7) (
   .chk (.cells (.x 5) 7) (
   .chk (.cells (.x 5) 7) (
   .op (.call F.impl_ExpSize [(.x 5)] false) (
   .op (.bin .add (.x 2) (.x 6)) (
   .op (.bin .add (.x 3) (.c (.v (.int .i64 1)))) (
   .jump [(.x 7), (.x 8)]))))))))
   (.esc (.jump [(.x 2)])))))) (
.bind 1 (
 .op (.lenL (.cell 0 6)) (
 .loop [(.x 1), (.c (.v (.int .i64 0)))] (
  .op (.bin .lss (.x 4) (.x 2)) (
  .ite (.x 5)
   (.op (.elem 12 (.cell 0 6) (.x 4)) (
   .chk (.cells (.x 6) 12) (
   .chk (.cells (.x 6) 12) (
   .op (.call F.impl_patSize [(.agg [(.cell 6 0), (.cell 6 1), (.cell 6 2), (.cell 6 3), (.cell 6 4)])] true) (
   .op (.call F.impl_ExpSize [(.agg [(.cell 6 5), (.cell 6 6), (.cell 6 7), (.cell 6 8), (.cell 6 9), (.cell 6 10), (.cell 6 11)])] true) (
   .op (.bin .add (.x 7) (.x 8)) (
   .op (.bin .add (.x 3) (.x 9)) (
   .op (.bin .add (.x 4) (.c (.v (.int .i64 1)))) (
   .jump [(.x 10), (.x 11)])))))))))
   (.esc (.jump [(.x 3)])))))) (
.ret [(.x 2)])))
theorem T.impl_ExpSize_l : leftF Tryz.prog CF Tryz.f8 = some (1, T.impl_ExpSize) := by kernel_rfl
theorem T.impl_ExpSize_con {args : List AV} {res : AV} (hl : args.length = 1) (hn : AV.norefs args = true) (hw : wpT Tryz.prog (fun _ _ _ => False) (fun a => a = res) T.impl_ExpSize args []) : PCon Tryz.prog F.impl_ExpSize args res :=
  con_auto Tryz.func8 T.impl_ExpSize_l hl hn hw
def T.impl_Print : T :=
.chk (.cells (.x 0) 8) (
.chk (.cells (.x 0) 8) (
.op (.call F.impl_ProgOk [(.x 0)] false) (
.op (.un .not (.x 1)) (
.ite (.x 2)
 (.ret [(.c (.v (.string ⟨#[]⟩)))])
 (.op (.call F.impl_typesForm [(.cell 0 0)] true) (
 .op (.call F.impl_expForm [(.agg [(.cell 0 1), (.cell 0 2), (.cell 0 3), (.cell 0 4), (.cell 0 5), (.cell 0 6), (.cell 0 7)]), (.c (.v (.int .i64 0)))] true) (
 .op (.bin .add (.x 3) (.x 4)) (
 .op (.bin .add (.x 5) (.c (.v (.string ⟨#[10]⟩)))) (
 .ret [(.x 6)])))))))))
theorem T.impl_Print_l : leftF Tryz.prog CF Tryz.f9 = some (1, T.impl_Print) := by kernel_rfl
theorem T.impl_Print_con {args : List AV} {res : AV} (hl : args.length = 1) (hn : AV.norefs args = true) (hw : wpT Tryz.prog (fun _ _ _ => False) (fun a => a = res) T.impl_Print args []) : PCon Tryz.prog F.impl_Print args res :=
  con_auto Tryz.func9 T.impl_Print_l hl hn hw
def T.impl_PrintExp : T :=
.chk (.cells (.x 0) 7) (
.chk (.cells (.x 0) 7) (
.op (.call F.impl_ExpOk [(.x 0)] false) (
.op (.un .not (.x 1)) (
.ite (.x 2)
 (.ret [(.c (.v (.string ⟨#[]⟩)))])
 (.chk (.cells (.x 0) 7) (
 .op (.call F.impl_expForm [(.x 0), (.c (.v (.int .i64 0)))] false) (
 .ret [(.x 3)])))))))
theorem T.impl_PrintExp_l : leftF Tryz.prog CF Tryz.f10 = some (1, T.impl_PrintExp) := by kernel_rfl
theorem T.impl_PrintExp_con {args : List AV} {res : AV} (hl : args.length = 1) (hn : AV.norefs args = true) (hw : wpT Tryz.prog (fun _ _ _ => False) (fun a => a = res) T.impl_PrintExp args []) : PCon Tryz.prog F.impl_PrintExp args res :=
  con_auto Tryz.func10 T.impl_PrintExp_l hl hn hw
def T.spec_l1New : T :=
.op (.lenL (.x 0)) (
.op (.bin .add (.c (.v (.int .i64 80080))) (.x 1)) (
.bind 1 (
 .loop [(.x 2), (.c (.v (.int .i64 0)))] (
  .bind 0 (
   .bind 1 (
    .op (.lenL (.x 0)) (
    .op (.bin .lss (.x 4) (.x 5)) (
    .ite (.x 6)
     (.op (.bin .lss (.x 4) (.c (.v (.int .i64 4000)))) (
     .jump [(.x 7)]))
     (.jump [(.c (.v (.bool false)))])))) (
   .ite (.x 5)
    (.jump [])
    (.esc (.esc (.jump [(.x 3)]))))) (
  .op (.bin .mul (.x 3) (.c (.v (.int .i64 137)))) (
  .op (.elem 1 (.x 0) (.x 4)) (
  .chk (.lt (.x 6) 0) (
  .op (.conv .i64 (.cell 6 0)) (
  .op (.bin .add (.x 5) (.x 7)) (
  .op (.bin .add (.x 8) (.c (.v (.int .i64 11)))) (
  .op (.bin .and (.x 9) (.c (.v (.int .i64 1073741823)))) (
  .op (.bin .add (.x 4) (.c (.v (.int .i64 1)))) (
  .jump [(.x 10), (.x 11)]))))))))))) (
.chk (.one (.x 0)) (
.chk (.one (.x 3)) (
.chk (.cells (.agg [(.x 0), (.c (.v (.int .i64 0))), (.x 3)]) 3) (
.ret [(.x 0), (.c (.v (.int .i64 0))), (.x 3)]))))))
theorem T.spec_l1New_l : leftS Tryz.prog CF G.spec_l1New Tryz.f11 = some T.spec_l1New := by kernel_rfl
theorem T.spec_l1New_scon {ins outs : List AV} (hl : ins.length = 1) (ho : outs.length = 3) (hn : AV.norefs ins = true) (hw : wpT Tryz.prog (fun _ _ _ => False) (fun a => a = packR outs) T.spec_l1New ins []) : SCon Tryz.prog F.spec_l1New G.spec_l1New ins outs :=
  scon_auto Tryz.func11 T.spec_l1New_l hl hn ho hw
def T.spec_l2DrawProg : T :=
.chk (.cells (.agg [(.c .nils), (.c (.v (.int .i64 0))), (.c (.v (.string ⟨#[]⟩))), (.c (.v (.int .i64 0))), (.c (.v (.string ⟨#[]⟩))), (.c (.v (.int .i64 0))), (.c .nils), (.c .nils)]) 8) (
.bind 4 (
 .op (.scall F.spec_l1Below G.spec_l1Below [(.x 0), (.x 1), (.x 2), (.c (.v (.int .i64 3)))]) (
 .loop [(.ext 4 1), (.ext 4 2), (.ext 4 3), (.c (.sl [])), (.ext 4 0)] (
  .op (.bin .gtr (.x 9) (.c (.v (.int .i64 0)))) (
  .ite (.x 10)
   (.bind 8 (
    .chk (.one (.c (.v (.string ⟨#[116]⟩)))) (
    .chk (.one (.c (.v (.string ⟨#[117]⟩)))) (
    .chk (.one (.c (.v (.string ⟨#[108, 105, 115, 116]⟩)))) (
    .op (.mkl (.v (.string ⟨#[]⟩)) 3 [(0, (.c (.v (.string ⟨#[116]⟩)))), (1, (.c (.v (.string ⟨#[117]⟩)))), (2, (.c (.v (.string ⟨#[108, 105, 115, 116]⟩))))]) (
    .op (.scall F.spec_l1Str G.spec_l1Str [(.x 5), (.x 6), (.x 7), (.x 11)]) (
    .chk (.one (.ext 12 0)) (
    .chk (.cells (.agg [(.ext 12 0), (.c .nils), (.c .nils), (.c (.v (.int .i64 0)))]) 4) (
    .bind 4 (
     .op (.scall F.spec_l1Once G.spec_l1Once [(.ext 12 1), (.ext 12 2), (.ext 12 3), (.c (.v (.int .i64 2)))]) (
     .ite (.ext 13 0)
      (.chk (.one (.c (.v (.string ⟨#[97]⟩)))) (
      .op (.mkl (.v (.string ⟨#[]⟩)) 1 [(0, (.c (.v (.string ⟨#[97]⟩))))]) (
      .chk (.one (.x 14)) (
      .jump [(.ext 13 1), (.ext 13 2), (.ext 13 3), (.x 14)]))))
      (.jump [(.ext 13 1), (.ext 13 2), (.ext 13 3), (.c .nils)]))) (
    .bind 4 (
     .op (.scall F.spec_l1Below G.spec_l1Below [(.x 13), (.x 14), (.x 15), (.c (.v (.int .i64 3)))]) (
     .op (.bin .add (.c (.v (.int .i64 1))) (.ext 17 0)) (
     .loop [(.ext 17 1), (.ext 17 2), (.ext 17 3), (.c (.sl [])), (.x 18)] (
      .op (.bin .gtr (.x 23) (.c (.v (.int .i64 0)))) (
      .ite (.x 24)
       (.bind 11 (
        .op (.scall F.spec_l2DrawUp G.spec_l2DrawUp [(.x 19), (.x 20), (.x 21)]) (
        .op (.scall F.spec_l1Once G.spec_l1Once [(.ext 25 1), (.ext 25 2), (.ext 25 3), (.c (.v (.int .i64 2)))]) (
        .chk (.one (.ext 25 0)) (
        .chk (.one (.ext 26 0)) (
        .chk (.cells (.agg [(.ext 25 0), (.ext 26 0), (.c (.v (.int .i64 0))), (.c (.v (.string ⟨#[]⟩))), (.c (.v (.int .i64 0))), (.c .nils), (.c (.v (.int .i64 0)))]) 7) (
        .bind 7 (
         .ite (.ext 26 0)
          (.op (.scall F.spec_l2DrawType G.spec_l2DrawType [(.ext 26 1), (.ext 26 2), (.ext 26 3), (.c (.v (.int .i64 2)))]) (
          .op (.val (.ext 27 0)) (
          .chk (.cells (.x 28) 4) (
          .jump [(.ext 27 1), (.ext 27 2), (.ext 27 3), (.cell 28 0), (.cell 28 1), (.cell 28 2), (.cell 28 3)]))))
          (.jump [(.ext 26 1), (.ext 26 2), (.ext 26 3), (.c (.v (.int .i64 0))), (.c (.v (.string ⟨#[]⟩))), (.c (.v (.int .i64 0))), (.c .nils)])) (
        .chk (.cells (.agg [(.ext 25 0), (.ext 26 0), (.x 30), (.x 31), (.x 32), (.x 33), (.c (.v (.int .i64 0)))]) 7) (
        .op (.mkl (.agg [(.v (.string ⟨#[]⟩)), (.v (.bool false)), (.v (.int .i64 0)), (.v (.string ⟨#[]⟩)), (.v (.int .i64 0)), .nils, (.v (.int .i64 0))]) 1 [(0, (.agg [(.ext 25 0), (.ext 26 0), (.x 30), (.x 31), (.x 32), (.x 33), (.c (.v (.int .i64 0)))]))]) (
        .op (.app 7 88 (.x 22) (.sl (.x 34))) (
        .jump [(.x 27), (.x 28), (.x 29), (.x 35), (.ext 25 0), (.ext 26 0), (.x 30), (.x 31), (.x 32), (.x 33), (.x 34)])))))))))) (
       .op (.bin .sub (.x 23) (.c (.v (.int .i64 1)))) (
       .jump [(.x 25), (.x 26), (.x 27), (.x 28), (.x 36)])))
       (.esc (.jump [(.x 19), (.x 20), (.x 21), (.x 22)]))))))) (
    .chk (.cells (.agg [(.ext 12 0), (.x 16), (.sl (.x 20)), (.c (.v (.int .i64 0)))]) 4) (
    .op (.mkl (.agg [(.v (.string ⟨#[]⟩)), .nils, .nils, (.v (.int .i64 0))]) 1 [(0, (.agg [(.ext 12 0), (.x 16), (.sl (.x 20)), (.c (.v (.int .i64 0)))]))]) (
    .op (.app 4 72 (.x 8) (.sl (.x 21))) (
    .jump [(.x 17), (.x 18), (.x 19), (.x 22), (.ext 12 0), (.x 16), (.sl (.x 20)), (.x 21)]))))))))))))) (
   .op (.bin .sub (.x 9) (.c (.v (.int .i64 1)))) (
   .jump [(.x 11), (.x 12), (.x 13), (.x 14), (.x 19)])))
   (.esc (.jump [(.x 5), (.x 6), (.x 7), (.x 8)])))))) (
.op (.scall F.spec_l2DrawExp G.spec_l2DrawExp [(.x 4), (.x 5), (.x 6), (.x 3)]) (
.op (.val (.ext 8 0)) (
.chk (.cells (.x 9) 7) (
.chk (.one (.cell 9 0)) (
.chk (.one (.cell 9 1)) (
.chk (.one (.cell 9 2)) (
.chk (.one (.cell 9 3)) (
.chk (.one (.cell 9 4)) (
.chk (.one (.cell 9 5)) (
.chk (.one (.cell 9 6)) (
.ret [(.agg [(.sl (.x 7)), (.cell 9 0), (.cell 9 1), (.cell 9 2), (.cell 9 3), (.cell 9 4), (.cell 9 5), (.cell 9 6)]), (.ext 8 1), (.ext 8 2), (.ext 8 3)]))))))))))))
theorem T.spec_l2DrawProg_l : leftS Tryz.prog CFC G.spec_l2DrawProg Tryz.f12 = some T.spec_l2DrawProg := by kernel_rfl
theorem T.spec_l2DrawProg_scon {ins outs : List AV} (hl : ins.length = 4) (ho : outs.length = 4) (hn : AV.norefs ins = true) (hw : wpT Tryz.prog (fun _ _ _ => False) (fun a => a = packR outs) T.spec_l2DrawProg ins []) : SCon Tryz.prog F.spec_l2DrawProg G.spec_l2DrawProg ins outs :=
  scon_auto Tryz.func12 T.spec_l2DrawProg_l hl hn ho hw
def T.spec_l1Below : T :=
.op (.bin .leq (.x 3) (.c (.v (.int .i64 0)))) (
.ite (.x 4)
 (.ret [(.c (.v (.int .i64 0))), (.x 0), (.x 1), (.x 2)])
 (.op (.bin .leq (.x 3) (.c (.v (.int .i64 256)))) (
 .ite (.x 5)
  (.op (.scall F.spec_l1Byte G.spec_l1Byte [(.x 0), (.x 1), (.x 2)]) (
  .op (.bin .rem (.ext 6 0) (.x 3)) (
  .ret [(.x 7), (.ext 6 1), (.ext 6 2), (.ext 6 3)])))
  (.op (.scall F.spec_l1Byte G.spec_l1Byte [(.x 0), (.x 1), (.x 2)]) (
  .op (.scall F.spec_l1Byte G.spec_l1Byte [(.ext 6 1), (.ext 6 2), (.ext 6 3)]) (
  .op (.scall F.spec_l1Byte G.spec_l1Byte [(.ext 7 1), (.ext 7 2), (.ext 7 3)]) (
  .op (.bin .mul (.ext 6 0) (.c (.v (.int .i64 65536)))) (
  .op (.bin .mul (.ext 7 0) (.c (.v (.int .i64 256)))) (
  .op (.bin .add (.x 9) (.x 10)) (
  .op (.bin .add (.x 11) (.ext 8 0)) (
  .op (.bin .rem (.x 12) (.x 3)) (
  .ret [(.x 13), (.ext 8 1), (.ext 8 2), (.ext 8 3)]))))))))))))
theorem T.spec_l1Below_l : leftS Tryz.prog CF G.spec_l1Below Tryz.f13 = some T.spec_l1Below := by kernel_rfl
theorem T.spec_l1Below_scon {ins outs : List AV} (hl : ins.length = 4) (ho : outs.length = 4) (hn : AV.norefs ins = true) (hw : wpT Tryz.prog (fun _ _ _ => False) (fun a => a = packR outs) T.spec_l1Below ins []) : SCon Tryz.prog F.spec_l1Below G.spec_l1Below ins outs :=
  scon_auto Tryz.func13 T.spec_l1Below_l hl hn ho hw
def T.impl_ExpOk : T :=
.chk (.cells (.x 0) 7) (
.chk (.cells (.x 0) 7) (
.op (.call F.impl_headOk [(.x 0)] false) (
.op (.un .not (.x 1)) (
.ite (.x 2)
 (.ret [(.c (.v (.bool false)))])
 (.bind 0 (
  .op (.lenL (.cell 0 5)) (
  .loop [(.c (.v (.int .i64 0)))] (
   .op (.bin .lss (.x 4) (.x 3)) (
   .ite (.x 5)
    (.op (.elem 7 (.cell 0 5) (.x 4)) (
    .chk (.cells (.x 6) 7) (
    .chk (.cells (.x 6) 7) (
    .chk (.cells (.x 6) 7) (
    .op (.call F.impl_ExpOk [(.x 6)] false) (
    .op (.un .not (.x 7)) (
    .ite (.x 8)
     (.esc (.esc (.ret [(.c (.v (.bool false)))])))
     (.op (.bin .add (.x 4) (.c (.v (.int .i64 1)))) (
     .jump [(.x 9)])))))))))
    (.esc (.jump [])))))) (
 .bind 0 (
  .op (.lenL (.cell 0 6)) (
  .loop [(.c (.v (.int .i64 0)))] (
   .op (.bin .lss (.x 4) (.x 3)) (
   .ite (.x 5)
    (.bind 12 (
     .op (.elem 12 (.cell 0 6) (.x 4)) (
     .chk (.cells (.x 6) 12) (
     .chk (.cells (.x 6) 12) (
     .bind 1 (
      .op (.call F.impl_patOk [(.agg [(.cell 6 0), (.cell 6 1), (.cell 6 2), (.cell 6 3), (.cell 6 4)])] false) (
      .op (.un .not (.x 7)) (
      .ite (.x 8)
       (.jump [(.c (.v (.bool true)))])
       (.op (.call F.impl_ExpOk [(.agg [(.cell 6 5), (.cell 6 6), (.cell 6 7), (.cell 6 8), (.cell 6 9), (.cell 6 10), (.cell 6 11)])] false) (
       .op (.un .not (.x 9)) (
       .jump [(.x 10)])))))) (
     .ite (.x 7)
      (.esc (.esc (.esc (.ret [(.c (.v (.bool false)))]))))
      (.jump [(.cell 6 0), (.cell 6 1), (.cell 6 2), (.cell 6 3), (.cell 6 4), (.cell 6 5), (.cell 6 6), (.cell 6 7), (.cell 6 8), (.cell 6 9), (.cell 6 10), (.cell 6 11)])))))) (
    .op (.bin .add (.x 4) (.c (.v (.int .i64 1)))) (
    .jump [(.x 18)])))
    (.esc (.jump [])))))) (
 .ret [(.c (.v (.bool true)))])))))))
theorem T.impl_ExpOk_l : leftF Tryz.prog CF Tryz.f14 = some (1, T.impl_ExpOk) := by kernel_rfl
theorem T.impl_ExpOk_con {args : List AV} {res : AV} (hl : args.length = 1) (hn : AV.norefs args = true) (hw : wpT Tryz.prog (fun _ _ _ => False) (fun a => a = res) T.impl_ExpOk args []) : PCon Tryz.prog F.impl_ExpOk args res :=
  con_auto Tryz.func14 T.impl_ExpOk_l hl hn hw
def T.slices_ContainsFunc__impl_Data_impl_Data : T :=
.op (.call F.slices_IndexFunc__impl_Data_impl_Data [(.x 0), (.x 1)] false) (
.op (.bin .geq (.x 2) (.c (.v (.int .i64 0)))) (
.ret [(.x 3)]))
theorem T.slices_ContainsFunc__impl_Data_impl_Data_l : leftF Tryz.prog CF Tryz.f15 = some (2, T.slices_ContainsFunc__impl_Data_impl_Data) := by kernel_rfl
theorem T.slices_ContainsFunc__impl_Data_impl_Data_con {args : List AV} {res : AV} (hl : args.length = 2) (hn : AV.norefs args = true) (hw : wpT Tryz.prog (fun _ _ _ => False) (fun a => a = res) T.slices_ContainsFunc__impl_Data_impl_Data args []) : PCon Tryz.prog F.slices_ContainsFunc__impl_Data_impl_Data args res :=
  con_auto Tryz.func15 T.slices_ContainsFunc__impl_Data_impl_Data_l hl hn hw
def T.impl_ProgOk_1 : T :=
.chk (.cells (.x 0) 4) (
.chk (.cells (.x 0) 4) (
.op (.call F.impl_dataOk [(.x 0)] false) (
.op (.un .not (.x 1)) (
.ret [(.x 2)]))))
theorem T.impl_ProgOk_1_l : leftF Tryz.prog CF Tryz.f16 = some (1, T.impl_ProgOk_1) := by kernel_rfl
theorem T.impl_ProgOk_1_con {args : List AV} {res : AV} (hl : args.length = 1) (hn : AV.norefs args = true) (hw : wpT Tryz.prog (fun _ _ _ => False) (fun a => a = res) T.impl_ProgOk_1 args []) : PCon Tryz.prog F.impl_ProgOk_1 args res :=
  con_auto Tryz.func16 T.impl_ProgOk_1_l hl hn hw
def T.impl_dataOk : T :=
.chk (.cells (.x 0) 4) (
.bind 0 (
 .op (.lenL (.cell 0 2)) (
 .loop [(.c (.v (.int .i64 0)))] (
  .op (.bin .lss (.x 2) (.x 1)) (
  .ite (.x 3)
   (.bind 7 (
    .op (.elem 7 (.cell 0 2) (.x 2)) (
    .chk (.cells (.x 4) 7) (
    .chk (.cells (.x 4) 7) (
    .bind 1 (
     .op (.call F.impl_upOk [(.cell 4 0)] false) (
     .op (.un .not (.x 5)) (
     .ite (.x 6)
      (.jump [(.c (.v (.bool true)))])
      (.op (.bin .lss (.cell 4 6) (.c (.v (.int .i64 0)))) (
      .ite (.x 7)
       (.jump [(.c (.v (.bool true)))])
       (.ite (.cell 4 1)
        (.op (.call F.impl_typeOk [(.agg [(.cell 4 2), (.cell 4 3), (.cell 4 4), (.cell 4 5)])] false) (
        .op (.un .not (.x 8)) (
        .ite (.x 9)
         (.jump [(.c (.v (.bool true)))])
         (.op (.un .not (.cell 4 1)) (
         .ite (.x 10)
          (.op (.call F.impl_emptyType [(.agg [(.cell 4 2), (.cell 4 3), (.cell 4 4), (.cell 4 5)])] false) (
          .op (.un .not (.x 11)) (
          .jump [(.x 12)])))
          (.jump [(.c (.v (.bool false)))]))))))
        (.op (.un .not (.cell 4 1)) (
        .ite (.x 8)
         (.op (.call F.impl_emptyType [(.agg [(.cell 4 2), (.cell 4 3), (.cell 4 4), (.cell 4 5)])] false) (
         .op (.un .not (.x 9)) (
         .jump [(.x 10)])))
         (.jump [(.c (.v (.bool false)))]))))))))) (
    .ite (.x 5)
     (.esc (.esc (.esc (.ret [(.c (.v (.bool false)))]))))
     (.jump [(.cell 4 0), (.cell 4 1), (.cell 4 2), (.cell 4 3), (.cell 4 4), (.cell 4 5), (.cell 4 6)])))))) (
   .op (.bin .add (.x 2) (.c (.v (.int .i64 1)))) (
   .jump [(.x 11)])))
   (.esc (.jump [])))))) (
.bind 1 (
 .op (.call F.impl_lowOk [(.cell 0 0)] false) (
 .ite (.x 1)
  (.op (.bin .geq (.cell 0 3) (.c (.v (.int .i64 0)))) (
  .ite (.x 2)
   (.op (.lenL (.cell 0 2)) (
   .op (.bin .gtr (.x 3) (.c (.v (.int .i64 0)))) (
   .ite (.x 4)
    (.op (.call F.slices_ContainsFunc__string_string [(.cell 0 1), (.c (.fn F.impl_dataOk_1 []))] false) (
    .op (.un .not (.x 5)) (
    .jump [(.x 6)])))
    (.jump [(.c (.v (.bool false)))]))))
   (.jump [(.c (.v (.bool false)))])))
  (.jump [(.c (.v (.bool false)))]))) (
.ret [(.x 1)])))
theorem T.impl_dataOk_l : leftF Tryz.prog CF Tryz.f17 = some (1, T.impl_dataOk) := by kernel_rfl
theorem T.impl_dataOk_con {args : List AV} {res : AV} (hl : args.length = 1) (hn : AV.norefs args = true) (hw : wpT Tryz.prog (fun _ _ _ => False) (fun a => a = res) T.impl_dataOk args []) : PCon Tryz.prog F.impl_dataOk args res :=
  con_auto Tryz.func17 T.impl_dataOk_l hl hn hw
def T.impl_SameProg_1 : T :=
.chk (.cells (.x 0) 7) (
.chk (.cells (.x 1) 7) (
.bind 1 (
 .op (.bin .eql (.cell 0 0) (.cell 1 0)) (
 .ite (.x 2)
  (.op (.beq false (.cell 0 1) (.cell 1 1)) (
  .ite (.x 3)
   (.op (.call F.impl_sameType [(.agg [(.cell 0 2), (.cell 0 3), (.cell 0 4), (.cell 0 5)]), (.agg [(.cell 1 2), (.cell 1 3), (.cell 1 4), (.cell 1 5)])] false) (
   .jump [(.x 4)]))
   (.jump [(.c (.v (.bool false)))])))
  (.jump [(.c (.v (.bool false)))]))) (
.ret [(.x 2)])))
theorem T.impl_SameProg_1_l : leftF Tryz.prog CF Tryz.f18 = some (2, T.impl_SameProg_1) := by kernel_rfl
theorem T.impl_SameProg_1_con {args : List AV} {res : AV} (hl : args.length = 2) (hn : AV.norefs args = true) (hw : wpT Tryz.prog (fun _ _ _ => False) (fun a => a = res) T.impl_SameProg_1 args []) : PCon Tryz.prog F.impl_SameProg_1 args res :=
  con_auto Tryz.func18 T.impl_SameProg_1_l hl hn hw
def T.impl_sameType : T :=
.chk (.cells (.x 0) 4) (
.chk (.cells (.x 1) 4) (
.bind 1 (
 .op (.bin .eql (.cell 0 0) (.cell 1 0)) (
 .ite (.x 2)
  (.op (.bin .eql (.cell 0 1) (.cell 1 1)) (
  .ite (.x 3)
   (.op (.call F.slices_EqualFunc__impl_TypeExp__impl_TypeExp_impl_TypeExp_impl_TypeExp [(.cell 0 3), (.cell 1 3), (.c (.fn F.impl_sameType []))] false) (
   .jump [(.x 4)]))
   (.jump [(.c (.v (.bool false)))])))
  (.jump [(.c (.v (.bool false)))]))) (
.ret [(.x 2)])))
theorem T.impl_sameType_l : leftF Tryz.prog CF Tryz.f19 = some (2, T.impl_sameType) := by kernel_rfl
theorem T.impl_sameType_con {args : List AV} {res : AV} (hl : args.length = 2) (hn : AV.norefs args = true) (hw : wpT Tryz.prog (fun _ _ _ => False) (fun a => a = res) T.impl_sameType args []) : PCon Tryz.prog F.impl_sameType args res :=
  con_auto Tryz.func19 T.impl_sameType_l hl hn hw
def T.impl_SameProg_2 : T :=
.chk (.cells (.x 0) 4) (
.chk (.cells (.x 1) 4) (
.bind 1 (
 .op (.bin .eql (.cell 0 0) (.cell 1 0)) (
 .ite (.x 3)
  (.op (.call F.slices_Equal__string_string [(.cell 0 1), (.cell 1 1)] false) (
  .ite (.x 4)
   (.op (.ldp none (.x 2)) (
   .op (.call F.slices_EqualFunc__impl_Ctor__impl_Ctor_impl_Ctor_impl_Ctor [(.cell 0 2), (.cell 1 2), (.x 5)] false) (
   .jump [(.x 6)])))
   (.jump [(.c (.v (.bool false)))])))
  (.jump [(.c (.v (.bool false)))]))) (
.ret [(.x 3)])))
theorem T.impl_SameProg_2_l : leftF Tryz.prog CF Tryz.f20 = some (3, T.impl_SameProg_2) := by kernel_rfl
theorem T.impl_SameProg_2_con {args : List AV} {res : AV} (hl : args.length = 3) (hn : AV.norefs args = true) (hw : wpT Tryz.prog (fun _ _ _ => False) (fun a => a = res) T.impl_SameProg_2 args []) : PCon Tryz.prog F.impl_SameProg_2 args res :=
  con_auto Tryz.func20 T.impl_SameProg_2_l hl hn hw
def T.slices_Equal__string_string : T :=
.op (.lenL (.x 0)) (
.op (.lenL (.x 1)) (
.op (.bin .neq (.x 2) (.x 3)) (
.ite (.x 4)
 (.ret [(.c (.v (.bool false)))])
 (.bind 0 (
  .op (.lenL (.x 0)) (
  .loop [(.c (.v (.int .i64 0)))] (
   .op (.bin .lss (.x 6) (.x 5)) (
   .ite (.x 7)
    (.op (.elem 1 (.x 0) (.x 6)) (
    .chk (.lt (.x 8) 0) (
    .op (.elem 1 (.x 1) (.x 6)) (
    .chk (.lt (.x 9) 0) (
    .op (.bin .neq (.cell 8 0) (.cell 9 0)) (
    .ite (.x 10)
     (.esc (.esc (.ret [(.c (.v (.bool false)))])))
     (.op (.bin .add (.x 6) (.c (.v (.int .i64 1)))) (
     .jump [(.x 11)]))))))))
    (.esc (.jump [])))))) (
 .ret [(.c (.v (.bool true)))])))))
theorem T.slices_Equal__string_string_l : leftF Tryz.prog CF Tryz.f21 = some (2, T.slices_Equal__string_string) := by kernel_rfl
theorem T.slices_Equal__string_string_con {args : List AV} {res : AV} (hl : args.length = 2) (hn : AV.norefs args = true) (hw : wpT Tryz.prog (fun _ _ _ => False) (fun a => a = res) T.slices_Equal__string_string args []) : PCon Tryz.prog F.slices_Equal__string_string args res :=
  con_auto Tryz.func21 T.slices_Equal__string_string_l hl hn hw
def T.slices_EqualFunc__impl_Ctor__impl_Ctor_impl_Ctor_impl_Ctor : T :=
.op (.lenL (.x 0)) (
.op (.lenL (.x 1)) (
.op (.bin .neq (.x 3) (.x 4)) (
.ite (.x 5)
 (.ret [(.c (.v (.bool false)))])
 (.bind 0 (
  .op (.lenL (.x 0)) (
  .loop [(.c (.v (.int .i64 0)))] (
   .op (.bin .lss (.x 7) (.x 6)) (
   .ite (.x 8)
    (.op (.elem 7 (.x 0) (.x 7)) (
    .chk (.cells (.x 9) 7) (
    .chk (.cells (.x 9) 7) (
    .op (.elem 7 (.x 1) (.x 7)) (
    .chk (.cells (.x 10) 7) (
    .chk (.cells (.x 10) 7) (
    .chk (.cells (.x 9) 7) (
    .chk (.cells (.x 10) 7) (
    .op (.callv (.x 2) [(.x 9), (.x 10)] false) (
    .op (.un .not (.x 11)) (
    .ite (.x 12)
     (.esc (.esc (.ret [(.c (.v (.bool false)))])))
     (.op (.bin .add (.x 7) (.c (.v (.int .i64 1)))) (
     .jump [(.x 13)])))))))))))))
    (.esc (.jump [])))))) (
 .ret [(.c (.v (.bool true)))])))))
theorem T.slices_EqualFunc__impl_Ctor__impl_Ctor_impl_Ctor_impl_Ctor_l : leftF Tryz.prog CF Tryz.f22 = some (3, T.slices_EqualFunc__impl_Ctor__impl_Ctor_impl_Ctor_impl_Ctor) := by kernel_rfl
theorem T.slices_EqualFunc__impl_Ctor__impl_Ctor_impl_Ctor_impl_Ctor_con {args : List AV} {res : AV} (hl : args.length = 3) (hn : AV.norefs args = true) (hw : wpT Tryz.prog (fun _ _ _ => False) (fun a => a = res) T.slices_EqualFunc__impl_Ctor__impl_Ctor_impl_Ctor_impl_Ctor args []) : PCon Tryz.prog F.slices_EqualFunc__impl_Ctor__impl_Ctor_impl_Ctor_impl_Ctor args res :=
  con_auto Tryz.func22 T.slices_EqualFunc__impl_Ctor__impl_Ctor_impl_Ctor_impl_Ctor_l hl hn hw
def T.slices_EqualFunc__impl_Data__impl_Data_impl_Data_impl_Data : T :=
.op (.lenL (.x 0)) (
.op (.lenL (.x 1)) (
.op (.bin .neq (.x 3) (.x 4)) (
.ite (.x 5)
 (.ret [(.c (.v (.bool false)))])
 (.bind 0 (
  .op (.lenL (.x 0)) (
  .loop [(.c (.v (.int .i64 0)))] (
   .op (.bin .lss (.x 7) (.x 6)) (
   .ite (.x 8)
    (.op (.elem 4 (.x 0) (.x 7)) (
    .chk (.cells (.x 9) 4) (
    .chk (.cells (.x 9) 4) (
    .op (.elem 4 (.x 1) (.x 7)) (
    .chk (.cells (.x 10) 4) (
    .chk (.cells (.x 10) 4) (
    .chk (.cells (.x 9) 4) (
    .chk (.cells (.x 10) 4) (
    .op (.callv (.x 2) [(.x 9), (.x 10)] false) (
    .op (.un .not (.x 11)) (
    .ite (.x 12)
     (.esc (.esc (.ret [(.c (.v (.bool false)))])))
     (.op (.bin .add (.x 7) (.c (.v (.int .i64 1)))) (
     .jump [(.x 13)])))))))))))))
    (.esc (.jump [])))))) (
 .ret [(.c (.v (.bool true)))])))))
theorem T.slices_EqualFunc__impl_Data__impl_Data_impl_Data_impl_Data_l : leftF Tryz.prog CF Tryz.f23 = some (3, T.slices_EqualFunc__impl_Data__impl_Data_impl_Data_impl_Data) := by kernel_rfl
theorem T.slices_EqualFunc__impl_Data__impl_Data_impl_Data_impl_Data_con {args : List AV} {res : AV} (hl : args.length = 3) (hn : AV.norefs args = true) (hw : wpT Tryz.prog (fun _ _ _ => False) (fun a => a = res) T.slices_EqualFunc__impl_Data__impl_Data_impl_Data_impl_Data args []) : PCon Tryz.prog F.slices_EqualFunc__impl_Data__impl_Data_impl_Data_impl_Data args res :=
  con_auto Tryz.func23 T.slices_EqualFunc__impl_Data__impl_Data_impl_Data_impl_Data_l hl hn hw
def T.impl_sameExp : T :=
.chk (.cells (.x 0) 7) (
.chk (.cells (.x 1) 7) (
.bind 1 (
 .op (.bin .eql (.cell 0 0) (.cell 1 0)) (
 .ite (.x 2)
  (.op (.bin .eql (.cell 0 1) (.cell 1 1)) (
  .ite (.x 3)
   (.op (.bin .eql (.cell 0 2) (.cell 1 2)) (
   .ite (.x 4)
    (.op (.bin .eql (.cell 0 3) (.cell 1 3)) (
    .ite (.x 5)
     (.op (.call F.slices_EqualFunc__impl_Exp__impl_Exp_impl_Exp_impl_Exp [(.cell 0 5), (.cell 1 5), (.c (.fn F.impl_sameExp []))] false) (
     .ite (.x 6)
      (.op (.call F.slices_EqualFunc__impl_Arm__impl_Arm_impl_Arm_impl_Arm [(.cell 0 6), (.cell 1 6), (.c (.fn F.impl_sameExp_1 []))] false) (
      .jump [(.x 7)]))
      (.jump [(.c (.v (.bool false)))])))
     (.jump [(.c (.v (.bool false)))])))
    (.jump [(.c (.v (.bool false)))])))
   (.jump [(.c (.v (.bool false)))])))
  (.jump [(.c (.v (.bool false)))]))) (
.ret [(.x 2)])))
theorem T.impl_sameExp_l : leftF Tryz.prog CF Tryz.f24 = some (2, T.impl_sameExp) := by kernel_rfl
theorem T.impl_sameExp_con {args : List AV} {res : AV} (hl : args.length = 2) (hn : AV.norefs args = true) (hw : wpT Tryz.prog (fun _ _ _ => False) (fun a => a = res) T.impl_sameExp args []) : PCon Tryz.prog F.impl_sameExp args res :=
  con_auto Tryz.func24 T.impl_sameExp_l hl hn hw
def T.impl_patSize : T :=
.chk (.cells (.x 0) 5) (
.bind 1 (
 .op (.lenL (.cell 0 4)) (
 .loop [(.c (.v (.int .i64 1))), (.c (.v (.int .i64 0)))] (
  .op (.bin .lss (.x 3) (.x 1)) (
  .ite (.x 4)
   (.op (.elem 5 (.cell 0 4) (.x 3)) (
   .chk (.cells (.x 5) 5) (
   .chk (.cells (.x 5) 5) (
   .chk (.cells (.x 5) 5) (
   .op (.call F.impl_patSize [(.x 5)] false) (
   .op (.bin .add (.x 2) (.x 6)) (
   .op (.bin .add (.x 3) (.c (.v (.int .i64 1)))) (
   .jump [(.x 7), (.x 8)]))))))))
   (.esc (.jump [(.x 2)])))))) (
.ret [(.x 1)]))
theorem T.impl_patSize_l : leftF Tryz.prog CF Tryz.f25 = some (1, T.impl_patSize) := by kernel_rfl
theorem T.impl_patSize_con {args : List AV} {res : AV} (hl : args.length = 1) (hn : AV.norefs args = true) (hw : wpT Tryz.prog (fun _ _ _ => False) (fun a => a = res) T.impl_patSize args []) : PCon Tryz.prog F.impl_patSize args res :=
  con_auto Tryz.func25 T.impl_patSize_l hl hn hw
def T.impl_typesForm : T :=
.bind 1 (
 .op (.lenL (.x 0)) (
 .loop [(.c (.sl [])), (.c (.v (.int .i64 0)))] (
  .op (.bin .lss (.x 3) (.x 1)) (
  .ite (.x 4)
   (.bind 6 (
    .op (.elem 4 (.x 0) (.x 3)) (
    .chk (.cells (.x 5) 4) (
    .chk (.cells (.x 5) 4) (
    .op (.appS 1 1 (.x 2) (.c (.v (.string ⟨#[116, 121, 112, 101, 32]⟩)))) (
    .bind 1 (
     .op (.lenL (.cell 5 1)) (
     .loop [(.x 6), (.c (.v (.int .i64 0)))] (
      .op (.bin .lss (.x 9) (.x 7)) (
      .ite (.x 10)
       (.op (.elem 1 (.cell 5 1) (.x 9)) (
       .chk (.lt (.x 11) 0) (
       .op (.bin .add (.c (.v (.string ⟨#[39]⟩))) (.cell 11 0)) (
       .op (.bin .add (.x 12) (.c (.v (.string ⟨#[32]⟩)))) (
       .op (.appS 1 1 (.x 8) (.x 13)) (
       .op (.bin .add (.x 9) (.c (.v (.int .i64 1)))) (
       .jump [(.x 14), (.x 15)])))))))
       (.esc (.jump [(.x 8)])))))) (
    .bind 1 (
     .op (.lenL (.cell 5 2)) (
     .loop [(.c (.sl [])), (.c (.v (.int .i64 0)))] (
      .op (.bin .lss (.x 10) (.x 8)) (
      .ite (.x 11)
       (.bind 9 (
        .op (.elem 7 (.cell 5 2) (.x 10)) (
        .chk (.cells (.x 12) 7) (
        .chk (.cells (.x 12) 7) (
        .bind 1 (
         .ite (.cell 12 1)
          (.op (.call F.impl_typeForm [(.agg [(.cell 12 2), (.cell 12 3), (.cell 12 4), (.cell 12 5)]), (.c (.v (.int .i64 0)))] false) (
          .op (.bin .add (.c (.v (.string ⟨#[32, 111, 102, 32]⟩))) (.x 13)) (
          .op (.bin .add (.cell 12 0) (.x 14)) (
          .jump [(.x 15)]))))
          (.jump [(.cell 12 0)])) (
        .chk (.one (.x 13)) (
        .op (.mkl (.v (.string ⟨#[]⟩)) 1 [(0, (.x 13))]) (
        .op (.app 1 16 (.x 9) (.sl (.x 14))) (
        .jump [(.x 15), (.cell 12 0), (.cell 12 1), (.cell 12 2), (.cell 12 3), (.cell 12 4), (.cell 12 5), (.cell 12 6), (.x 14)])))))))) (
       .op (.bin .add (.x 10) (.c (.v (.int .i64 1)))) (
       .jump [(.x 12), (.x 21)])))
       (.esc (.jump [(.x 9)])))))) (
    .op (.bin .add (.cell 5 0) (.c (.v (.string ⟨#[32, 61, 32]⟩)))) (
    .op (.call F.strings_Join [(.sl (.x 8)), (.c (.v (.string ⟨#[32, 124, 32]⟩)))] true) (
    .op (.bin .add (.x 9) (.x 10)) (
    .op (.bin .add (.x 11) (.c (.v (.string ⟨#[59, 10]⟩)))) (
    .op (.appS 1 1 (.x 7) (.x 12)) (
    .jump [(.x 13), (.cell 5 0), (.cell 5 1), (.cell 5 2), (.cell 5 3), (.x 8)])))))))))))) (
   .op (.bin .add (.x 3) (.c (.v (.int .i64 1)))) (
   .jump [(.x 5), (.x 11)])))
   (.esc (.jump [(.x 2)])))))) (
.op (.pu .b2s [(.sl (.x 1))]) (
.ret [(.x 2)]))
theorem T.impl_typesForm_l : leftF Tryz.prog CF Tryz.f26 = some (1, T.impl_typesForm) := by kernel_rfl
theorem T.impl_typesForm_con {args : List AV} {res : AV} (hl : args.length = 1) (hn : AV.norefs args = true) (hw : wpT Tryz.prog (fun _ _ _ => False) (fun a => a = res) T.impl_typesForm args []) : PCon Tryz.prog F.impl_typesForm args res :=
  con_auto Tryz.func26 T.impl_typesForm_l hl hn hw
def T.impl_expForm : T :=
.chk (.cells (.x 0) 7) (
.bind 0 (
 .op (.bin .eql (.cell 0 0) (.c (.v (.int .i64 1)))) (
 .ite (.x 2)
  (.op (.call F.strconv_Itoa [(.cell 0 2)] false) (
  .esc (.ret [(.x 3)])))
  (.op (.bin .eql (.cell 0 0) (.c (.v (.int .i64 2)))) (
  .ite (.x 3)
   (.op (.call F.impl_quoted [(.cell 0 3)] false) (
   .esc (.ret [(.x 4)])))
   (.op (.bin .eql (.cell 0 0) (.c (.v (.int .i64 3)))) (
   .ite (.x 4)
    (.op (.call F.impl_boolWord [(.cell 0 2)] false) (
    .esc (.ret [(.x 5)])))
    (.op (.bin .eql (.cell 0 0) (.c (.v (.int .i64 4)))) (
    .ite (.x 5)
     (.esc (.ret [(.c (.v (.string ⟨#[40, 41]⟩)))]))
     (.op (.bin .eql (.cell 0 0) (.c (.v (.int .i64 5)))) (
     .ite (.x 6)
      (.esc (.ret [(.cell 0 1)]))
      (.op (.bin .eql (.cell 0 0) (.c (.v (.int .i64 7)))) (
      .ite (.x 7)
       (.op (.call F.impl_forms_impl_Exp [(.cell 0 5), (.c (.v (.int .i64 0))), (.c (.v (.string ⟨#[44, 32]⟩))), (.c (.fn F.impl_expForm []))] false) (
       .op (.bin .add (.c (.v (.string ⟨#[40]⟩))) (.x 8)) (
       .op (.bin .add (.x 9) (.c (.v (.string ⟨#[41]⟩)))) (
       .esc (.ret [(.x 10)])))))
       (.op (.bin .eql (.cell 0 0) (.c (.v (.int .i64 14)))) (
       .ite (.x 8)
        (.op (.call F.impl_opLevels [(.cell 0 1)] false) (
        .chk (.tup (.x 9) 0) (
        .chk (.tup (.x 9) 1) (
        .chk (.tup (.x 9) 2) (
        .op (.elem 7 (.cell 0 5) (.c (.v (.int .i64 0)))) (
        .chk (.cells (.x 10) 7) (
        .op (.call F.impl_expForm [(.x 10), (.ext 9 1)] true) (
        .op (.bin .add (.x 11) (.c (.v (.string ⟨#[32]⟩)))) (
        .op (.bin .add (.x 12) (.cell 0 1)) (
        .op (.bin .add (.x 13) (.c (.v (.string ⟨#[32]⟩)))) (
        .op (.elem 7 (.cell 0 5) (.c (.v (.int .i64 1)))) (
        .chk (.cells (.x 15) 7) (
        .op (.call F.impl_expForm [(.x 15), (.ext 9 2)] true) (
        .op (.bin .add (.x 14) (.x 16)) (
        .op (.call F.impl_bracketed [(.x 17), (.ext 9 0), (.x 1)] true) (
        .esc (.ret [(.x 18)])))))))))))))))))
        (.bind 1 (
         .op (.bin .eql (.cell 0 0) (.c (.v (.int .i64 6)))) (
         .ite (.x 9)
          (.jump [(.x 9)])
          (.op (.bin .eql (.cell 0 0) (.c (.v (.int .i64 15)))) (
          .jump [(.x 10)])))) (
        .ite (.x 9)
         (.op (.lenL (.cell 0 5)) (
         .op (.bin .eql (.x 10) (.c (.v (.int .i64 0)))) (
         .ite (.x 11)
          (.esc (.ret [(.cell 0 1)]))
          (.op (.bin .add (.cell 0 1) (.c (.v (.string ⟨#[32]⟩)))) (
          .op (.elem 7 (.cell 0 5) (.c (.v (.int .i64 0)))) (
          .chk (.cells (.x 13) 7) (
          .op (.call F.impl_expForm [(.x 13), (.c (.v (.int .i64 6)))] true) (
          .op (.bin .add (.x 12) (.x 14)) (
          .op (.call F.impl_bracketed [(.x 15), (.c (.v (.int .i64 5))), (.x 1)] true) (
          .esc (.ret [(.x 16)])))))))))))
         (.op (.bin .eql (.cell 0 0) (.c (.v (.int .i64 9)))) (
         .ite (.x 10)
          (.op (.elem 7 (.cell 0 5) (.c (.v (.int .i64 0)))) (
          .chk (.cells (.x 11) 7) (
          .op (.call F.impl_expForm [(.x 11), (.c (.v (.int .i64 5)))] false) (
          .bind 1 (
           .bind 1 (
            .op (.elem 7 (.cell 0 5) (.c (.v (.int .i64 0)))) (
            .chk (.lt (.x 13) 0) (
            .op (.bin .eql (.cell 13 0) (.c (.v (.int .i64 6)))) (
            .ite (.x 14)
             (.op (.elem 7 (.cell 0 5) (.c (.v (.int .i64 0)))) (
             .chk (.lt (.x 15) 5) (
             .op (.lenL (.cell 15 5)) (
             .op (.bin .eql (.x 16) (.c (.v (.int .i64 0)))) (
             .jump [(.x 17)])))))
             (.jump [(.c (.v (.bool false)))]))))) (
           .ite (.x 13)
            (.op (.bin .add (.c (.v (.string ⟨#[40]⟩))) (.x 12)) (
            .op (.bin .add (.x 14) (.c (.v (.string ⟨#[41]⟩)))) (
            .jump [(.x 15)])))
            (.jump [(.x 12)]))) (
          .op (.bin .add (.x 13) (.c (.v (.string ⟨#[32]⟩)))) (
          .op (.elem 7 (.cell 0 5) (.c (.v (.int .i64 1)))) (
          .chk (.cells (.x 15) 7) (
          .op (.call F.impl_expForm [(.x 15), (.c (.v (.int .i64 6)))] false) (
          .op (.bin .add (.x 14) (.x 16)) (
          .op (.call F.impl_bracketed [(.x 17), (.c (.v (.int .i64 5))), (.x 1)] false) (
          .esc (.ret [(.x 18)]))))))))))))
          (.jump []))))))))))))))))))) (
.chk (.cells (.x 0) 7) (
.op (.call F.impl_openForm [(.x 0)] false) (
.op (.call F.impl_bracketed [(.x 2), (.c (.v (.int .i64 0))), (.x 1)] false) (
.ret [(.x 3)])))))
theorem T.impl_expForm_l : leftF Tryz.prog CF Tryz.f27 = some (2, T.impl_expForm) := by kernel_rfl
theorem T.impl_expForm_con {args : List AV} {res : AV} (hl : args.length = 2) (hn : AV.norefs args = true) (hw : wpT Tryz.prog (fun _ _ _ => False) (fun a => a = res) T.impl_expForm args []) : PCon Tryz.prog F.impl_expForm args res :=
  con_auto Tryz.func27 T.impl_expForm_l hl hn hw
def T.spec_l1Str : T :=
.op (.lenL (.x 3)) (
.op (.scall F.spec_l1Below G.spec_l1Below [(.x 0), (.x 1), (.x 2), (.x 4)]) (
.op (.elem 1 (.x 3) (.ext 5 0)) (
.chk (.lt (.x 6) 0) (
.ret [(.cell 6 0), (.ext 5 1), (.ext 5 2), (.ext 5 3)]))))
theorem T.spec_l1Str_l : leftS Tryz.prog CF G.spec_l1Str Tryz.f28 = some T.spec_l1Str := by kernel_rfl
theorem T.spec_l1Str_scon {ins outs : List AV} (hl : ins.length = 4) (ho : outs.length = 4) (hn : AV.norefs ins = true) (hw : wpT Tryz.prog (fun _ _ _ => False) (fun a => a = packR outs) T.spec_l1Str ins []) : SCon Tryz.prog F.spec_l1Str G.spec_l1Str ins outs :=
  scon_auto Tryz.func28 T.spec_l1Str_l hl hn ho hw
def T.spec_l1Once : T :=
.op (.scall F.spec_l1Below G.spec_l1Below [(.x 0), (.x 1), (.x 2), (.x 3)]) (
.op (.bin .eql (.ext 4 0) (.c (.v (.int .i64 0)))) (
.ret [(.x 5), (.ext 4 1), (.ext 4 2), (.ext 4 3)]))
theorem T.spec_l1Once_l : leftS Tryz.prog CF G.spec_l1Once Tryz.f29 = some T.spec_l1Once := by kernel_rfl
theorem T.spec_l1Once_scon {ins outs : List AV} (hl : ins.length = 4) (ho : outs.length = 4) (hn : AV.norefs ins = true) (hw : wpT Tryz.prog (fun _ _ _ => False) (fun a => a = packR outs) T.spec_l1Once ins []) : SCon Tryz.prog F.spec_l1Once G.spec_l1Once ins outs :=
  scon_auto Tryz.func29 T.spec_l1Once_l hl hn ho hw
def T.spec_l2DrawUp : T :=
.chk (.one (.c (.v (.string ⟨#[78, 105, 108]⟩)))) (
.chk (.one (.c (.v (.string ⟨#[67, 111, 110, 115]⟩)))) (
.chk (.one (.c (.v (.string ⟨#[65]⟩)))) (
.chk (.one (.c (.v (.string ⟨#[66]⟩)))) (
.chk (.one (.c (.v (.string ⟨#[83, 111, 109, 101]⟩)))) (
.op (.mkl (.v (.string ⟨#[]⟩)) 5 [(0, (.c (.v (.string ⟨#[78, 105, 108]⟩)))), (1, (.c (.v (.string ⟨#[67, 111, 110, 115]⟩)))), (2, (.c (.v (.string ⟨#[65]⟩)))), (3, (.c (.v (.string ⟨#[66]⟩)))), (4, (.c (.v (.string ⟨#[83, 111, 109, 101]⟩))))]) (
.op (.scall F.spec_l1Str G.spec_l1Str [(.x 0), (.x 1), (.x 2), (.sl (.x 3))]) (
.ret [(.ext 4 0), (.ext 4 1), (.ext 4 2), (.ext 4 3)])))))))
theorem T.spec_l2DrawUp_l : leftS Tryz.prog CF G.spec_l2DrawUp Tryz.f30 = some T.spec_l2DrawUp := by kernel_rfl
theorem T.spec_l2DrawUp_scon {ins outs : List AV} (hl : ins.length = 3) (ho : outs.length = 4) (hn : AV.norefs ins = true) (hw : wpT Tryz.prog (fun _ _ _ => False) (fun a => a = packR outs) T.spec_l2DrawUp ins []) : SCon Tryz.prog F.spec_l2DrawUp G.spec_l2DrawUp ins outs :=
  scon_auto Tryz.func30 T.spec_l2DrawUp_l hl hn ho hw
def T.spec_l2DrawType : T :=
.chk (.one (.c (.v (.string ⟨#[105, 110, 116]⟩)))) (
.chk (.one (.c (.v (.string ⟨#[98, 111, 111, 108]⟩)))) (
.chk (.one (.c (.v (.string ⟨#[117, 110, 105, 116]⟩)))) (
.chk (.one (.c (.v (.string ⟨#[115, 116, 114]⟩)))) (
.chk (.one (.c (.v (.string ⟨#[116]⟩)))) (
.op (.mkl (.v (.string ⟨#[]⟩)) 5 [(0, (.c (.v (.string ⟨#[105, 110, 116]⟩)))), (1, (.c (.v (.string ⟨#[98, 111, 111, 108]⟩)))), (2, (.c (.v (.string ⟨#[117, 110, 105, 116]⟩)))), (3, (.c (.v (.string ⟨#[115, 116, 114]⟩)))), (4, (.c (.v (.string ⟨#[116]⟩))))]) (
.op (.scall F.spec_l1Str G.spec_l1Str [(.x 0), (.x 1), (.x 2), (.sl (.x 4))]) (
.chk (.one (.c (.v (.int .i64 1)))) (
.chk (.one (.ext 5 0)) (
.chk (.cells (.agg [(.c (.v (.int .i64 1))), (.ext 5 0), (.c (.v (.int .i64 0))), (.c .nils)]) 4) (
.op (.bin .leq (.x 3) (.c (.v (.int .i64 0)))) (
.ite (.x 6)
 (.op (.scall F.spec_l1Once G.spec_l1Once [(.ext 5 1), (.ext 5 2), (.ext 5 3), (.c (.v (.int .i64 3)))]) (
 .ite (.ext 7 0)
  (.chk (.one (.c (.v (.int .i64 2)))) (
  .chk (.one (.c (.v (.string ⟨#[97]⟩)))) (
  .chk (.cells (.agg [(.c (.v (.int .i64 2))), (.c (.v (.string ⟨#[97]⟩))), (.c (.v (.int .i64 0))), (.c .nils)]) 4) (
  .ret [(.agg [(.c (.v (.int .i64 2))), (.c (.v (.string ⟨#[97]⟩))), (.c (.v (.int .i64 0))), (.c .nils)]), (.ext 7 1), (.ext 7 2), (.ext 7 3)]))))
  (.chk (.cells (.agg [(.c (.v (.int .i64 1))), (.ext 5 0), (.c (.v (.int .i64 0))), (.c .nils)]) 4) (
  .ret [(.agg [(.c (.v (.int .i64 1))), (.ext 5 0), (.c (.v (.int .i64 0))), (.c .nils)]), (.ext 7 1), (.ext 7 2), (.ext 7 3)]))))
 (.bind 6 (
  .op (.scall F.spec_l1Below G.spec_l1Below [(.ext 5 1), (.ext 5 2), (.ext 5 3), (.c (.v (.int .i64 6)))]) (
  .op (.bin .eql (.ext 7 0) (.c (.v (.int .i64 0)))) (
  .ite (.x 8)
   (.chk (.one (.c (.v (.int .i64 3)))) (
   .chk (.cells (.agg [(.c (.v (.int .i64 3))), (.c (.v (.string ⟨#[]⟩))), (.c (.v (.int .i64 0))), (.c .nils)]) 4) (
   .jump [(.ext 7 1), (.ext 7 2), (.ext 7 3), (.c (.v (.int .i64 3))), (.c (.v (.string ⟨#[]⟩))), (.c (.v (.int .i64 2)))])))
   (.op (.bin .eql (.ext 7 0) (.c (.v (.int .i64 1)))) (
   .ite (.x 9)
    (.chk (.one (.c (.v (.int .i64 4)))) (
    .chk (.cells (.agg [(.c (.v (.int .i64 4))), (.c (.v (.string ⟨#[]⟩))), (.c (.v (.int .i64 0))), (.c .nils)]) 4) (
    .op (.scall F.spec_l1Below G.spec_l1Below [(.ext 7 1), (.ext 7 2), (.ext 7 3), (.c (.v (.int .i64 2)))]) (
    .op (.bin .add (.c (.v (.int .i64 2))) (.ext 10 0)) (
    .jump [(.ext 10 1), (.ext 10 2), (.ext 10 3), (.c (.v (.int .i64 4))), (.c (.v (.string ⟨#[]⟩))), (.x 11)])))))
    (.op (.bin .eql (.ext 7 0) (.c (.v (.int .i64 2)))) (
    .ite (.x 10)
     (.chk (.one (.c (.v (.int .i64 5)))) (
     .chk (.cells (.agg [(.c (.v (.int .i64 5))), (.c (.v (.string ⟨#[]⟩))), (.c (.v (.int .i64 0))), (.c .nils)]) 4) (
     .jump [(.ext 7 1), (.ext 7 2), (.ext 7 3), (.c (.v (.int .i64 5))), (.c (.v (.string ⟨#[]⟩))), (.c (.v (.int .i64 1)))])))
     (.op (.bin .eql (.ext 7 0) (.c (.v (.int .i64 3)))) (
     .ite (.x 11)
      (.chk (.one (.c (.v (.string ⟨#[116]⟩)))) (
      .jump [(.ext 7 1), (.ext 7 2), (.ext 7 3), (.c (.v (.int .i64 1))), (.c (.v (.string ⟨#[116]⟩))), (.c (.v (.int .i64 1)))]))
      (.op (.scall F.spec_l2DrawType G.spec_l2DrawType [(.ext 7 1), (.ext 7 2), (.ext 7 3), (.c (.v (.int .i64 0)))]) (
      .op (.val (.ext 12 0)) (
      .chk (.cells (.x 13) 4) (
      .esc (.ret [(.agg [(.cell 13 0), (.cell 13 1), (.cell 13 2), (.cell 13 3)]), (.ext 12 1), (.ext 12 2), (.ext 12 3)])))))))))))))) (
 .bind 4 (
  .loop [(.x 7), (.x 8), (.x 9), (.c (.sl [])), (.c (.v (.int .i64 0)))] (
   .op (.bin .lss (.x 17) (.x 12)) (
   .ite (.x 18)
    (.op (.bin .sub (.x 3) (.c (.v (.int .i64 1)))) (
    .op (.scall F.spec_l2DrawType G.spec_l2DrawType [(.x 13), (.x 14), (.x 15), (.x 19)]) (
    .chk (.cells (.ext 20 0) 4) (
    .op (.mkl (.agg [(.v (.int .i64 0)), (.v (.string ⟨#[]⟩)), (.v (.int .i64 0)), .nils]) 1 [(0, (.ext 20 0))]) (
    .op (.app 4 56 (.x 16) (.x 21)) (
    .op (.bin .add (.x 17) (.c (.v (.int .i64 1)))) (
    .jump [(.ext 20 1), (.ext 20 2), (.ext 20 3), (.x 22), (.x 23)])))))))
    (.esc (.jump [(.x 13), (.x 14), (.x 15), (.x 16)]))))) (
 .chk (.one (.x 10)) (
 .chk (.one (.x 11)) (
 .chk (.one (.c (.v (.int .i64 0)))) (
 .ret [(.agg [(.x 10), (.x 11), (.c (.v (.int .i64 0))), (.sl (.x 16))]), (.x 13), (.x 14), (.x 15)])))))))))))))))))
theorem T.spec_l2DrawType_l : leftS Tryz.prog CF G.spec_l2DrawType Tryz.f31 = some T.spec_l2DrawType := by kernel_rfl
theorem T.spec_l2DrawType_scon {ins outs : List AV} (hl : ins.length = 4) (ho : outs.length = 4) (hn : AV.norefs ins = true) (hw : wpT Tryz.prog (fun _ _ _ => False) (fun a => a = packR outs) T.spec_l2DrawType ins []) : SCon Tryz.prog F.spec_l2DrawType G.spec_l2DrawType ins outs :=
  scon_auto Tryz.func31 T.spec_l2DrawType_l hl hn ho hw
def T.spec_l2DrawExp : T :=
.bind 3 (
 .bind 4 (
  .op (.bin .leq (.x 3) (.c (.v (.int .i64 0)))) (
  .ite (.x 4)
   (.jump [(.x 0), (.x 1), (.x 2), (.c (.v (.bool true)))])
   (.op (.scall F.spec_l1Once G.spec_l1Once [(.x 0), (.x 1), (.x 2), (.c (.v (.int .i64 6)))]) (
   .jump [(.ext 5 1), (.ext 5 2), (.ext 5 3), (.ext 5 0)])))) (
 .ite (.x 7)
  (.op (.scall F.spec_l2DrawLeaf G.spec_l2DrawLeaf [(.x 4), (.x 5), (.x 6)]) (
  .op (.val (.ext 8 0)) (
  .chk (.cells (.x 9) 7) (
  .esc (.ret [(.agg [(.cell 9 0), (.cell 9 1), (.cell 9 2), (.cell 9 3), (.cell 9 4), (.cell 9 5), (.cell 9 6)]), (.ext 8 1), (.ext 8 2), (.ext 8 3)])))))
  (.jump [(.x 4), (.x 5), (.x 6)]))) (
.op (.scall F.spec_l1Below G.spec_l1Below [(.x 4), (.x 5), (.x 6), (.c (.v (.int .i64 10)))]) (
.op (.bin .add (.c (.v (.int .i64 6))) (.ext 7 0)) (
.op (.scall F.spec_l1Below G.spec_l1Below [(.ext 7 1), (.ext 7 2), (.ext 7 3), (.c (.v (.int .i64 9)))]) (
.chk (.one (.x 8)) (
.chk (.one (.ext 9 0)) (
.chk (.cells (.agg [(.x 8), (.c (.v (.string ⟨#[]⟩))), (.c (.v (.int .i64 0))), (.c (.v (.string ⟨#[]⟩))), (.ext 9 0), (.c .nils), (.c .nils)]) 7) (
.bind 7 (
 .op (.bin .eql (.x 8) (.c (.v (.int .i64 6)))) (
 .ite (.x 10)
  (.op (.scall F.spec_l2DrawUp G.spec_l2DrawUp [(.ext 9 1), (.ext 9 2), (.ext 9 3)]) (
  .chk (.one (.ext 11 0)) (
  .op (.scall F.spec_l1Below G.spec_l1Below [(.ext 11 1), (.ext 11 2), (.ext 11 3), (.c (.v (.int .i64 2)))]) (
  .jump [(.ext 12 1), (.ext 12 2), (.ext 12 3), (.ext 11 0), (.c (.v (.string ⟨#[]⟩))), (.c (.sl [])), (.ext 12 0)]))))
  (.op (.bin .eql (.x 8) (.c (.v (.int .i64 7)))) (
  .ite (.x 11)
   (.op (.scall F.spec_l1Below G.spec_l1Below [(.ext 9 1), (.ext 9 2), (.ext 9 3), (.c (.v (.int .i64 2)))]) (
   .op (.bin .add (.c (.v (.int .i64 2))) (.ext 12 0)) (
   .jump [(.ext 12 1), (.ext 12 2), (.ext 12 3), (.c (.v (.string ⟨#[]⟩))), (.c (.v (.string ⟨#[]⟩))), (.c (.sl [])), (.x 13)])))
   (.op (.bin .eql (.x 8) (.c (.v (.int .i64 8)))) (
   .ite (.x 12)
    (.op (.scall F.spec_l2DrawName G.spec_l2DrawName [(.ext 9 1), (.ext 9 2), (.ext 9 3)]) (
    .chk (.one (.ext 13 0)) (
    .jump [(.ext 13 1), (.ext 13 2), (.ext 13 3), (.ext 13 0), (.c (.v (.string ⟨#[]⟩))), (.c (.sl [])), (.c (.v (.int .i64 1)))])))
    (.op (.bin .eql (.x 8) (.c (.v (.int .i64 10)))) (
    .ite (.x 13)
     (.op (.scall F.spec_l2DrawName G.spec_l2DrawName [(.ext 9 1), (.ext 9 2), (.ext 9 3)]) (
     .chk (.one (.ext 14 0)) (
     .jump [(.ext 14 1), (.ext 14 2), (.ext 14 3), (.ext 14 0), (.c (.v (.string ⟨#[]⟩))), (.c (.sl [])), (.c (.v (.int .i64 2)))])))
     (.op (.bin .eql (.x 8) (.c (.v (.int .i64 11)))) (
     .ite (.x 14)
      (.op (.scall F.spec_l2DrawName G.spec_l2DrawName [(.ext 9 1), (.ext 9 2), (.ext 9 3)]) (
      .chk (.one (.ext 15 0)) (
      .op (.scall F.spec_l2DrawName G.spec_l2DrawName [(.ext 15 1), (.ext 15 2), (.ext 15 3)]) (
      .chk (.one (.ext 16 0)) (
      .jump [(.ext 16 1), (.ext 16 2), (.ext 16 3), (.ext 15 0), (.ext 16 0), (.c (.sl [])), (.c (.v (.int .i64 2)))])))))
      (.op (.bin .eql (.x 8) (.c (.v (.int .i64 12)))) (
      .ite (.x 15)
       (.jump [(.ext 9 1), (.ext 9 2), (.ext 9 3), (.c (.v (.string ⟨#[]⟩))), (.c (.v (.string ⟨#[]⟩))), (.c (.sl [])), (.c (.v (.int .i64 3)))])
       (.op (.bin .eql (.x 8) (.c (.v (.int .i64 13)))) (
       .ite (.x 16)
        (.op (.scall F.spec_l1Below G.spec_l1Below [(.ext 9 1), (.ext 9 2), (.ext 9 3), (.c (.v (.int .i64 3)))]) (
        .op (.bin .add (.c (.v (.int .i64 1))) (.ext 17 0)) (
        .loop [(.ext 17 1), (.ext 17 2), (.ext 17 3), (.c (.sl [])), (.x 18)] (
         .op (.bin .gtr (.x 23) (.c (.v (.int .i64 0)))) (
         .ite (.x 24)
          (.op (.scall F.spec_l2DrawPat G.spec_l2DrawPat [(.x 19), (.x 20), (.x 21), (.c (.v (.int .i64 2)))]) (
          .op (.bin .sub (.x 3) (.c (.v (.int .i64 1)))) (
          .op (.scall F.spec_l2DrawExp G.spec_l2DrawExp [(.ext 25 1), (.ext 25 2), (.ext 25 3), (.x 26)]) (
          .op (.val (.ext 25 0)) (
          .chk (.cells (.x 28) 5) (
          .op (.val (.ext 27 0)) (
          .chk (.cells (.x 29) 7) (
          .chk (.cells (.agg [(.cell 28 0), (.cell 28 1), (.cell 28 2), (.cell 28 3), (.cell 28 4), (.cell 29 0), (.cell 29 1), (.cell 29 2), (.cell 29 3), (.cell 29 4), (.cell 29 5), (.cell 29 6)]) 12) (
          .op (.mkl (.agg [(.v (.int .i64 0)), (.v (.string ⟨#[]⟩)), (.v (.int .i64 0)), (.v (.int .i64 0)), .nils, (.v (.int .i64 0)), (.v (.string ⟨#[]⟩)), (.v (.int .i64 0)), (.v (.string ⟨#[]⟩)), (.v (.int .i64 0)), .nils, .nils]) 1 [(0, (.agg [(.cell 28 0), (.cell 28 1), (.cell 28 2), (.cell 28 3), (.cell 28 4), (.cell 29 0), (.cell 29 1), (.cell 29 2), (.cell 29 3), (.cell 29 4), (.cell 29 5), (.cell 29 6)]))]) (
          .op (.app 12 168 (.x 22) (.x 30)) (
          .op (.bin .sub (.x 23) (.c (.v (.int .i64 1)))) (
          .jump [(.ext 27 1), (.ext 27 2), (.ext 27 3), (.x 31), (.x 32)]))))))))))))
          (.esc (.jump [(.x 19), (.x 20), (.x 21), (.c (.v (.string ⟨#[]⟩))), (.c (.v (.string ⟨#[]⟩))), (.x 22), (.c (.v (.int .i64 1)))])))))))
        (.op (.bin .eql (.x 8) (.c (.v (.int .i64 14)))) (
        .ite (.x 17)
         (.chk (.one (.c (.v (.string ⟨#[43]⟩)))) (
         .chk (.one (.c (.v (.string ⟨#[45]⟩)))) (
         .chk (.one (.c (.v (.string ⟨#[42]⟩)))) (
         .chk (.one (.c (.v (.string ⟨#[94]⟩)))) (
         .chk (.one (.c (.v (.string ⟨#[61]⟩)))) (
         .chk (.one (.c (.v (.string ⟨#[60]⟩)))) (
         .chk (.one (.c (.v (.string ⟨#[58, 61]⟩)))) (
         .op (.mkl (.v (.string ⟨#[]⟩)) 7 [(0, (.c (.v (.string ⟨#[43]⟩)))), (1, (.c (.v (.string ⟨#[45]⟩)))), (2, (.c (.v (.string ⟨#[42]⟩)))), (3, (.c (.v (.string ⟨#[94]⟩)))), (4, (.c (.v (.string ⟨#[61]⟩)))), (5, (.c (.v (.string ⟨#[60]⟩)))), (6, (.c (.v (.string ⟨#[58, 61]⟩))))]) (
         .op (.scall F.spec_l1Str G.spec_l1Str [(.ext 9 1), (.ext 9 2), (.ext 9 3), (.sl (.x 18))]) (
         .chk (.one (.ext 19 0)) (
         .jump [(.ext 19 1), (.ext 19 2), (.ext 19 3), (.ext 19 0), (.c (.v (.string ⟨#[]⟩))), (.c (.sl [])), (.c (.v (.int .i64 2)))])))))))))))
         (.op (.bin .eql (.x 8) (.c (.v (.int .i64 15)))) (
         .ite (.x 18)
          (.chk (.one (.c (.v (.string ⟨#[112, 114, 105, 110, 116]⟩)))) (
          .chk (.one (.c (.v (.string ⟨#[101, 120, 105, 116]⟩)))) (
          .chk (.one (.c (.v (.string ⟨#[115, 105, 122, 101]⟩)))) (
          .chk (.one (.c (.v (.string ⟨#[114, 101, 102]⟩)))) (
          .chk (.one (.c (.v (.string ⟨#[33]⟩)))) (
          .op (.mkl (.v (.string ⟨#[]⟩)) 5 [(0, (.c (.v (.string ⟨#[112, 114, 105, 110, 116]⟩)))), (1, (.c (.v (.string ⟨#[101, 120, 105, 116]⟩)))), (2, (.c (.v (.string ⟨#[115, 105, 122, 101]⟩)))), (3, (.c (.v (.string ⟨#[114, 101, 102]⟩)))), (4, (.c (.v (.string ⟨#[33]⟩))))]) (
          .op (.scall F.spec_l1Str G.spec_l1Str [(.ext 9 1), (.ext 9 2), (.ext 9 3), (.sl (.x 19))]) (
          .chk (.one (.ext 20 0)) (
          .jump [(.ext 20 1), (.ext 20 2), (.ext 20 3), (.ext 20 0), (.c (.v (.string ⟨#[]⟩))), (.c (.sl [])), (.c (.v (.int .i64 1)))])))))))))
          (.jump [(.ext 9 1), (.ext 9 2), (.ext 9 3), (.c (.v (.string ⟨#[]⟩))), (.c (.v (.string ⟨#[]⟩))), (.c (.sl [])), (.c (.v (.int .i64 2)))]))))))))))))))))))) (
.op (.scall F.spec_l2DrawExps G.spec_l2DrawExps [(.x 10), (.x 11), (.x 12), (.x 3), (.x 16)]) (
.chk (.one (.ext 17 0)) (
.chk (.one (.x 8)) (
.chk (.one (.x 13)) (
.chk (.one (.c (.v (.int .i64 0)))) (
.chk (.one (.x 14)) (
.chk (.one (.ext 9 0)) (
.chk (.one (.ext 17 0)) (
.ret [(.agg [(.x 8), (.x 13), (.c (.v (.int .i64 0))), (.x 14), (.ext 9 0), (.ext 17 0), (.sl (.x 15))]), (.ext 17 1), (.ext 17 2), (.ext 17 3)]))))))))))))))))
theorem T.spec_l2DrawExp_l : leftS Tryz.prog CF G.spec_l2DrawExp Tryz.f32 = some T.spec_l2DrawExp := by kernel_rfl
theorem T.spec_l2DrawExp_scon {ins outs : List AV} (hl : ins.length = 4) (ho : outs.length = 4) (hn : AV.norefs ins = true) (hw : wpT Tryz.prog (fun _ _ _ => False) (fun a => a = packR outs) T.spec_l2DrawExp ins []) : SCon Tryz.prog F.spec_l2DrawExp G.spec_l2DrawExp ins outs :=
  scon_auto Tryz.func32 T.spec_l2DrawExp_l hl hn ho hw
def T.spec_l1Byte : T :=
.op (.bin .mul (.x 2) (.c (.v (.int .i64 6364136223846793005)))) (
.op (.bin .add (.x 3) (.c (.v (.int .i64 1442695040888963407)))) (
.chk (.one (.x 4)) (
.op (.bin .shr (.x 4) (.c (.v (.int .u64 33)))) (
.op (.bin .shr (.x 4) (.c (.v (.int .u64 47)))) (
.op (.bin .xor (.x 5) (.x 6)) (
.op (.bin .and (.x 7) (.c (.v (.int .i64 255)))) (
.bind 2 (
 .op (.lenL (.x 0)) (
 .op (.bin .lss (.x 1) (.x 9)) (
 .ite (.x 10)
  (.op (.elem 1 (.x 0) (.x 1)) (
  .chk (.lt (.x 11) 0) (
  .op (.conv .i64 (.cell 11 0)) (
  .op (.bin .add (.x 8) (.x 12)) (
  .op (.bin .and (.x 13) (.c (.v (.int .i64 255)))) (
  .op (.bin .add (.x 1) (.c (.v (.int .i64 1)))) (
  .chk (.one (.x 15)) (
  .jump [(.x 15), (.x 14)]))))))))
  (.jump [(.x 1), (.x 8)])))) (
.ret [(.x 10), (.x 0), (.x 9), (.x 4)]))))))))
theorem T.spec_l1Byte_l : leftS Tryz.prog CF G.spec_l1Byte Tryz.f33 = some T.spec_l1Byte := by kernel_rfl
theorem T.spec_l1Byte_scon {ins outs : List AV} (hl : ins.length = 3) (ho : outs.length = 4) (hn : AV.norefs ins = true) (hw : wpT Tryz.prog (fun _ _ _ => False) (fun a => a = packR outs) T.spec_l1Byte ins []) : SCon Tryz.prog F.spec_l1Byte G.spec_l1Byte ins outs :=
  scon_auto Tryz.func33 T.spec_l1Byte_l hl hn ho hw
def T.impl_headOk : T :=
.chk (.cells (.x 0) 7) (
.op (.lenL (.cell 0 5)) (
.op (.bin .eql (.x 1) (.c (.v (.int .i64 0)))) (
.op (.bin .eql (.cell 0 1) (.c (.v (.string ⟨#[]⟩)))) (
.op (.bin .eql (.cell 0 2) (.c (.v (.int .i64 0)))) (
.op (.bin .eql (.cell 0 3) (.c (.v (.string ⟨#[]⟩)))) (
.bind 4 (
 .op (.bin .eql (.cell 0 0) (.c (.v (.int .i64 1)))) (
 .ite (.x 6)
  (.op (.bin .geq (.cell 0 2) (.c (.v (.int .i64 0)))) (
  .jump [(.x 2), (.x 3), (.x 7), (.x 5)]))
  (.op (.bin .eql (.cell 0 0) (.c (.v (.int .i64 2)))) (
  .ite (.x 7)
   (.op (.call F.impl_plain [(.cell 0 3)] false) (
   .jump [(.x 2), (.x 3), (.x 4), (.x 8)]))
   (.op (.bin .eql (.cell 0 0) (.c (.v (.int .i64 3)))) (
   .ite (.x 8)
    (.op (.call F.impl_within [(.cell 0 2), (.c (.v (.int .i64 0))), (.c (.v (.int .i64 1)))] false) (
    .jump [(.x 2), (.x 3), (.x 9), (.x 5)]))
    (.op (.bin .eql (.cell 0 0) (.c (.v (.int .i64 4)))) (
    .ite (.x 9)
     (.jump [(.x 2), (.x 3), (.x 4), (.x 5)])
     (.op (.bin .eql (.cell 0 0) (.c (.v (.int .i64 5)))) (
     .ite (.x 10)
      (.op (.call F.impl_lowOk [(.cell 0 1)] false) (
      .jump [(.x 2), (.x 11), (.x 4), (.x 5)]))
      (.op (.bin .eql (.cell 0 0) (.c (.v (.int .i64 6)))) (
      .ite (.x 11)
       (.op (.lenL (.cell 0 5)) (
       .op (.bin .leq (.x 12) (.c (.v (.int .i64 1)))) (
       .op (.call F.impl_upOk [(.cell 0 1)] true) (
       .jump [(.x 13), (.x 14), (.x 4), (.x 5)]))))
       (.op (.bin .eql (.cell 0 0) (.c (.v (.int .i64 7)))) (
       .ite (.x 12)
        (.op (.lenL (.cell 0 5)) (
        .op (.bin .geq (.x 13) (.c (.v (.int .i64 2)))) (
        .jump [(.x 14), (.x 3), (.x 4), (.x 5)])))
        (.op (.bin .eql (.cell 0 0) (.c (.v (.int .i64 8)))) (
        .ite (.x 13)
         (.op (.lenL (.cell 0 5)) (
         .op (.bin .eql (.x 14) (.c (.v (.int .i64 1)))) (
         .op (.call F.impl_lowOk [(.cell 0 1)] true) (
         .jump [(.x 15), (.x 16), (.x 4), (.x 5)]))))
         (.op (.bin .eql (.cell 0 0) (.c (.v (.int .i64 9)))) (
         .ite (.x 14)
          (.op (.lenL (.cell 0 5)) (
          .op (.bin .eql (.x 15) (.c (.v (.int .i64 2)))) (
          .jump [(.x 16), (.x 3), (.x 4), (.x 5)])))
          (.op (.bin .eql (.cell 0 0) (.c (.v (.int .i64 10)))) (
          .ite (.x 15)
           (.op (.lenL (.cell 0 5)) (
           .op (.bin .eql (.x 16) (.c (.v (.int .i64 2)))) (
           .op (.call F.impl_lowOk [(.cell 0 1)] true) (
           .jump [(.x 17), (.x 18), (.x 4), (.x 5)]))))
           (.op (.bin .eql (.cell 0 0) (.c (.v (.int .i64 11)))) (
           .ite (.x 16)
            (.op (.lenL (.cell 0 5)) (
            .op (.bin .eql (.x 17) (.c (.v (.int .i64 2)))) (
            .op (.call F.impl_lowOk [(.cell 0 1)] true) (
            .op (.call F.impl_lowOk [(.cell 0 3)] true) (
            .jump [(.x 18), (.x 19), (.x 4), (.x 20)])))))
            (.op (.bin .eql (.cell 0 0) (.c (.v (.int .i64 12)))) (
            .ite (.x 17)
             (.op (.lenL (.cell 0 5)) (
             .op (.bin .eql (.x 18) (.c (.v (.int .i64 3)))) (
             .jump [(.x 19), (.x 3), (.x 4), (.x 5)])))
             (.op (.bin .eql (.cell 0 0) (.c (.v (.int .i64 13)))) (
             .ite (.x 18)
              (.op (.lenL (.cell 0 5)) (
              .op (.bin .eql (.x 19) (.c (.v (.int .i64 1)))) (
              .jump [(.x 20), (.x 3), (.x 4), (.x 5)])))
              (.op (.bin .eql (.cell 0 0) (.c (.v (.int .i64 14)))) (
              .ite (.x 19)
               (.op (.lenL (.cell 0 5)) (
               .op (.bin .eql (.x 20) (.c (.v (.int .i64 2)))) (
               .op (.call F.impl_binarySign [(.cell 0 1)] true) (
               .jump [(.x 21), (.x 22), (.x 4), (.x 5)]))))
               (.op (.bin .eql (.cell 0 0) (.c (.v (.int .i64 15)))) (
               .ite (.x 20)
                (.op (.lenL (.cell 0 5)) (
                .op (.call F.impl_primArity [(.cell 0 1)] true) (
                .op (.bin .eql (.x 21) (.x 22)) (
                .jump [(.x 23), (.c (.v (.bool true))), (.x 4), (.x 5)]))))
                (.esc (.ret [(.c (.v (.bool false)))])))))))))))))))))))))))))))))))) (
.bind 1 (
 .ite (.x 6)
  (.ite (.x 7)
   (.ite (.x 8)
    (.ite (.x 9)
     (.op (.bin .geq (.cell 0 4) (.c (.v (.int .i64 0)))) (
     .ite (.x 10)
      (.op (.bin .eql (.cell 0 0) (.c (.v (.int .i64 13)))) (
      .op (.lenL (.cell 0 6)) (
      .op (.bin .gtr (.x 12) (.c (.v (.int .i64 0)))) (
      .op (.beq false (.x 11) (.x 13)) (
      .jump [(.x 14)])))))
      (.jump [(.c (.v (.bool false)))])))
     (.jump [(.c (.v (.bool false)))]))
    (.jump [(.c (.v (.bool false)))]))
   (.jump [(.c (.v (.bool false)))]))
  (.jump [(.c (.v (.bool false)))])) (
.ret [(.x 10)]))))))))
theorem T.impl_headOk_l : leftF Tryz.prog CF Tryz.f34 = some (1, T.impl_headOk) := by kernel_rfl
theorem T.impl_headOk_con {args : List AV} {res : AV} (hl : args.length = 1) (hn : AV.norefs args = true) (hw : wpT Tryz.prog (fun _ _ _ => False) (fun a => a = res) T.impl_headOk args []) : PCon Tryz.prog F.impl_headOk args res :=
  con_auto Tryz.func34 T.impl_headOk_l hl hn hw
def T.impl_patOk : T :=
.chk (.cells (.x 0) 5) (
.op (.lenL (.cell 0 4)) (
.op (.bin .eql (.x 1) (.c (.v (.int .i64 0)))) (
.op (.bin .eql (.cell 0 1) (.c (.v (.string ⟨#[]⟩)))) (
.op (.bin .eql (.cell 0 2) (.c (.v (.int .i64 0)))) (
.bind 3 (
 .bind 1 (
  .op (.bin .eql (.cell 0 0) (.c (.v (.int .i64 1)))) (
  .ite (.x 5)
   (.jump [(.x 5)])
   (.op (.bin .eql (.cell 0 0) (.c (.v (.int .i64 5)))) (
   .jump [(.x 6)])))) (
 .ite (.x 5)
  (.jump [(.x 2), (.x 3), (.x 4)])
  (.op (.bin .eql (.cell 0 0) (.c (.v (.int .i64 2)))) (
  .ite (.x 6)
   (.op (.call F.impl_lowOk [(.cell 0 1)] false) (
   .jump [(.x 2), (.x 7), (.x 4)]))
   (.op (.bin .eql (.cell 0 0) (.c (.v (.int .i64 3)))) (
   .ite (.x 7)
    (.op (.bin .geq (.cell 0 2) (.c (.v (.int .i64 0)))) (
    .jump [(.x 2), (.x 3), (.x 8)]))
    (.op (.bin .eql (.cell 0 0) (.c (.v (.int .i64 4)))) (
    .ite (.x 8)
     (.op (.call F.impl_within [(.cell 0 2), (.c (.v (.int .i64 0))), (.c (.v (.int .i64 1)))] false) (
     .jump [(.x 2), (.x 3), (.x 9)]))
     (.op (.bin .eql (.cell 0 0) (.c (.v (.int .i64 6)))) (
     .ite (.x 9)
      (.op (.lenL (.cell 0 4)) (
      .op (.bin .geq (.x 10) (.c (.v (.int .i64 2)))) (
      .jump [(.x 11), (.x 3), (.x 4)])))
      (.op (.bin .eql (.cell 0 0) (.c (.v (.int .i64 7)))) (
      .ite (.x 10)
       (.op (.lenL (.cell 0 4)) (
       .op (.bin .leq (.x 11) (.c (.v (.int .i64 1)))) (
       .op (.call F.impl_upOk [(.cell 0 1)] true) (
       .jump [(.x 12), (.x 13), (.x 4)]))))
       (.esc (.ret [(.c (.v (.bool false)))])))))))))))))) (
.bind 1 (
 .ite (.x 5)
  (.ite (.x 6)
   (.ite (.x 7)
    (.op (.bin .geq (.cell 0 3) (.c (.v (.int .i64 0)))) (
    .ite (.x 8)
     (.op (.call F.slices_ContainsFunc__impl_Pat_impl_Pat [(.cell 0 4), (.c (.fn F.impl_patOk_1 []))] false) (
     .op (.un .not (.x 9)) (
     .jump [(.x 10)])))
     (.jump [(.c (.v (.bool false)))])))
    (.jump [(.c (.v (.bool false)))]))
   (.jump [(.c (.v (.bool false)))]))
  (.jump [(.c (.v (.bool false)))])) (
.ret [(.x 8)])))))))
theorem T.impl_patOk_l : leftF Tryz.prog CF Tryz.f35 = some (1, T.impl_patOk) := by kernel_rfl
theorem T.impl_patOk_con {args : List AV} {res : AV} (hl : args.length = 1) (hn : AV.norefs args = true) (hw : wpT Tryz.prog (fun _ _ _ => False) (fun a => a = res) T.impl_patOk args []) : PCon Tryz.prog F.impl_patOk args res :=
  con_auto Tryz.func35 T.impl_patOk_l hl hn hw
def T.slices_IndexFunc__impl_Data_impl_Data : T :=
.bind 0 (
 .op (.lenL (.x 0)) (
 .loop [(.c (.v (.int .i64 0)))] (
  .op (.bin .lss (.x 3) (.x 2)) (
  .ite (.x 4)
   (.op (.elem 4 (.x 0) (.x 3)) (
   .chk (.cells (.x 5) 4) (
   .op (.callv (.x 1) [(.x 5)] false) (
   .ite (.x 6)
    (.esc (.esc (.ret [(.x 3)])))
    (.op (.bin .add (.x 3) (.c (.v (.int .i64 1)))) (
    .jump [(.x 7)]))))))
   (.esc (.jump [])))))) (
.ret [(.c (.v (.int .i64 (-1))))])
theorem T.slices_IndexFunc__impl_Data_impl_Data_l : leftF Tryz.prog CF Tryz.f36 = some (2, T.slices_IndexFunc__impl_Data_impl_Data) := by kernel_rfl
theorem T.slices_IndexFunc__impl_Data_impl_Data_con {args : List AV} {res : AV} (hl : args.length = 2) (hn : AV.norefs args = true) (hw : wpT Tryz.prog (fun _ _ _ => False) (fun a => a = res) T.slices_IndexFunc__impl_Data_impl_Data args []) : PCon Tryz.prog F.slices_IndexFunc__impl_Data_impl_Data args res :=
  con_auto Tryz.func36 T.slices_IndexFunc__impl_Data_impl_Data_l hl hn hw
def T.impl_upOk : T :=
.op (.call F.impl_isName [(.x 0), (.c (.fn F.impl_great []))] false) (
.ret [(.x 1)])
theorem T.impl_upOk_l : leftF Tryz.prog CF Tryz.f37 = some (1, T.impl_upOk) := by kernel_rfl
theorem T.impl_upOk_con {args : List AV} {res : AV} (hl : args.length = 1) (hn : AV.norefs args = true) (hw : wpT Tryz.prog (fun _ _ _ => False) (fun a => a = res) T.impl_upOk args []) : PCon Tryz.prog F.impl_upOk args res :=
  con_auto Tryz.func37 T.impl_upOk_l hl hn hw
def T.impl_typeOk : T :=
.chk (.cells (.x 0) 4) (
.op (.bin .eql (.cell 0 1) (.c (.v (.string ⟨#[]⟩)))) (
.bind 2 (
 .op (.bin .eql (.cell 0 0) (.c (.v (.int .i64 1)))) (
 .ite (.x 2)
  (.op (.call F.impl_lowOk [(.cell 0 1)] false) (
  .jump [(.c (.v (.bool true))), (.x 3)]))
  (.op (.bin .eql (.cell 0 0) (.c (.v (.int .i64 2)))) (
  .ite (.x 3)
   (.op (.lenL (.cell 0 3)) (
   .op (.bin .eql (.x 4) (.c (.v (.int .i64 0)))) (
   .op (.call F.impl_isName [(.cell 0 1), (.c (.fn F.impl_small []))] true) (
   .jump [(.x 5), (.x 6)]))))
   (.op (.bin .eql (.cell 0 0) (.c (.v (.int .i64 3)))) (
   .ite (.x 4)
    (.op (.lenL (.cell 0 3)) (
    .op (.bin .eql (.x 5) (.c (.v (.int .i64 2)))) (
    .jump [(.x 6), (.x 1)])))
    (.op (.bin .eql (.cell 0 0) (.c (.v (.int .i64 4)))) (
    .ite (.x 5)
     (.op (.lenL (.cell 0 3)) (
     .op (.bin .geq (.x 6) (.c (.v (.int .i64 2)))) (
     .jump [(.x 7), (.x 1)])))
     (.op (.bin .eql (.cell 0 0) (.c (.v (.int .i64 5)))) (
     .ite (.x 6)
      (.op (.lenL (.cell 0 3)) (
      .op (.bin .eql (.x 7) (.c (.v (.int .i64 1)))) (
      .jump [(.x 8), (.x 1)])))
      (.jump [(.c (.v (.bool false))), (.x 1)]))))))))))) (
.bind 1 (
 .ite (.x 2)
  (.ite (.x 3)
   (.op (.bin .geq (.cell 0 2) (.c (.v (.int .i64 0)))) (
   .ite (.x 4)
    (.op (.call F.slices_ContainsFunc__impl_TypeExp_impl_TypeExp [(.cell 0 3), (.c (.fn F.impl_typeOk_1 []))] false) (
    .op (.un .not (.x 5)) (
    .jump [(.x 6)])))
    (.jump [(.c (.v (.bool false)))])))
   (.jump [(.c (.v (.bool false)))]))
  (.jump [(.c (.v (.bool false)))])) (
.ret [(.x 4)]))))
theorem T.impl_typeOk_l : leftF Tryz.prog CF Tryz.f38 = some (1, T.impl_typeOk) := by kernel_rfl
theorem T.impl_typeOk_con {args : List AV} {res : AV} (hl : args.length = 1) (hn : AV.norefs args = true) (hw : wpT Tryz.prog (fun _ _ _ => False) (fun a => a = res) T.impl_typeOk args []) : PCon Tryz.prog F.impl_typeOk args res :=
  con_auto Tryz.func38 T.impl_typeOk_l hl hn hw
def T.impl_emptyType : T :=
.chk (.cells (.x 0) 4) (
.bind 1 (
 .op (.bin .eql (.cell 0 0) (.c (.v (.int .i64 0)))) (
 .ite (.x 1)
  (.op (.bin .eql (.cell 0 1) (.c (.v (.string ⟨#[]⟩)))) (
  .ite (.x 2)
   (.op (.bin .eql (.cell 0 2) (.c (.v (.int .i64 0)))) (
   .ite (.x 3)
    (.op (.lenL (.cell 0 3)) (
    .op (.bin .eql (.x 4) (.c (.v (.int .i64 0)))) (
    .jump [(.x 5)])))
    (.jump [(.c (.v (.bool false)))])))
   (.jump [(.c (.v (.bool false)))])))
  (.jump [(.c (.v (.bool false)))]))) (
.ret [(.x 1)]))
theorem T.impl_emptyType_l : leftF Tryz.prog CF Tryz.f39 = some (1, T.impl_emptyType) := by kernel_rfl
theorem T.impl_emptyType_con {args : List AV} {res : AV} (hl : args.length = 1) (hn : AV.norefs args = true) (hw : wpT Tryz.prog (fun _ _ _ => False) (fun a => a = res) T.impl_emptyType args []) : PCon Tryz.prog F.impl_emptyType args res :=
  con_auto Tryz.func39 T.impl_emptyType_l hl hn hw
def T.impl_lowOk : T :=
.bind 1 (
 .op (.call F.impl_isName [(.x 0), (.c (.fn F.impl_small []))] false) (
 .ite (.x 1)
  (.op (.call F.impl_isKey [(.x 0)] false) (
  .op (.un .not (.x 2)) (
  .jump [(.x 3)])))
  (.jump [(.c (.v (.bool false)))]))) (
.ret [(.x 1)])
theorem T.impl_lowOk_l : leftF Tryz.prog CF Tryz.f40 = some (1, T.impl_lowOk) := by kernel_rfl
theorem T.impl_lowOk_con {args : List AV} {res : AV} (hl : args.length = 1) (hn : AV.norefs args = true) (hw : wpT Tryz.prog (fun _ _ _ => False) (fun a => a = res) T.impl_lowOk args []) : PCon Tryz.prog F.impl_lowOk args res :=
  con_auto Tryz.func40 T.impl_lowOk_l hl hn hw
def T.slices_ContainsFunc__string_string : T :=
.op (.call F.slices_IndexFunc__string_string [(.x 0), (.x 1)] false) (
.op (.bin .geq (.x 2) (.c (.v (.int .i64 0)))) (
.ret [(.x 3)]))
theorem T.slices_ContainsFunc__string_string_l : leftF Tryz.prog CF Tryz.f41 = some (2, T.slices_ContainsFunc__string_string) := by kernel_rfl
theorem T.slices_ContainsFunc__string_string_con {args : List AV} {res : AV} (hl : args.length = 2) (hn : AV.norefs args = true) (hw : wpT Tryz.prog (fun _ _ _ => False) (fun a => a = res) T.slices_ContainsFunc__string_string args []) : PCon Tryz.prog F.slices_ContainsFunc__string_string args res :=
  con_auto Tryz.func41 T.slices_ContainsFunc__string_string_l hl hn hw
def T.impl_dataOk_1 : T :=
.op (.call F.impl_isName [(.x 0), (.c (.fn F.impl_small []))] false) (
.op (.un .not (.x 1)) (
.ret [(.x 2)]))
theorem T.impl_dataOk_1_l : leftF Tryz.prog CF Tryz.f42 = some (1, T.impl_dataOk_1) := by kernel_rfl
theorem T.impl_dataOk_1_con {args : List AV} {res : AV} (hl : args.length = 1) (hn : AV.norefs args = true) (hw : wpT Tryz.prog (fun _ _ _ => False) (fun a => a = res) T.impl_dataOk_1 args []) : PCon Tryz.prog F.impl_dataOk_1 args res :=
  con_auto Tryz.func42 T.impl_dataOk_1_l hl hn hw
def T.impl_isName : T :=
.bind 1 (
 .op (.lenS (.x 0)) (
 .op (.call F.impl_within [(.x 2), (.c (.v (.int .i64 1))), (.c (.v (.int .i64 12)))] false) (
 .ite (.x 3)
  (.op (.idxS (.x 0) (.c (.v (.int .i64 0)))) (
  .op (.callv (.x 1) [(.x 4)] false) (
  .ite (.x 5)
   (.op (.call F.impl_run [(.x 0), (.c (.v (.int .i64 0))), (.c (.fn F.impl_nameByte []))] false) (
   .op (.lenS (.x 0)) (
   .op (.bin .eql (.x 6) (.x 7)) (
   .jump [(.x 8)]))))
   (.jump [(.c (.v (.bool false)))]))))
  (.jump [(.c (.v (.bool false)))])))) (
.ret [(.x 2)])
theorem T.impl_isName_l : leftF Tryz.prog CF Tryz.f43 = some (2, T.impl_isName) := by kernel_rfl
theorem T.impl_isName_con {args : List AV} {res : AV} (hl : args.length = 2) (hn : AV.norefs args = true) (hw : wpT Tryz.prog (fun _ _ _ => False) (fun a => a = res) T.impl_isName args []) : PCon Tryz.prog F.impl_isName args res :=
  con_auto Tryz.func43 T.impl_isName_l hl hn hw
def T.impl_small : T :=
.bind 1 (
 .op (.bin .geq (.x 0) (.c (.v (.int .u8 97)))) (
 .ite (.x 1)
  (.op (.bin .leq (.x 0) (.c (.v (.int .u8 122)))) (
  .jump [(.x 2)]))
  (.jump [(.c (.v (.bool false)))]))) (
.ret [(.x 1)])
theorem T.impl_small_l : leftF Tryz.prog CF Tryz.f44 = some (1, T.impl_small) := by kernel_rfl
theorem T.impl_small_con {args : List AV} {res : AV} (hl : args.length = 1) (hn : AV.norefs args = true) (hw : wpT Tryz.prog (fun _ _ _ => False) (fun a => a = res) T.impl_small args []) : PCon Tryz.prog F.impl_small args res :=
  con_auto Tryz.func44 T.impl_small_l hl hn hw
def T.slices_EqualFunc__impl_TypeExp__impl_TypeExp_impl_TypeExp_impl_TypeExp : T :=
.op (.lenL (.x 0)) (
.op (.lenL (.x 1)) (
.op (.bin .neq (.x 3) (.x 4)) (
.ite (.x 5)
 (.ret [(.c (.v (.bool false)))])
 (.bind 0 (
  .op (.lenL (.x 0)) (
  .loop [(.c (.v (.int .i64 0)))] (
   .op (.bin .lss (.x 7) (.x 6)) (
   .ite (.x 8)
    (.op (.elem 4 (.x 0) (.x 7)) (
    .chk (.cells (.x 9) 4) (
    .chk (.cells (.x 9) 4) (
    .op (.elem 4 (.x 1) (.x 7)) (
    .chk (.cells (.x 10) 4) (
    .chk (.cells (.x 10) 4) (
    .chk (.cells (.x 9) 4) (
    .chk (.cells (.x 10) 4) (
    .op (.callv (.x 2) [(.x 9), (.x 10)] false) (
    .op (.un .not (.x 11)) (
    .ite (.x 12)
     (.esc (.esc (.ret [(.c (.v (.bool false)))])))
     (.op (.bin .add (.x 7) (.c (.v (.int .i64 1)))) (
     .jump [(.x 13)])))))))))))))
    (.esc (.jump [])))))) (
 .ret [(.c (.v (.bool true)))])))))
theorem T.slices_EqualFunc__impl_TypeExp__impl_TypeExp_impl_TypeExp_impl_TypeExp_l : leftF Tryz.prog CF Tryz.f45 = some (3, T.slices_EqualFunc__impl_TypeExp__impl_TypeExp_impl_TypeExp_impl_TypeExp) := by kernel_rfl
theorem T.slices_EqualFunc__impl_TypeExp__impl_TypeExp_impl_TypeExp_impl_TypeExp_con {args : List AV} {res : AV} (hl : args.length = 3) (hn : AV.norefs args = true) (hw : wpT Tryz.prog (fun _ _ _ => False) (fun a => a = res) T.slices_EqualFunc__impl_TypeExp__impl_TypeExp_impl_TypeExp_impl_TypeExp args []) : PCon Tryz.prog F.slices_EqualFunc__impl_TypeExp__impl_TypeExp_impl_TypeExp_impl_TypeExp args res :=
  con_auto Tryz.func45 T.slices_EqualFunc__impl_TypeExp__impl_TypeExp_impl_TypeExp_impl_TypeExp_l hl hn hw
def T.impl_sameExp_1 : T :=
.chk (.cells (.x 0) 12) (
.chk (.cells (.x 1) 12) (
.bind 1 (
 .op (.call F.impl_samePat [(.agg [(.cell 0 0), (.cell 0 1), (.cell 0 2), (.cell 0 3), (.cell 0 4)]), (.agg [(.cell 1 0), (.cell 1 1), (.cell 1 2), (.cell 1 3), (.cell 1 4)])] false) (
 .ite (.x 2)
  (.op (.call F.impl_sameExp [(.agg [(.cell 0 5), (.cell 0 6), (.cell 0 7), (.cell 0 8), (.cell 0 9), (.cell 0 10), (.cell 0 11)]), (.agg [(.cell 1 5), (.cell 1 6), (.cell 1 7), (.cell 1 8), (.cell 1 9), (.cell 1 10), (.cell 1 11)])] false) (
  .jump [(.x 3)]))
  (.jump [(.c (.v (.bool false)))]))) (
.ret [(.x 2)])))
theorem T.impl_sameExp_1_l : leftF Tryz.prog CF Tryz.f46 = some (2, T.impl_sameExp_1) := by kernel_rfl
theorem T.impl_sameExp_1_con {args : List AV} {res : AV} (hl : args.length = 2) (hn : AV.norefs args = true) (hw : wpT Tryz.prog (fun _ _ _ => False) (fun a => a = res) T.impl_sameExp_1 args []) : PCon Tryz.prog F.impl_sameExp_1 args res :=
  con_auto Tryz.func46 T.impl_sameExp_1_l hl hn hw
def T.impl_samePat : T :=
.chk (.cells (.x 0) 5) (
.chk (.cells (.x 1) 5) (
.bind 1 (
 .op (.bin .eql (.cell 0 0) (.cell 1 0)) (
 .ite (.x 2)
  (.op (.bin .eql (.cell 0 1) (.cell 1 1)) (
  .ite (.x 3)
   (.op (.bin .eql (.cell 0 2) (.cell 1 2)) (
   .ite (.x 4)
    (.op (.call F.slices_EqualFunc__impl_Pat__impl_Pat_impl_Pat_impl_Pat [(.cell 0 4), (.cell 1 4), (.c (.fn F.impl_samePat []))] false) (
    .jump [(.x 5)]))
    (.jump [(.c (.v (.bool false)))])))
   (.jump [(.c (.v (.bool false)))])))
  (.jump [(.c (.v (.bool false)))]))) (
.ret [(.x 2)])))
theorem T.impl_samePat_l : leftF Tryz.prog CF Tryz.f47 = some (2, T.impl_samePat) := by kernel_rfl
theorem T.impl_samePat_con {args : List AV} {res : AV} (hl : args.length = 2) (hn : AV.norefs args = true) (hw : wpT Tryz.prog (fun _ _ _ => False) (fun a => a = res) T.impl_samePat args []) : PCon Tryz.prog F.impl_samePat args res :=
  con_auto Tryz.func47 T.impl_samePat_l hl hn hw
def T.slices_EqualFunc__impl_Exp__impl_Exp_impl_Exp_impl_Exp : T :=
.op (.lenL (.x 0)) (
.op (.lenL (.x 1)) (
.op (.bin .neq (.x 3) (.x 4)) (
.ite (.x 5)
 (.ret [(.c (.v (.bool false)))])
 (.bind 0 (
  .op (.lenL (.x 0)) (
  .loop [(.c (.v (.int .i64 0)))] (
   .op (.bin .lss (.x 7) (.x 6)) (
   .ite (.x 8)
    (.op (.elem 7 (.x 0) (.x 7)) (
    .chk (.cells (.x 9) 7) (
    .chk (.cells (.x 9) 7) (
    .op (.elem 7 (.x 1) (.x 7)) (
    .chk (.cells (.x 10) 7) (
    .chk (.cells (.x 10) 7) (
    .chk (.cells (.x 9) 7) (
    .chk (.cells (.x 10) 7) (
    .op (.callv (.x 2) [(.x 9), (.x 10)] false) (
    .op (.un .not (.x 11)) (
    .ite (.x 12)
     (.esc (.esc (.ret [(.c (.v (.bool false)))])))
     (.op (.bin .add (.x 7) (.c (.v (.int .i64 1)))) (
     .jump [(.x 13)])))))))))))))
    (.esc (.jump [])))))) (
 .ret [(.c (.v (.bool true)))])))))
theorem T.slices_EqualFunc__impl_Exp__impl_Exp_impl_Exp_impl_Exp_l : leftF Tryz.prog CF Tryz.f48 = some (3, T.slices_EqualFunc__impl_Exp__impl_Exp_impl_Exp_impl_Exp) := by kernel_rfl
theorem T.slices_EqualFunc__impl_Exp__impl_Exp_impl_Exp_impl_Exp_con {args : List AV} {res : AV} (hl : args.length = 3) (hn : AV.norefs args = true) (hw : wpT Tryz.prog (fun _ _ _ => False) (fun a => a = res) T.slices_EqualFunc__impl_Exp__impl_Exp_impl_Exp_impl_Exp args []) : PCon Tryz.prog F.slices_EqualFunc__impl_Exp__impl_Exp_impl_Exp_impl_Exp args res :=
  con_auto Tryz.func48 T.slices_EqualFunc__impl_Exp__impl_Exp_impl_Exp_impl_Exp_l hl hn hw
def T.slices_EqualFunc__impl_Arm__impl_Arm_impl_Arm_impl_Arm : T :=
.op (.lenL (.x 0)) (
.op (.lenL (.x 1)) (
.op (.bin .neq (.x 3) (.x 4)) (
.ite (.x 5)
 (.ret [(.c (.v (.bool false)))])
 (.bind 0 (
  .op (.lenL (.x 0)) (
  .loop [(.c (.v (.int .i64 0)))] (
   .op (.bin .lss (.x 7) (.x 6)) (
   .ite (.x 8)
    (.op (.elem 12 (.x 0) (.x 7)) (
    .chk (.cells (.x 9) 12) (
    .chk (.cells (.x 9) 12) (
    .op (.elem 12 (.x 1) (.x 7)) (
    .chk (.cells (.x 10) 12) (
    .chk (.cells (.x 10) 12) (
    .chk (.cells (.x 9) 12) (
    .chk (.cells (.x 10) 12) (
    .op (.callv (.x 2) [(.x 9), (.x 10)] false) (
    .op (.un .not (.x 11)) (
    .ite (.x 12)
     (.esc (.esc (.ret [(.c (.v (.bool false)))])))
     (.op (.bin .add (.x 7) (.c (.v (.int .i64 1)))) (
     .jump [(.x 13)])))))))))))))
    (.esc (.jump [])))))) (
 .ret [(.c (.v (.bool true)))])))))
theorem T.slices_EqualFunc__impl_Arm__impl_Arm_impl_Arm_impl_Arm_l : leftF Tryz.prog CF Tryz.f49 = some (3, T.slices_EqualFunc__impl_Arm__impl_Arm_impl_Arm_impl_Arm) := by kernel_rfl
theorem T.slices_EqualFunc__impl_Arm__impl_Arm_impl_Arm_impl_Arm_con {args : List AV} {res : AV} (hl : args.length = 3) (hn : AV.norefs args = true) (hw : wpT Tryz.prog (fun _ _ _ => False) (fun a => a = res) T.slices_EqualFunc__impl_Arm__impl_Arm_impl_Arm_impl_Arm args []) : PCon Tryz.prog F.slices_EqualFunc__impl_Arm__impl_Arm_impl_Arm_impl_Arm args res :=
  con_auto Tryz.func49 T.slices_EqualFunc__impl_Arm__impl_Arm_impl_Arm_impl_Arm_l hl hn hw
def T.impl_typeForm : T :=
.chk (.cells (.x 0) 4) (
.op (.bin .eql (.cell 0 0) (.c (.v (.int .i64 3)))) (
.ite (.x 2)
 (.op (.elem 4 (.cell 0 3) (.c (.v (.int .i64 0)))) (
 .chk (.cells (.x 3) 4) (
 .op (.call F.impl_typeForm [(.x 3), (.c (.v (.int .i64 1)))] true) (
 .op (.bin .add (.x 4) (.c (.v (.string ⟨#[32, 45, 62, 32]⟩)))) (
 .op (.elem 4 (.cell 0 3) (.c (.v (.int .i64 1)))) (
 .chk (.cells (.x 6) 4) (
 .op (.call F.impl_typeForm [(.x 6), (.c (.v (.int .i64 0)))] true) (
 .op (.bin .add (.x 5) (.x 7)) (
 .op (.call F.impl_bracketed [(.x 8), (.c (.v (.int .i64 0))), (.x 1)] true) (
 .ret [(.x 9)]))))))))))
 (.op (.bin .eql (.cell 0 0) (.c (.v (.int .i64 4)))) (
 .ite (.x 3)
  (.op (.call F.impl_forms_impl_TypeExp [(.cell 0 3), (.c (.v (.int .i64 2))), (.c (.v (.string ⟨#[32, 42, 32]⟩))), (.c (.fn F.impl_typeForm []))] false) (
  .op (.call F.impl_bracketed [(.x 4), (.c (.v (.int .i64 1))), (.x 1)] false) (
  .ret [(.x 5)])))
  (.op (.bin .eql (.cell 0 0) (.c (.v (.int .i64 5)))) (
  .ite (.x 4)
   (.op (.elem 4 (.cell 0 3) (.c (.v (.int .i64 0)))) (
   .chk (.cells (.x 5) 4) (
   .op (.call F.impl_typeForm [(.x 5), (.c (.v (.int .i64 3)))] false) (
   .op (.bin .add (.c (.v (.string ⟨#[114, 101, 102, 32]⟩))) (.x 6)) (
   .op (.call F.impl_bracketed [(.x 7), (.c (.v (.int .i64 2))), (.x 1)] false) (
   .ret [(.x 8)]))))))
   (.op (.bin .eql (.cell 0 0) (.c (.v (.int .i64 2)))) (
   .ite (.x 5)
    (.op (.bin .add (.c (.v (.string ⟨#[39]⟩))) (.cell 0 1)) (
    .ret [(.x 6)]))
    (.op (.lenL (.cell 0 3)) (
    .op (.bin .eql (.x 6) (.c (.v (.int .i64 0)))) (
    .ite (.x 7)
     (.ret [(.cell 0 1)])
     (.op (.bin .add (.cell 0 1) (.c (.v (.string ⟨#[32]⟩)))) (
     .op (.call F.impl_forms_impl_TypeExp [(.cell 0 3), (.c (.v (.int .i64 3))), (.c (.v (.string ⟨#[32]⟩))), (.c (.fn F.impl_typeForm []))] true) (
     .op (.bin .add (.x 8) (.x 9)) (
     .op (.call F.impl_bracketed [(.x 10), (.c (.v (.int .i64 2))), (.x 1)] true) (
     .ret [(.x 11)]))))))))))))))))
theorem T.impl_typeForm_l : leftF Tryz.prog CF Tryz.f50 = some (2, T.impl_typeForm) := by kernel_rfl
theorem T.impl_typeForm_con {args : List AV} {res : AV} (hl : args.length = 2) (hn : AV.norefs args = true) (hw : wpT Tryz.prog (fun _ _ _ => False) (fun a => a = res) T.impl_typeForm args []) : PCon Tryz.prog F.impl_typeForm args res :=
  con_auto Tryz.func50 T.impl_typeForm_l hl hn hw
-- strings_Join: no walk
def T.impl_quoted : T :=
.chk (.one (.c (.v (.int .u8 34)))) (
.op (.mkl (.v (.int .u8 0)) 1 [(0, (.c (.v (.int .u8 34))))]) (
.bind 1 (
 .loop [(.x 1), (.c (.v (.int .i64 0)))] (
  .op (.lenS (.x 0)) (
  .op (.bin .lss (.x 3) (.x 4)) (
  .ite (.x 5)
   (.bind 2 (
    .op (.idxS (.x 0) (.x 3)) (
    .op (.bin .eql (.x 6) (.c (.v (.int .u8 10)))) (
    .ite (.x 7)
     (.chk (.one (.c (.v (.int .u8 92)))) (
     .chk (.one (.c (.v (.int .u8 110)))) (
     .op (.mkl (.v (.int .u8 0)) 2 [(0, (.c (.v (.int .u8 92)))), (1, (.c (.v (.int .u8 110))))]) (
     .op (.app 1 1 (.x 2) (.sl (.x 8))) (
     .jump [(.x 9), (.x 8)])))))
     (.bind 1 (
      .op (.bin .eql (.x 6) (.c (.v (.int .u8 34)))) (
      .ite (.x 8)
       (.jump [(.x 8)])
       (.op (.bin .eql (.x 6) (.c (.v (.int .u8 92)))) (
       .jump [(.x 9)])))) (
     .ite (.x 8)
      (.op (.idxS (.x 0) (.x 3)) (
      .chk (.one (.c (.v (.int .u8 92)))) (
      .chk (.one (.x 9)) (
      .op (.mkl (.v (.int .u8 0)) 2 [(0, (.c (.v (.int .u8 92)))), (1, (.x 9))]) (
      .op (.app 1 1 (.x 2) (.sl (.x 10))) (
      .jump [(.x 11), (.x 10)]))))))
      (.op (.idxS (.x 0) (.x 3)) (
      .chk (.one (.x 9)) (
      .op (.mkl (.v (.int .u8 0)) 1 [(0, (.x 9))]) (
      .op (.app 1 1 (.x 2) (.sl (.x 10))) (
      .jump [(.x 11), (.x 10)])))))))))) (
   .op (.bin .add (.x 3) (.c (.v (.int .i64 1)))) (
   .jump [(.x 6), (.x 8)])))
   (.esc (.jump [(.x 2)])))))) (
.chk (.one (.c (.v (.int .u8 34)))) (
.op (.mkl (.v (.int .u8 0)) 1 [(0, (.c (.v (.int .u8 34))))]) (
.op (.app 1 1 (.x 2) (.sl (.x 3))) (
.op (.pu .b2s [(.sl (.x 4))]) (
.ret [(.x 5)])))))))
theorem T.impl_quoted_l : leftF Tryz.prog CF Tryz.f53 = some (1, T.impl_quoted) := by kernel_rfl
theorem T.impl_quoted_con {args : List AV} {res : AV} (hl : args.length = 1) (hn : AV.norefs args = true) (hw : wpT Tryz.prog (fun _ _ _ => False) (fun a => a = res) T.impl_quoted args []) : PCon Tryz.prog F.impl_quoted args res :=
  con_auto Tryz.func53 T.impl_quoted_l hl hn hw
def T.impl_boolWord : T :=
.op (.bin .eql (.x 0) (.c (.v (.int .i64 1)))) (
.ite (.x 1)
 (.ret [(.c (.v (.string ⟨#[116, 114, 117, 101]⟩)))])
 (.ret [(.c (.v (.string ⟨#[102, 97, 108, 115, 101]⟩)))]))
theorem T.impl_boolWord_l : leftF Tryz.prog CF Tryz.f54 = some (1, T.impl_boolWord) := by kernel_rfl
theorem T.impl_boolWord_con {args : List AV} {res : AV} (hl : args.length = 1) (hn : AV.norefs args = true) (hw : wpT Tryz.prog (fun _ _ _ => False) (fun a => a = res) T.impl_boolWord args []) : PCon Tryz.prog F.impl_boolWord args res :=
  con_auto Tryz.func54 T.impl_boolWord_l hl hn hw
def T.impl_forms_impl_Exp : T :=
.bind 1 (
 .op (.lenL (.x 0)) (
 .loop [(.c (.sl [])), (.c (.v (.int .i64 0)))] (
  .op (.bin .lss (.x 6) (.x 4)) (
  .ite (.x 7)
   (.op (.elem 7 (.x 0) (.x 6)) (
   .chk (.cells (.x 8) 7) (
   .chk (.cells (.x 8) 7) (
   .chk (.cells (.x 8) 7) (
   .op (.callv (.x 3) [(.x 8), (.x 1)] false) (
   .chk (.one (.x 9)) (
   .op (.mkl (.v (.string ⟨#[]⟩)) 1 [(0, (.x 9))]) (
   .op (.app 1 16 (.x 5) (.sl (.x 10))) (
   .op (.bin .add (.x 6) (.c (.v (.int .i64 1)))) (
   .jump [(.x 11), (.x 12)]))))))))))
   (.esc (.jump [(.x 5)])))))) (
.op (.call F.strings_Join [(.sl (.x 4)), (.x 2)] true) (
.ret [(.x 5)]))
theorem T.impl_forms_impl_Exp_l : leftF Tryz.prog CF Tryz.f55 = some (4, T.impl_forms_impl_Exp) := by kernel_rfl
theorem T.impl_forms_impl_Exp_con {args : List AV} {res : AV} (hl : args.length = 4) (hn : AV.norefs args = true) (hw : wpT Tryz.prog (fun _ _ _ => False) (fun a => a = res) T.impl_forms_impl_Exp args []) : PCon Tryz.prog F.impl_forms_impl_Exp args res :=
  con_auto Tryz.func55 T.impl_forms_impl_Exp_l hl hn hw
def T.impl_opLevels : T :=
.bind 0 (
 .op (.bin .eql (.x 0) (.c (.v (.string ⟨#[58, 61]⟩)))) (
 .ite (.x 1)
  (.esc (.ret [(.c (.v (.int .i64 1))), (.c (.v (.int .i64 2))), (.c (.v (.int .i64 2)))]))
  (.bind 1 (
   .op (.bin .eql (.x 0) (.c (.v (.string ⟨#[61]⟩)))) (
   .ite (.x 2)
    (.jump [(.x 2)])
    (.op (.bin .eql (.x 0) (.c (.v (.string ⟨#[60]⟩)))) (
    .jump [(.x 3)])))) (
  .ite (.x 2)
   (.esc (.ret [(.c (.v (.int .i64 2))), (.c (.v (.int .i64 3))), (.c (.v (.int .i64 3)))]))
   (.op (.bin .eql (.x 0) (.c (.v (.string ⟨#[42]⟩)))) (
   .ite (.x 3)
    (.esc (.ret [(.c (.v (.int .i64 4))), (.c (.v (.int .i64 4))), (.c (.v (.int .i64 5)))]))
    (.jump []))))))) (
.ret [(.c (.v (.int .i64 3))), (.c (.v (.int .i64 3))), (.c (.v (.int .i64 4)))])
theorem T.impl_opLevels_l : leftF Tryz.prog CF Tryz.f56 = some (1, T.impl_opLevels) := by kernel_rfl
theorem T.impl_opLevels_con {args : List AV} {res : AV} (hl : args.length = 1) (hn : AV.norefs args = true) (hw : wpT Tryz.prog (fun _ _ _ => False) (fun a => a = res) T.impl_opLevels args []) : PCon Tryz.prog F.impl_opLevels args res :=
  con_auto Tryz.func56 T.impl_opLevels_l hl hn hw
def T.impl_bracketed : T :=
.op (.bin .lss (.x 1) (.x 2)) (
.ite (.x 3)
 (.op (.bin .add (.c (.v (.string ⟨#[40]⟩))) (.x 0)) (
 .op (.bin .add (.x 4) (.c (.v (.string ⟨#[41]⟩)))) (
 .ret [(.x 5)])))
 (.ret [(.x 0)]))
theorem T.impl_bracketed_l : leftF Tryz.prog CF Tryz.f57 = some (3, T.impl_bracketed) := by kernel_rfl
theorem T.impl_bracketed_con {args : List AV} {res : AV} (hl : args.length = 3) (hn : AV.norefs args = true) (hw : wpT Tryz.prog (fun _ _ _ => False) (fun a => a = res) T.impl_bracketed args []) : PCon Tryz.prog F.impl_bracketed args res :=
  con_auto Tryz.func57 T.impl_bracketed_l hl hn hw
def T.impl_openForm : T :=
.chk (.cells (.x 0) 7) (
.op (.bin .eql (.cell 0 0) (.c (.v (.int .i64 10)))) (
.ite (.x 1)
 (.op (.bin .add (.c (.v (.string ⟨#[108, 101, 116, 32]⟩))) (.cell 0 1)) (
 .op (.bin .add (.x 2) (.c (.v (.string ⟨#[32, 61, 32]⟩)))) (
 .op (.call F.impl_openForm_1 [(.c (.v (.int .i64 0))), (.ip (.agg [(.cell 0 0), (.cell 0 1), (.cell 0 2), (.cell 0 3), (.cell 0 4), (.cell 0 5), (.cell 0 6)]) 0)] false) (
 .op (.bin .add (.x 3) (.x 4)) (
 .op (.bin .add (.x 5) (.c (.v (.string ⟨#[32, 105, 110, 32]⟩)))) (
 .op (.call F.impl_openForm_1 [(.c (.v (.int .i64 1))), (.ip (.agg [(.cell 0 0), (.cell 0 1), (.cell 0 2), (.cell 0 3), (.cell 0 4), (.cell 0 5), (.cell 0 6)]) 0)] false) (
 .op (.bin .add (.x 6) (.x 7)) (
 .ret [(.x 8)]))))))))
 (.op (.bin .eql (.cell 0 0) (.c (.v (.int .i64 11)))) (
 .ite (.x 2)
  (.op (.bin .add (.c (.v (.string ⟨#[108, 101, 116, 32, 114, 101, 99, 32]⟩))) (.cell 0 1)) (
  .op (.bin .add (.x 3) (.c (.v (.string ⟨#[32]⟩)))) (
  .op (.bin .add (.x 4) (.cell 0 3)) (
  .op (.bin .add (.x 5) (.c (.v (.string ⟨#[32, 61, 32]⟩)))) (
  .op (.call F.impl_openForm_1 [(.c (.v (.int .i64 0))), (.ip (.agg [(.cell 0 0), (.cell 0 1), (.cell 0 2), (.cell 0 3), (.cell 0 4), (.cell 0 5), (.cell 0 6)]) 0)] false) (
  .op (.bin .add (.x 6) (.x 7)) (
  .op (.bin .add (.x 8) (.c (.v (.string ⟨#[32, 105, 110, 32]⟩)))) (
  .op (.call F.impl_openForm_1 [(.c (.v (.int .i64 1))), (.ip (.agg [(.cell 0 0), (.cell 0 1), (.cell 0 2), (.cell 0 3), (.cell 0 4), (.cell 0 5), (.cell 0 6)]) 0)] false) (
  .op (.bin .add (.x 9) (.x 10)) (
  .ret [(.x 11)]))))))))))
  (.op (.bin .eql (.cell 0 0) (.c (.v (.int .i64 8)))) (
  .ite (.x 3)
   (.op (.bin .add (.c (.v (.string ⟨#[102, 117, 110, 32]⟩))) (.cell 0 1)) (
   .op (.bin .add (.x 4) (.c (.v (.string ⟨#[32, 45, 62, 32]⟩)))) (
   .op (.call F.impl_openForm_1 [(.c (.v (.int .i64 0))), (.ip (.agg [(.cell 0 0), (.cell 0 1), (.cell 0 2), (.cell 0 3), (.cell 0 4), (.cell 0 5), (.cell 0 6)]) 0)] false) (
   .op (.bin .add (.x 5) (.x 6)) (
   .ret [(.x 7)])))))
   (.op (.bin .eql (.cell 0 0) (.c (.v (.int .i64 12)))) (
   .ite (.x 4)
    (.op (.call F.impl_openForm_1 [(.c (.v (.int .i64 0))), (.ip (.agg [(.cell 0 0), (.cell 0 1), (.cell 0 2), (.cell 0 3), (.cell 0 4), (.cell 0 5), (.cell 0 6)]) 0)] false) (
    .op (.bin .add (.c (.v (.string ⟨#[105, 102, 32]⟩))) (.x 5)) (
    .op (.bin .add (.x 6) (.c (.v (.string ⟨#[32, 116, 104, 101, 110, 32]⟩)))) (
    .op (.call F.impl_openForm_1 [(.c (.v (.int .i64 1))), (.ip (.agg [(.cell 0 0), (.cell 0 1), (.cell 0 2), (.cell 0 3), (.cell 0 4), (.cell 0 5), (.cell 0 6)]) 0)] false) (
    .op (.bin .add (.x 7) (.x 8)) (
    .op (.bin .add (.x 9) (.c (.v (.string ⟨#[32, 101, 108, 115, 101, 32]⟩)))) (
    .op (.call F.impl_openForm_1 [(.c (.v (.int .i64 2))), (.ip (.agg [(.cell 0 0), (.cell 0 1), (.cell 0 2), (.cell 0 3), (.cell 0 4), (.cell 0 5), (.cell 0 6)]) 0)] false) (
    .op (.bin .add (.x 10) (.x 11)) (
    .ret [(.x 12)])))))))))
    (.op (.call F.impl_openForm_1 [(.c (.v (.int .i64 0))), (.ip (.agg [(.cell 0 0), (.cell 0 1), (.cell 0 2), (.cell 0 3), (.cell 0 4), (.cell 0 5), (.cell 0 6)]) 0)] false) (
    .op (.bin .add (.c (.v (.string ⟨#[109, 97, 116, 99, 104, 32]⟩))) (.x 5)) (
    .op (.bin .add (.x 6) (.c (.v (.string ⟨#[32, 119, 105, 116, 104]⟩)))) (
    .bind 1 (
     .op (.lenL (.cell 0 6)) (
     .loop [(.x 7), (.c (.v (.int .i64 0)))] (
      .op (.bin .lss (.x 10) (.x 8)) (
      .ite (.x 11)
       (.op (.elem 12 (.cell 0 6) (.x 10)) (
       .chk (.cells (.x 12) 12) (
       .chk (.cells (.x 12) 12) (
       .op (.call F.impl_patForm [(.agg [(.cell 12 0), (.cell 12 1), (.cell 12 2), (.cell 12 3), (.cell 12 4)]), (.c (.v (.int .i64 0)))] true) (
       .op (.bin .add (.c (.v (.string ⟨#[32, 124, 32]⟩))) (.x 13)) (
       .op (.bin .add (.x 14) (.c (.v (.string ⟨#[32, 45, 62, 32]⟩)))) (
       .op (.call F.impl_expForm [(.agg [(.cell 12 5), (.cell 12 6), (.cell 12 7), (.cell 12 8), (.cell 12 9), (.cell 12 10), (.cell 12 11)]), (.c (.v (.int .i64 0)))] true) (
       .op (.bin .add (.x 15) (.x 16)) (
       .op (.bin .add (.x 9) (.x 17)) (
       .op (.bin .add (.x 10) (.c (.v (.int .i64 1)))) (
       .jump [(.x 18), (.x 19)])))))))))))
       (.esc (.jump [(.x 9)])))))) (
    .op (.bin .add (.x 8) (.c (.v (.string ⟨#[32, 101, 110, 100]⟩)))) (
    .ret [(.x 9)]))))))))))))))
theorem T.impl_openForm_l : leftF Tryz.prog CF Tryz.f58 = some (1, T.impl_openForm) := by kernel_rfl
theorem T.impl_openForm_con {args : List AV} {res : AV} (hl : args.length = 1) (hn : AV.norefs args = true) (hw : wpT Tryz.prog (fun _ _ _ => False) (fun a => a = res) T.impl_openForm args []) : PCon Tryz.prog F.impl_openForm args res :=
  con_auto Tryz.func58 T.impl_openForm_l hl hn hw
def T.spec_l2DrawLeaf : T :=
.op (.scall F.spec_l1Below G.spec_l1Below [(.x 0), (.x 1), (.x 2), (.c (.v (.int .i64 6)))]) (
.op (.bin .add (.c (.v (.int .i64 1))) (.ext 3 0)) (
.op (.scall F.spec_l1Below G.spec_l1Below [(.ext 3 1), (.ext 3 2), (.ext 3 3), (.c (.v (.int .i64 9)))]) (
.chk (.one (.x 4)) (
.chk (.one (.ext 5 0)) (
.chk (.cells (.agg [(.x 4), (.c (.v (.string ⟨#[]⟩))), (.c (.v (.int .i64 0))), (.c (.v (.string ⟨#[]⟩))), (.ext 5 0), (.c .nils), (.c .nils)]) 7) (
.bind 6 (
 .op (.bin .eql (.x 4) (.c (.v (.int .i64 1)))) (
 .ite (.x 6)
  (.chk (.one (.c (.v (.int .i64 0)))) (
  .chk (.one (.c (.v (.int .i64 3)))) (
  .chk (.one (.c (.v (.int .i64 17)))) (
  .chk (.one (.c (.v (.int .i64 9223372036854775807)))) (
  .op (.mkl (.v (.int .i64 0)) 4 [(0, (.c (.v (.int .i64 0)))), (1, (.c (.v (.int .i64 3)))), (2, (.c (.v (.int .i64 17)))), (3, (.c (.v (.int .i64 9223372036854775807))))]) (
  .op (.scall F.spec_l1Int G.spec_l1Int [(.ext 5 1), (.ext 5 2), (.ext 5 3), (.sl (.x 7))]) (
  .chk (.one (.ext 8 0)) (
  .jump [(.ext 8 1), (.ext 8 2), (.ext 8 3), (.c (.v (.string ⟨#[]⟩))), (.ext 8 0), (.c (.v (.string ⟨#[]⟩)))]))))))))
  (.op (.bin .eql (.x 4) (.c (.v (.int .i64 2)))) (
  .ite (.x 7)
   (.chk (.one (.c (.v (.string ⟨#[]⟩)))) (
   .chk (.one (.c (.v (.string ⟨#[104, 105]⟩)))) (
   .chk (.one (.c (.v (.string ⟨#[97, 34, 98]⟩)))) (
   .chk (.one (.c (.v (.string ⟨#[10]⟩)))) (
   .op (.mkl (.v (.string ⟨#[]⟩)) 4 [(0, (.c (.v (.string ⟨#[]⟩)))), (1, (.c (.v (.string ⟨#[104, 105]⟩)))), (2, (.c (.v (.string ⟨#[97, 34, 98]⟩)))), (3, (.c (.v (.string ⟨#[10]⟩))))]) (
   .op (.scall F.spec_l1Str G.spec_l1Str [(.ext 5 1), (.ext 5 2), (.ext 5 3), (.sl (.x 8))]) (
   .chk (.one (.ext 9 0)) (
   .jump [(.ext 9 1), (.ext 9 2), (.ext 9 3), (.c (.v (.string ⟨#[]⟩))), (.c (.v (.int .i64 0))), (.ext 9 0)]))))))))
   (.op (.bin .eql (.x 4) (.c (.v (.int .i64 3)))) (
   .ite (.x 8)
    (.op (.scall F.spec_l1Below G.spec_l1Below [(.ext 5 1), (.ext 5 2), (.ext 5 3), (.c (.v (.int .i64 2)))]) (
    .chk (.one (.ext 9 0)) (
    .jump [(.ext 9 1), (.ext 9 2), (.ext 9 3), (.c (.v (.string ⟨#[]⟩))), (.ext 9 0), (.c (.v (.string ⟨#[]⟩)))])))
    (.op (.bin .eql (.x 4) (.c (.v (.int .i64 5)))) (
    .ite (.x 9)
     (.op (.scall F.spec_l2DrawName G.spec_l2DrawName [(.ext 5 1), (.ext 5 2), (.ext 5 3)]) (
     .chk (.one (.ext 10 0)) (
     .jump [(.ext 10 1), (.ext 10 2), (.ext 10 3), (.ext 10 0), (.c (.v (.int .i64 0))), (.c (.v (.string ⟨#[]⟩)))])))
     (.op (.bin .eql (.x 4) (.c (.v (.int .i64 6)))) (
     .ite (.x 10)
      (.op (.scall F.spec_l2DrawUp G.spec_l2DrawUp [(.ext 5 1), (.ext 5 2), (.ext 5 3)]) (
      .chk (.one (.ext 11 0)) (
      .jump [(.ext 11 1), (.ext 11 2), (.ext 11 3), (.ext 11 0), (.c (.v (.int .i64 0))), (.c (.v (.string ⟨#[]⟩)))])))
      (.jump [(.ext 5 1), (.ext 5 2), (.ext 5 3), (.c (.v (.string ⟨#[]⟩))), (.c (.v (.int .i64 0))), (.c (.v (.string ⟨#[]⟩)))]))))))))))) (
.bind 8 (
 .op (.scall F.spec_l1Once G.spec_l1Once [(.x 6), (.x 7), (.x 8), (.c (.v (.int .i64 8)))]) (
 .ite (.ext 12 0)
  (.chk (.one (.c (.v (.int .i64 15)))) (
  .chk (.one (.c (.v (.string ⟨#[114, 101, 97, 100]⟩)))) (
  .chk (.cells (.agg [(.c (.v (.int .i64 15))), (.c (.v (.string ⟨#[114, 101, 97, 100]⟩))), (.c (.v (.int .i64 0))), (.c (.v (.string ⟨#[]⟩))), (.c (.v (.int .i64 0))), (.c .nils), (.c .nils)]) 7) (
  .jump [(.ext 12 1), (.ext 12 2), (.ext 12 3), (.c (.v (.int .i64 15))), (.c (.v (.string ⟨#[114, 101, 97, 100]⟩))), (.c (.v (.int .i64 0))), (.c (.v (.string ⟨#[]⟩))), (.c (.v (.int .i64 0)))]))))
  (.jump [(.ext 12 1), (.ext 12 2), (.ext 12 3), (.x 4), (.x 9), (.x 10), (.x 11), (.ext 5 0)]))) (
.chk (.cells (.agg [(.x 15), (.x 16), (.x 17), (.x 18), (.x 19), (.c .nils), (.c .nils)]) 7) (
.ret [(.agg [(.x 15), (.x 16), (.x 17), (.x 18), (.x 19), (.c .nils), (.c .nils)]), (.x 12), (.x 13), (.x 14)])))))))))
theorem T.spec_l2DrawLeaf_l : leftS Tryz.prog CF G.spec_l2DrawLeaf Tryz.f59 = some T.spec_l2DrawLeaf := by kernel_rfl
theorem T.spec_l2DrawLeaf_scon {ins outs : List AV} (hl : ins.length = 3) (ho : outs.length = 4) (hn : AV.norefs ins = true) (hw : wpT Tryz.prog (fun _ _ _ => False) (fun a => a = packR outs) T.spec_l2DrawLeaf ins []) : SCon Tryz.prog F.spec_l2DrawLeaf G.spec_l2DrawLeaf ins outs :=
  scon_auto Tryz.func59 T.spec_l2DrawLeaf_l hl hn ho hw
def T.spec_l2DrawName : T :=
.chk (.one (.c (.v (.string ⟨#[120]⟩)))) (
.chk (.one (.c (.v (.string ⟨#[121]⟩)))) (
.chk (.one (.c (.v (.string ⟨#[102]⟩)))) (
.chk (.one (.c (.v (.string ⟨#[103]⟩)))) (
.chk (.one (.c (.v (.string ⟨#[110]⟩)))) (
.chk (.one (.c (.v (.string ⟨#[120, 115]⟩)))) (
.op (.mkl (.v (.string ⟨#[]⟩)) 6 [(0, (.c (.v (.string ⟨#[120]⟩)))), (1, (.c (.v (.string ⟨#[121]⟩)))), (2, (.c (.v (.string ⟨#[102]⟩)))), (3, (.c (.v (.string ⟨#[103]⟩)))), (4, (.c (.v (.string ⟨#[110]⟩)))), (5, (.c (.v (.string ⟨#[120, 115]⟩))))]) (
.op (.scall F.spec_l1Str G.spec_l1Str [(.x 0), (.x 1), (.x 2), (.sl (.x 3))]) (
.ret [(.ext 4 0), (.ext 4 1), (.ext 4 2), (.ext 4 3)]))))))))
theorem T.spec_l2DrawName_l : leftS Tryz.prog CF G.spec_l2DrawName Tryz.f60 = some T.spec_l2DrawName := by kernel_rfl
theorem T.spec_l2DrawName_scon {ins outs : List AV} (hl : ins.length = 3) (ho : outs.length = 4) (hn : AV.norefs ins = true) (hw : wpT Tryz.prog (fun _ _ _ => False) (fun a => a = packR outs) T.spec_l2DrawName ins []) : SCon Tryz.prog F.spec_l2DrawName G.spec_l2DrawName ins outs :=
  scon_auto Tryz.func60 T.spec_l2DrawName_l hl hn ho hw
def T.spec_l2DrawPat : T :=
.op (.scall F.spec_l1Below G.spec_l1Below [(.x 0), (.x 1), (.x 2), (.c (.v (.int .i64 9)))]) (
.op (.bin .leq (.x 3) (.c (.v (.int .i64 0)))) (
.ite (.x 5)
 (.op (.scall F.spec_l1Below G.spec_l1Below [(.ext 4 1), (.ext 4 2), (.ext 4 3), (.c (.v (.int .i64 5)))]) (
 .op (.scall F.spec_l1Below G.spec_l1Below [(.ext 6 1), (.ext 6 2), (.ext 6 3), (.c (.v (.int .i64 9)))]) (
 .chk (.one (.ext 7 0)) (
 .chk (.cells (.agg [(.c (.v (.int .i64 0))), (.c (.v (.string ⟨#[]⟩))), (.c (.v (.int .i64 0))), (.ext 7 0), (.c .nils)]) 5) (
 .op (.bin .eql (.ext 6 0) (.c (.v (.int .i64 0)))) (
 .ite (.x 8)
  (.chk (.one (.c (.v (.int .i64 1)))) (
  .chk (.cells (.agg [(.c (.v (.int .i64 1))), (.c (.v (.string ⟨#[]⟩))), (.c (.v (.int .i64 0))), (.ext 7 0), (.c .nils)]) 5) (
  .ret [(.agg [(.c (.v (.int .i64 1))), (.c (.v (.string ⟨#[]⟩))), (.c (.v (.int .i64 0))), (.ext 7 0), (.c .nils)]), (.ext 7 1), (.ext 7 2), (.ext 7 3)])))
  (.op (.bin .eql (.ext 6 0) (.c (.v (.int .i64 1)))) (
  .ite (.x 9)
   (.chk (.one (.c (.v (.int .i64 2)))) (
   .op (.scall F.spec_l2DrawName G.spec_l2DrawName [(.ext 7 1), (.ext 7 2), (.ext 7 3)]) (
   .chk (.one (.ext 10 0)) (
   .chk (.cells (.agg [(.c (.v (.int .i64 2))), (.ext 10 0), (.c (.v (.int .i64 0))), (.ext 7 0), (.c .nils)]) 5) (
   .ret [(.agg [(.c (.v (.int .i64 2))), (.ext 10 0), (.c (.v (.int .i64 0))), (.ext 7 0), (.c .nils)]), (.ext 10 1), (.ext 10 2), (.ext 10 3)])))))
   (.op (.bin .eql (.ext 6 0) (.c (.v (.int .i64 2)))) (
   .ite (.x 10)
    (.chk (.one (.c (.v (.int .i64 3)))) (
    .op (.scall F.spec_l1Below G.spec_l1Below [(.ext 7 1), (.ext 7 2), (.ext 7 3), (.c (.v (.int .i64 4)))]) (
    .chk (.one (.ext 11 0)) (
    .chk (.cells (.agg [(.c (.v (.int .i64 3))), (.c (.v (.string ⟨#[]⟩))), (.ext 11 0), (.ext 7 0), (.c .nils)]) 5) (
    .ret [(.agg [(.c (.v (.int .i64 3))), (.c (.v (.string ⟨#[]⟩))), (.ext 11 0), (.ext 7 0), (.c .nils)]), (.ext 11 1), (.ext 11 2), (.ext 11 3)])))))
    (.op (.bin .eql (.ext 6 0) (.c (.v (.int .i64 3)))) (
    .ite (.x 11)
     (.chk (.one (.c (.v (.int .i64 4)))) (
     .op (.scall F.spec_l1Below G.spec_l1Below [(.ext 7 1), (.ext 7 2), (.ext 7 3), (.c (.v (.int .i64 2)))]) (
     .chk (.one (.ext 12 0)) (
     .chk (.cells (.agg [(.c (.v (.int .i64 4))), (.c (.v (.string ⟨#[]⟩))), (.ext 12 0), (.ext 7 0), (.c .nils)]) 5) (
     .ret [(.agg [(.c (.v (.int .i64 4))), (.c (.v (.string ⟨#[]⟩))), (.ext 12 0), (.ext 7 0), (.c .nils)]), (.ext 12 1), (.ext 12 2), (.ext 12 3)])))))
     (.op (.bin .eql (.ext 6 0) (.c (.v (.int .i64 4)))) (
     .ite (.x 12)
      (.chk (.one (.c (.v (.int .i64 5)))) (
      .chk (.cells (.agg [(.c (.v (.int .i64 5))), (.c (.v (.string ⟨#[]⟩))), (.c (.v (.int .i64 0))), (.ext 7 0), (.c .nils)]) 5) (
      .ret [(.agg [(.c (.v (.int .i64 5))), (.c (.v (.string ⟨#[]⟩))), (.c (.v (.int .i64 0))), (.ext 7 0), (.c .nils)]), (.ext 7 1), (.ext 7 2), (.ext 7 3)])))
      (.op (.bin .eql (.ext 6 0) (.c (.v (.int .i64 5)))) (
      .ite (.x 13)
       (.chk (.one (.c (.v (.int .i64 7)))) (
       .op (.scall F.spec_l2DrawUp G.spec_l2DrawUp [(.ext 7 1), (.ext 7 2), (.ext 7 3)]) (
       .chk (.one (.ext 14 0)) (
       .chk (.cells (.agg [(.c (.v (.int .i64 7))), (.ext 14 0), (.c (.v (.int .i64 0))), (.ext 7 0), (.c .nils)]) 5) (
       .ret [(.agg [(.c (.v (.int .i64 7))), (.ext 14 0), (.c (.v (.int .i64 0))), (.ext 7 0), (.c .nils)]), (.ext 14 1), (.ext 14 2), (.ext 14 3)])))))
       (.op (.bin .eql (.ext 6 0) (.c (.v (.int .i64 6)))) (
       .ite (.x 14)
        (.chk (.one (.c (.v (.int .i64 7)))) (
        .op (.scall F.spec_l2DrawUp G.spec_l2DrawUp [(.ext 7 1), (.ext 7 2), (.ext 7 3)]) (
        .chk (.one (.ext 15 0)) (
        .op (.bin .sub (.x 3) (.c (.v (.int .i64 1)))) (
        .op (.scall F.spec_l2DrawPat G.spec_l2DrawPat [(.ext 15 1), (.ext 15 2), (.ext 15 3), (.x 16)]) (
        .chk (.cells (.ext 17 0) 5) (
        .op (.mkl (.agg [(.v (.int .i64 0)), (.v (.string ⟨#[]⟩)), (.v (.int .i64 0)), (.v (.int .i64 0)), .nils]) 1 [(0, (.ext 17 0))]) (
        .chk (.one (.c (.v (.int .i64 7)))) (
        .chk (.one (.ext 15 0)) (
        .chk (.one (.c (.v (.int .i64 0)))) (
        .chk (.one (.ext 7 0)) (
        .ret [(.agg [(.c (.v (.int .i64 7))), (.ext 15 0), (.c (.v (.int .i64 0))), (.ext 7 0), (.sl (.x 18))]), (.ext 17 1), (.ext 17 2), (.ext 17 3)]))))))))))))
        (.chk (.one (.c (.v (.int .i64 6)))) (
        .op (.scall F.spec_l1Below G.spec_l1Below [(.ext 7 1), (.ext 7 2), (.ext 7 3), (.c (.v (.int .i64 2)))]) (
        .op (.bin .add (.c (.v (.int .i64 2))) (.ext 15 0)) (
        .loop [(.ext 15 1), (.ext 15 2), (.ext 15 3), (.c (.sl [])), (.x 16)] (
         .op (.bin .gtr (.x 21) (.c (.v (.int .i64 0)))) (
         .ite (.x 22)
          (.op (.bin .sub (.x 3) (.c (.v (.int .i64 1)))) (
          .op (.scall F.spec_l2DrawPat G.spec_l2DrawPat [(.x 17), (.x 18), (.x 19), (.x 23)]) (
          .chk (.cells (.ext 24 0) 5) (
          .op (.mkl (.agg [(.v (.int .i64 0)), (.v (.string ⟨#[]⟩)), (.v (.int .i64 0)), (.v (.int .i64 0)), .nils]) 1 [(0, (.ext 24 0))]) (
          .op (.app 5 64 (.x 20) (.x 25)) (
          .op (.bin .sub (.x 21) (.c (.v (.int .i64 1)))) (
          .jump [(.ext 24 1), (.ext 24 2), (.ext 24 3), (.x 26), (.x 27)])))))))
          (.esc (.chk (.one (.c (.v (.int .i64 6)))) (
          .chk (.one (.c (.v (.string ⟨#[]⟩)))) (
          .chk (.one (.c (.v (.int .i64 0)))) (
          .chk (.one (.ext 7 0)) (
          .ret [(.agg [(.c (.v (.int .i64 6))), (.c (.v (.string ⟨#[]⟩))), (.c (.v (.int .i64 0))), (.ext 7 0), (.sl (.x 20))]), (.x 17), (.x 18), (.x 19)]))))))))))))))))))))))))))))))
 (.op (.scall F.spec_l1Below G.spec_l1Below [(.ext 4 1), (.ext 4 2), (.ext 4 3), (.c (.v (.int .i64 9)))]) (
 .chk (.one (.ext 6 0)) (
 .chk (.cells (.agg [(.c (.v (.int .i64 0))), (.c (.v (.string ⟨#[]⟩))), (.c (.v (.int .i64 0))), (.ext 6 0), (.c .nils)]) 5) (
 .op (.bin .eql (.ext 4 0) (.c (.v (.int .i64 0)))) (
 .ite (.x 7)
  (.chk (.one (.c (.v (.int .i64 1)))) (
  .chk (.cells (.agg [(.c (.v (.int .i64 1))), (.c (.v (.string ⟨#[]⟩))), (.c (.v (.int .i64 0))), (.ext 6 0), (.c .nils)]) 5) (
  .ret [(.agg [(.c (.v (.int .i64 1))), (.c (.v (.string ⟨#[]⟩))), (.c (.v (.int .i64 0))), (.ext 6 0), (.c .nils)]), (.ext 6 1), (.ext 6 2), (.ext 6 3)])))
  (.op (.bin .eql (.ext 4 0) (.c (.v (.int .i64 1)))) (
  .ite (.x 8)
   (.chk (.one (.c (.v (.int .i64 2)))) (
   .op (.scall F.spec_l2DrawName G.spec_l2DrawName [(.ext 6 1), (.ext 6 2), (.ext 6 3)]) (
   .chk (.one (.ext 9 0)) (
   .chk (.cells (.agg [(.c (.v (.int .i64 2))), (.ext 9 0), (.c (.v (.int .i64 0))), (.ext 6 0), (.c .nils)]) 5) (
   .ret [(.agg [(.c (.v (.int .i64 2))), (.ext 9 0), (.c (.v (.int .i64 0))), (.ext 6 0), (.c .nils)]), (.ext 9 1), (.ext 9 2), (.ext 9 3)])))))
   (.op (.bin .eql (.ext 4 0) (.c (.v (.int .i64 2)))) (
   .ite (.x 9)
    (.chk (.one (.c (.v (.int .i64 3)))) (
    .op (.scall F.spec_l1Below G.spec_l1Below [(.ext 6 1), (.ext 6 2), (.ext 6 3), (.c (.v (.int .i64 4)))]) (
    .chk (.one (.ext 10 0)) (
    .chk (.cells (.agg [(.c (.v (.int .i64 3))), (.c (.v (.string ⟨#[]⟩))), (.ext 10 0), (.ext 6 0), (.c .nils)]) 5) (
    .ret [(.agg [(.c (.v (.int .i64 3))), (.c (.v (.string ⟨#[]⟩))), (.ext 10 0), (.ext 6 0), (.c .nils)]), (.ext 10 1), (.ext 10 2), (.ext 10 3)])))))
    (.op (.bin .eql (.ext 4 0) (.c (.v (.int .i64 3)))) (
    .ite (.x 10)
     (.chk (.one (.c (.v (.int .i64 4)))) (
     .op (.scall F.spec_l1Below G.spec_l1Below [(.ext 6 1), (.ext 6 2), (.ext 6 3), (.c (.v (.int .i64 2)))]) (
     .chk (.one (.ext 11 0)) (
     .chk (.cells (.agg [(.c (.v (.int .i64 4))), (.c (.v (.string ⟨#[]⟩))), (.ext 11 0), (.ext 6 0), (.c .nils)]) 5) (
     .ret [(.agg [(.c (.v (.int .i64 4))), (.c (.v (.string ⟨#[]⟩))), (.ext 11 0), (.ext 6 0), (.c .nils)]), (.ext 11 1), (.ext 11 2), (.ext 11 3)])))))
     (.op (.bin .eql (.ext 4 0) (.c (.v (.int .i64 4)))) (
     .ite (.x 11)
      (.chk (.one (.c (.v (.int .i64 5)))) (
      .chk (.cells (.agg [(.c (.v (.int .i64 5))), (.c (.v (.string ⟨#[]⟩))), (.c (.v (.int .i64 0))), (.ext 6 0), (.c .nils)]) 5) (
      .ret [(.agg [(.c (.v (.int .i64 5))), (.c (.v (.string ⟨#[]⟩))), (.c (.v (.int .i64 0))), (.ext 6 0), (.c .nils)]), (.ext 6 1), (.ext 6 2), (.ext 6 3)])))
      (.op (.bin .eql (.ext 4 0) (.c (.v (.int .i64 5)))) (
      .ite (.x 12)
       (.chk (.one (.c (.v (.int .i64 7)))) (
       .op (.scall F.spec_l2DrawUp G.spec_l2DrawUp [(.ext 6 1), (.ext 6 2), (.ext 6 3)]) (
       .chk (.one (.ext 13 0)) (
       .chk (.cells (.agg [(.c (.v (.int .i64 7))), (.ext 13 0), (.c (.v (.int .i64 0))), (.ext 6 0), (.c .nils)]) 5) (
       .ret [(.agg [(.c (.v (.int .i64 7))), (.ext 13 0), (.c (.v (.int .i64 0))), (.ext 6 0), (.c .nils)]), (.ext 13 1), (.ext 13 2), (.ext 13 3)])))))
       (.op (.bin .eql (.ext 4 0) (.c (.v (.int .i64 6)))) (
       .ite (.x 13)
        (.chk (.one (.c (.v (.int .i64 7)))) (
        .op (.scall F.spec_l2DrawUp G.spec_l2DrawUp [(.ext 6 1), (.ext 6 2), (.ext 6 3)]) (
        .chk (.one (.ext 14 0)) (
        .op (.bin .sub (.x 3) (.c (.v (.int .i64 1)))) (
        .op (.scall F.spec_l2DrawPat G.spec_l2DrawPat [(.ext 14 1), (.ext 14 2), (.ext 14 3), (.x 15)]) (
        .chk (.cells (.ext 16 0) 5) (
        .op (.mkl (.agg [(.v (.int .i64 0)), (.v (.string ⟨#[]⟩)), (.v (.int .i64 0)), (.v (.int .i64 0)), .nils]) 1 [(0, (.ext 16 0))]) (
        .chk (.one (.c (.v (.int .i64 7)))) (
        .chk (.one (.ext 14 0)) (
        .chk (.one (.c (.v (.int .i64 0)))) (
        .chk (.one (.ext 6 0)) (
        .ret [(.agg [(.c (.v (.int .i64 7))), (.ext 14 0), (.c (.v (.int .i64 0))), (.ext 6 0), (.sl (.x 17))]), (.ext 16 1), (.ext 16 2), (.ext 16 3)]))))))))))))
        (.chk (.one (.c (.v (.int .i64 6)))) (
        .op (.scall F.spec_l1Below G.spec_l1Below [(.ext 6 1), (.ext 6 2), (.ext 6 3), (.c (.v (.int .i64 2)))]) (
        .op (.bin .add (.c (.v (.int .i64 2))) (.ext 14 0)) (
        .loop [(.ext 14 1), (.ext 14 2), (.ext 14 3), (.c (.sl [])), (.x 15)] (
         .op (.bin .gtr (.x 20) (.c (.v (.int .i64 0)))) (
         .ite (.x 21)
          (.op (.bin .sub (.x 3) (.c (.v (.int .i64 1)))) (
          .op (.scall F.spec_l2DrawPat G.spec_l2DrawPat [(.x 16), (.x 17), (.x 18), (.x 22)]) (
          .chk (.cells (.ext 23 0) 5) (
          .op (.mkl (.agg [(.v (.int .i64 0)), (.v (.string ⟨#[]⟩)), (.v (.int .i64 0)), (.v (.int .i64 0)), .nils]) 1 [(0, (.ext 23 0))]) (
          .op (.app 5 64 (.x 19) (.x 24)) (
          .op (.bin .sub (.x 20) (.c (.v (.int .i64 1)))) (
          .jump [(.ext 23 1), (.ext 23 2), (.ext 23 3), (.x 25), (.x 26)])))))))
          (.esc (.chk (.one (.c (.v (.int .i64 6)))) (
          .chk (.one (.c (.v (.string ⟨#[]⟩)))) (
          .chk (.one (.c (.v (.int .i64 0)))) (
          .chk (.one (.ext 6 0)) (
          .ret [(.agg [(.c (.v (.int .i64 6))), (.c (.v (.string ⟨#[]⟩))), (.c (.v (.int .i64 0))), (.ext 6 0), (.sl (.x 19))]), (.x 16), (.x 17), (.x 18)])))))))))))))))))))))))))))))))
theorem T.spec_l2DrawPat_l : leftS Tryz.prog CF G.spec_l2DrawPat Tryz.f61 = some T.spec_l2DrawPat := by kernel_rfl
theorem T.spec_l2DrawPat_scon {ins outs : List AV} (hl : ins.length = 4) (ho : outs.length = 4) (hn : AV.norefs ins = true) (hw : wpT Tryz.prog (fun _ _ _ => False) (fun a => a = packR outs) T.spec_l2DrawPat ins []) : SCon Tryz.prog F.spec_l2DrawPat G.spec_l2DrawPat ins outs :=
  scon_auto Tryz.func61 T.spec_l2DrawPat_l hl hn ho hw
def T.spec_l2DrawExps : T :=
.op (.mkl (.agg [(.v (.int .i64 0)), (.v (.string ⟨#[]⟩)), (.v (.int .i64 0)), (.v (.string ⟨#[]⟩)), (.v (.int .i64 0)), .nils, .nils]) 0 []) (
.bind 4 (
 .loop [(.x 0), (.x 1), (.x 2), (.x 5), (.c (.v (.int .i64 0)))] (
  .op (.bin .lss (.x 10) (.x 4)) (
  .ite (.x 11)
   (.op (.bin .sub (.x 3) (.c (.v (.int .i64 1)))) (
   .op (.scall F.spec_l2DrawExp G.spec_l2DrawExp [(.x 6), (.x 7), (.x 8), (.x 12)]) (
   .chk (.cells (.ext 13 0) 7) (
   .op (.mkl (.agg [(.v (.int .i64 0)), (.v (.string ⟨#[]⟩)), (.v (.int .i64 0)), (.v (.string ⟨#[]⟩)), (.v (.int .i64 0)), .nils, .nils]) 1 [(0, (.ext 13 0))]) (
   .op (.app 7 104 (.x 9) (.sl (.x 14))) (
   .op (.bin .add (.x 10) (.c (.v (.int .i64 1)))) (
   .jump [(.ext 13 1), (.ext 13 2), (.ext 13 3), (.x 15), (.x 16)])))))))
   (.esc (.jump [(.x 6), (.x 7), (.x 8), (.x 9)]))))) (
.ret [(.sl (.x 9)), (.x 6), (.x 7), (.x 8)]))
theorem T.spec_l2DrawExps_l : leftS Tryz.prog CF G.spec_l2DrawExps Tryz.f62 = some T.spec_l2DrawExps := by kernel_rfl
theorem T.spec_l2DrawExps_scon {ins outs : List AV} (hl : ins.length = 5) (ho : outs.length = 4) (hn : AV.norefs ins = true) (hw : wpT Tryz.prog (fun _ _ _ => False) (fun a => a = packR outs) T.spec_l2DrawExps ins []) : SCon Tryz.prog F.spec_l2DrawExps G.spec_l2DrawExps ins outs :=
  scon_auto Tryz.func62 T.spec_l2DrawExps_l hl hn ho hw
def T.impl_plain : T :=
.bind 0 (
 .loop [(.c (.v (.int .i64 0)))] (
  .op (.lenS (.x 0)) (
  .op (.bin .lss (.x 1) (.x 2)) (
  .ite (.x 3)
   (.bind 0 (
    .bind 1 (
     .op (.idxS (.x 0) (.x 1)) (
     .op (.conv .i64 (.x 4)) (
     .op (.call F.impl_within [(.x 5), (.c (.v (.int .i64 32))), (.c (.v (.int .i64 126)))] false) (
     .op (.un .not (.x 6)) (
     .ite (.x 7)
      (.op (.idxS (.x 0) (.x 1)) (
      .op (.bin .neq (.x 8) (.c (.v (.int .u8 10)))) (
      .jump [(.x 9)])))
      (.jump [(.c (.v (.bool false)))])))))) (
    .ite (.x 4)
     (.esc (.esc (.esc (.ret [(.c (.v (.bool false)))]))))
     (.jump []))) (
   .op (.bin .add (.x 1) (.c (.v (.int .i64 1)))) (
   .jump [(.x 4)])))
   (.esc (.jump [])))))) (
.ret [(.c (.v (.bool true)))])
theorem T.impl_plain_l : leftF Tryz.prog CF Tryz.f63 = some (1, T.impl_plain) := by kernel_rfl
theorem T.impl_plain_con {args : List AV} {res : AV} (hl : args.length = 1) (hn : AV.norefs args = true) (hw : wpT Tryz.prog (fun _ _ _ => False) (fun a => a = res) T.impl_plain args []) : PCon Tryz.prog F.impl_plain args res :=
  con_auto Tryz.func63 T.impl_plain_l hl hn hw
def T.impl_within : T :=
.bind 1 (
 .op (.bin .geq (.x 0) (.x 1)) (
 .ite (.x 3)
  (.op (.bin .leq (.x 0) (.x 2)) (
  .jump [(.x 4)]))
  (.jump [(.c (.v (.bool false)))]))) (
.ret [(.x 3)])
theorem T.impl_within_l : leftF Tryz.prog CF Tryz.f64 = some (3, T.impl_within) := by kernel_rfl
theorem T.impl_within_con {args : List AV} {res : AV} (hl : args.length = 3) (hn : AV.norefs args = true) (hw : wpT Tryz.prog (fun _ _ _ => False) (fun a => a = res) T.impl_within args []) : PCon Tryz.prog F.impl_within args res :=
  con_auto Tryz.func64 T.impl_within_l hl hn hw
def T.impl_binarySign : T :=
.chk (.one (.c (.v (.string ⟨#[43]⟩)))) (
.chk (.one (.c (.v (.string ⟨#[45]⟩)))) (
.chk (.one (.c (.v (.string ⟨#[42]⟩)))) (
.chk (.one (.c (.v (.string ⟨#[94]⟩)))) (
.chk (.one (.c (.v (.string ⟨#[61]⟩)))) (
.chk (.one (.c (.v (.string ⟨#[60]⟩)))) (
.chk (.one (.c (.v (.string ⟨#[58, 61]⟩)))) (
.op (.mkl (.v (.string ⟨#[]⟩)) 7 [(0, (.c (.v (.string ⟨#[43]⟩)))), (1, (.c (.v (.string ⟨#[45]⟩)))), (2, (.c (.v (.string ⟨#[42]⟩)))), (3, (.c (.v (.string ⟨#[94]⟩)))), (4, (.c (.v (.string ⟨#[61]⟩)))), (5, (.c (.v (.string ⟨#[60]⟩)))), (6, (.c (.v (.string ⟨#[58, 61]⟩))))]) (
.op (.call F.slices_Contains__string_string [(.sl (.x 1)), (.x 0)] true) (
.ret [(.x 2)])))))))))
theorem T.impl_binarySign_l : leftF Tryz.prog CF Tryz.f65 = some (1, T.impl_binarySign) := by kernel_rfl
theorem T.impl_binarySign_con {args : List AV} {res : AV} (hl : args.length = 1) (hn : AV.norefs args = true) (hw : wpT Tryz.prog (fun _ _ _ => False) (fun a => a = res) T.impl_binarySign args []) : PCon Tryz.prog F.impl_binarySign args res :=
  con_auto Tryz.func65 T.impl_binarySign_l hl hn hw
def T.impl_primArity : T :=
.bind 0 (
 .op (.bin .eql (.x 0) (.c (.v (.string ⟨#[114, 101, 97, 100]⟩)))) (
 .ite (.x 1)
  (.esc (.ret [(.c (.v (.int .i64 0)))]))
  (.bind 1 (
   .op (.bin .eql (.x 0) (.c (.v (.string ⟨#[112, 114, 105, 110, 116]⟩)))) (
   .ite (.x 2)
    (.jump [(.x 2)])
    (.op (.bin .eql (.x 0) (.c (.v (.string ⟨#[101, 120, 105, 116]⟩)))) (
    .ite (.x 3)
     (.jump [(.x 3)])
     (.op (.bin .eql (.x 0) (.c (.v (.string ⟨#[115, 105, 122, 101]⟩)))) (
     .ite (.x 4)
      (.jump [(.x 4)])
      (.op (.bin .eql (.x 0) (.c (.v (.string ⟨#[114, 101, 102]⟩)))) (
      .ite (.x 5)
       (.jump [(.x 5)])
       (.op (.bin .eql (.x 0) (.c (.v (.string ⟨#[33]⟩)))) (
       .jump [(.x 6)])))))))))) (
  .ite (.x 2)
   (.esc (.ret [(.c (.v (.int .i64 1)))]))
   (.jump []))))) (
.ret [(.c (.v (.int .i64 (-1))))])
theorem T.impl_primArity_l : leftF Tryz.prog CF Tryz.f66 = some (1, T.impl_primArity) := by kernel_rfl
theorem T.impl_primArity_con {args : List AV} {res : AV} (hl : args.length = 1) (hn : AV.norefs args = true) (hw : wpT Tryz.prog (fun _ _ _ => False) (fun a => a = res) T.impl_primArity args []) : PCon Tryz.prog F.impl_primArity args res :=
  con_auto Tryz.func66 T.impl_primArity_l hl hn hw
def T.slices_ContainsFunc__impl_Pat_impl_Pat : T :=
.op (.call F.slices_IndexFunc__impl_Pat_impl_Pat [(.x 0), (.x 1)] false) (
.op (.bin .geq (.x 2) (.c (.v (.int .i64 0)))) (
.ret [(.x 3)]))
theorem T.slices_ContainsFunc__impl_Pat_impl_Pat_l : leftF Tryz.prog CF Tryz.f67 = some (2, T.slices_ContainsFunc__impl_Pat_impl_Pat) := by kernel_rfl
theorem T.slices_ContainsFunc__impl_Pat_impl_Pat_con {args : List AV} {res : AV} (hl : args.length = 2) (hn : AV.norefs args = true) (hw : wpT Tryz.prog (fun _ _ _ => False) (fun a => a = res) T.slices_ContainsFunc__impl_Pat_impl_Pat args []) : PCon Tryz.prog F.slices_ContainsFunc__impl_Pat_impl_Pat args res :=
  con_auto Tryz.func67 T.slices_ContainsFunc__impl_Pat_impl_Pat_l hl hn hw
def T.impl_patOk_1 : T :=
.chk (.cells (.x 0) 5) (
.chk (.cells (.x 0) 5) (
.op (.call F.impl_patOk [(.x 0)] false) (
.op (.un .not (.x 1)) (
.ret [(.x 2)]))))
theorem T.impl_patOk_1_l : leftF Tryz.prog CF Tryz.f68 = some (1, T.impl_patOk_1) := by kernel_rfl
theorem T.impl_patOk_1_con {args : List AV} {res : AV} (hl : args.length = 1) (hn : AV.norefs args = true) (hw : wpT Tryz.prog (fun _ _ _ => False) (fun a => a = res) T.impl_patOk_1 args []) : PCon Tryz.prog F.impl_patOk_1 args res :=
  con_auto Tryz.func68 T.impl_patOk_1_l hl hn hw
def T.impl_great : T :=
.bind 1 (
 .op (.bin .geq (.x 0) (.c (.v (.int .u8 65)))) (
 .ite (.x 1)
  (.op (.bin .leq (.x 0) (.c (.v (.int .u8 90)))) (
  .jump [(.x 2)]))
  (.jump [(.c (.v (.bool false)))]))) (
.ret [(.x 1)])
theorem T.impl_great_l : leftF Tryz.prog CF Tryz.f69 = some (1, T.impl_great) := by kernel_rfl
theorem T.impl_great_con {args : List AV} {res : AV} (hl : args.length = 1) (hn : AV.norefs args = true) (hw : wpT Tryz.prog (fun _ _ _ => False) (fun a => a = res) T.impl_great args []) : PCon Tryz.prog F.impl_great args res :=
  con_auto Tryz.func69 T.impl_great_l hl hn hw
def T.slices_ContainsFunc__impl_TypeExp_impl_TypeExp : T :=
.op (.call F.slices_IndexFunc__impl_TypeExp_impl_TypeExp [(.x 0), (.x 1)] false) (
.op (.bin .geq (.x 2) (.c (.v (.int .i64 0)))) (
.ret [(.x 3)]))
theorem T.slices_ContainsFunc__impl_TypeExp_impl_TypeExp_l : leftF Tryz.prog CF Tryz.f70 = some (2, T.slices_ContainsFunc__impl_TypeExp_impl_TypeExp) := by kernel_rfl
theorem T.slices_ContainsFunc__impl_TypeExp_impl_TypeExp_con {args : List AV} {res : AV} (hl : args.length = 2) (hn : AV.norefs args = true) (hw : wpT Tryz.prog (fun _ _ _ => False) (fun a => a = res) T.slices_ContainsFunc__impl_TypeExp_impl_TypeExp args []) : PCon Tryz.prog F.slices_ContainsFunc__impl_TypeExp_impl_TypeExp args res :=
  con_auto Tryz.func70 T.slices_ContainsFunc__impl_TypeExp_impl_TypeExp_l hl hn hw
def T.impl_typeOk_1 : T :=
.chk (.cells (.x 0) 4) (
.chk (.cells (.x 0) 4) (
.op (.call F.impl_typeOk [(.x 0)] false) (
.op (.un .not (.x 1)) (
.ret [(.x 2)]))))
theorem T.impl_typeOk_1_l : leftF Tryz.prog CF Tryz.f71 = some (1, T.impl_typeOk_1) := by kernel_rfl
theorem T.impl_typeOk_1_con {args : List AV} {res : AV} (hl : args.length = 1) (hn : AV.norefs args = true) (hw : wpT Tryz.prog (fun _ _ _ => False) (fun a => a = res) T.impl_typeOk_1 args []) : PCon Tryz.prog F.impl_typeOk_1 args res :=
  con_auto Tryz.func71 T.impl_typeOk_1_l hl hn hw
def T.impl_isKey : T :=
.chk (.one (.c (.v (.string ⟨#[116, 121, 112, 101]⟩)))) (
.chk (.one (.c (.v (.string ⟨#[111, 102]⟩)))) (
.chk (.one (.c (.v (.string ⟨#[108, 101, 116]⟩)))) (
.chk (.one (.c (.v (.string ⟨#[114, 101, 99]⟩)))) (
.chk (.one (.c (.v (.string ⟨#[105, 110]⟩)))) (
.chk (.one (.c (.v (.string ⟨#[102, 117, 110]⟩)))) (
.chk (.one (.c (.v (.string ⟨#[105, 102]⟩)))) (
.chk (.one (.c (.v (.string ⟨#[116, 104, 101, 110]⟩)))) (
.chk (.one (.c (.v (.string ⟨#[101, 108, 115, 101]⟩)))) (
.chk (.one (.c (.v (.string ⟨#[109, 97, 116, 99, 104]⟩)))) (
.chk (.one (.c (.v (.string ⟨#[119, 105, 116, 104]⟩)))) (
.chk (.one (.c (.v (.string ⟨#[101, 110, 100]⟩)))) (
.chk (.one (.c (.v (.string ⟨#[116, 114, 117, 101]⟩)))) (
.chk (.one (.c (.v (.string ⟨#[102, 97, 108, 115, 101]⟩)))) (
.chk (.one (.c (.v (.string ⟨#[114, 101, 102]⟩)))) (
.chk (.one (.c (.v (.string ⟨#[114, 101, 97, 100]⟩)))) (
.chk (.one (.c (.v (.string ⟨#[112, 114, 105, 110, 116]⟩)))) (
.chk (.one (.c (.v (.string ⟨#[101, 120, 105, 116]⟩)))) (
.chk (.one (.c (.v (.string ⟨#[115, 105, 122, 101]⟩)))) (
.op (.mkl (.v (.string ⟨#[]⟩)) 19 [(0, (.c (.v (.string ⟨#[116, 121, 112, 101]⟩)))), (1, (.c (.v (.string ⟨#[111, 102]⟩)))), (2, (.c (.v (.string ⟨#[108, 101, 116]⟩)))), (3, (.c (.v (.string ⟨#[114, 101, 99]⟩)))), (4, (.c (.v (.string ⟨#[105, 110]⟩)))), (5, (.c (.v (.string ⟨#[102, 117, 110]⟩)))), (6, (.c (.v (.string ⟨#[105, 102]⟩)))), (7, (.c (.v (.string ⟨#[116, 104, 101, 110]⟩)))), (8, (.c (.v (.string ⟨#[101, 108, 115, 101]⟩)))), (9, (.c (.v (.string ⟨#[109, 97, 116, 99, 104]⟩)))), (10, (.c (.v (.string ⟨#[119, 105, 116, 104]⟩)))), (11, (.c (.v (.string ⟨#[101, 110, 100]⟩)))), (12, (.c (.v (.string ⟨#[116, 114, 117, 101]⟩)))), (13, (.c (.v (.string ⟨#[102, 97, 108, 115, 101]⟩)))), (14, (.c (.v (.string ⟨#[114, 101, 102]⟩)))), (15, (.c (.v (.string ⟨#[114, 101, 97, 100]⟩)))), (16, (.c (.v (.string ⟨#[112, 114, 105, 110, 116]⟩)))), (17, (.c (.v (.string ⟨#[101, 120, 105, 116]⟩)))), (18, (.c (.v (.string ⟨#[115, 105, 122, 101]⟩))))]) (
.op (.call F.slices_Contains__string_string [(.sl (.x 1)), (.x 0)] true) (
.ret [(.x 2)])))))))))))))))))))))
theorem T.impl_isKey_l : leftF Tryz.prog CF Tryz.f72 = some (1, T.impl_isKey) := by kernel_rfl
theorem T.impl_isKey_con {args : List AV} {res : AV} (hl : args.length = 1) (hn : AV.norefs args = true) (hw : wpT Tryz.prog (fun _ _ _ => False) (fun a => a = res) T.impl_isKey args []) : PCon Tryz.prog F.impl_isKey args res :=
  con_auto Tryz.func72 T.impl_isKey_l hl hn hw
def T.slices_IndexFunc__string_string : T :=
.bind 0 (
 .op (.lenL (.x 0)) (
 .loop [(.c (.v (.int .i64 0)))] (
  .op (.bin .lss (.x 3) (.x 2)) (
  .ite (.x 4)
   (.op (.elem 1 (.x 0) (.x 3)) (
   .chk (.lt (.x 5) 0) (
   .op (.callv (.x 1) [(.cell 5 0)] false) (
   .ite (.x 6)
    (.esc (.esc (.ret [(.x 3)])))
    (.op (.bin .add (.x 3) (.c (.v (.int .i64 1)))) (
    .jump [(.x 7)]))))))
   (.esc (.jump [])))))) (
.ret [(.c (.v (.int .i64 (-1))))])
theorem T.slices_IndexFunc__string_string_l : leftF Tryz.prog CF Tryz.f73 = some (2, T.slices_IndexFunc__string_string) := by kernel_rfl
theorem T.slices_IndexFunc__string_string_con {args : List AV} {res : AV} (hl : args.length = 2) (hn : AV.norefs args = true) (hw : wpT Tryz.prog (fun _ _ _ => False) (fun a => a = res) T.slices_IndexFunc__string_string args []) : PCon Tryz.prog F.slices_IndexFunc__string_string args res :=
  con_auto Tryz.func73 T.slices_IndexFunc__string_string_l hl hn hw
def T.impl_run : T :=
.bind 1 (
 .loop [(.x 1)] (
  .bind 0 (
   .bind 1 (
    .op (.lenS (.x 0)) (
    .op (.bin .lss (.x 3) (.x 4)) (
    .ite (.x 5)
     (.op (.idxS (.x 0) (.x 3)) (
     .op (.callv (.x 2) [(.x 6)] false) (
     .jump [(.x 7)])))
     (.jump [(.c (.v (.bool false)))])))) (
   .ite (.x 4)
    (.jump [])
    (.esc (.esc (.jump [(.x 3)]))))) (
  .op (.bin .add (.x 3) (.c (.v (.int .i64 1)))) (
  .jump [(.x 4)])))) (
.ret [(.x 3)])
theorem T.impl_run_l : leftF Tryz.prog CF Tryz.f74 = some (3, T.impl_run) := by kernel_rfl
theorem T.impl_run_con {args : List AV} {res : AV} (hl : args.length = 3) (hn : AV.norefs args = true) (hw : wpT Tryz.prog (fun _ _ _ => False) (fun a => a = res) T.impl_run args []) : PCon Tryz.prog F.impl_run args res :=
  con_auto Tryz.func74 T.impl_run_l hl hn hw
def T.impl_nameByte : T :=
.bind 1 (
 .op (.call F.impl_small [(.x 0)] false) (
 .ite (.x 1)
  (.jump [(.c (.v (.bool true)))])
  (.op (.call F.impl_great [(.x 0)] false) (
  .ite (.x 2)
   (.jump [(.c (.v (.bool true)))])
   (.op (.call F.impl_digit [(.x 0)] false) (
   .ite (.x 3)
    (.jump [(.c (.v (.bool true)))])
    (.op (.bin .eql (.x 0) (.c (.v (.int .u8 95)))) (
    .jump [(.x 4)])))))))) (
.ret [(.x 1)])
theorem T.impl_nameByte_l : leftF Tryz.prog CF Tryz.f75 = some (1, T.impl_nameByte) := by kernel_rfl
theorem T.impl_nameByte_con {args : List AV} {res : AV} (hl : args.length = 1) (hn : AV.norefs args = true) (hw : wpT Tryz.prog (fun _ _ _ => False) (fun a => a = res) T.impl_nameByte args []) : PCon Tryz.prog F.impl_nameByte args res :=
  con_auto Tryz.func75 T.impl_nameByte_l hl hn hw
def T.slices_EqualFunc__impl_Pat__impl_Pat_impl_Pat_impl_Pat : T :=
.op (.lenL (.x 0)) (
.op (.lenL (.x 1)) (
.op (.bin .neq (.x 3) (.x 4)) (
.ite (.x 5)
 (.ret [(.c (.v (.bool false)))])
 (.bind 0 (
  .op (.lenL (.x 0)) (
  .loop [(.c (.v (.int .i64 0)))] (
   .op (.bin .lss (.x 7) (.x 6)) (
   .ite (.x 8)
    (.op (.elem 5 (.x 0) (.x 7)) (
    .chk (.cells (.x 9) 5) (
    .chk (.cells (.x 9) 5) (
    .op (.elem 5 (.x 1) (.x 7)) (
    .chk (.cells (.x 10) 5) (
    .chk (.cells (.x 10) 5) (
    .chk (.cells (.x 9) 5) (
    .chk (.cells (.x 10) 5) (
    .op (.callv (.x 2) [(.x 9), (.x 10)] false) (
    .op (.un .not (.x 11)) (
    .ite (.x 12)
     (.esc (.esc (.ret [(.c (.v (.bool false)))])))
     (.op (.bin .add (.x 7) (.c (.v (.int .i64 1)))) (
     .jump [(.x 13)])))))))))))))
    (.esc (.jump [])))))) (
 .ret [(.c (.v (.bool true)))])))))
theorem T.slices_EqualFunc__impl_Pat__impl_Pat_impl_Pat_impl_Pat_l : leftF Tryz.prog CF Tryz.f76 = some (3, T.slices_EqualFunc__impl_Pat__impl_Pat_impl_Pat_impl_Pat) := by kernel_rfl
theorem T.slices_EqualFunc__impl_Pat__impl_Pat_impl_Pat_impl_Pat_con {args : List AV} {res : AV} (hl : args.length = 3) (hn : AV.norefs args = true) (hw : wpT Tryz.prog (fun _ _ _ => False) (fun a => a = res) T.slices_EqualFunc__impl_Pat__impl_Pat_impl_Pat_impl_Pat args []) : PCon Tryz.prog F.slices_EqualFunc__impl_Pat__impl_Pat_impl_Pat_impl_Pat args res :=
  con_auto Tryz.func76 T.slices_EqualFunc__impl_Pat__impl_Pat_impl_Pat_impl_Pat_l hl hn hw
def T.impl_forms_impl_TypeExp : T :=
.bind 1 (
 .op (.lenL (.x 0)) (
 .loop [(.c (.sl [])), (.c (.v (.int .i64 0)))] (
  .op (.bin .lss (.x 6) (.x 4)) (
  .ite (.x 7)
   (.op (.elem 4 (.x 0) (.x 6)) (
   .chk (.cells (.x 8) 4) (
   .chk (.cells (.x 8) 4) (
   .chk (.cells (.x 8) 4) (
   .op (.callv (.x 3) [(.x 8), (.x 1)] false) (
   .chk (.one (.x 9)) (
   .op (.mkl (.v (.string ⟨#[]⟩)) 1 [(0, (.x 9))]) (
   .op (.app 1 16 (.x 5) (.sl (.x 10))) (
   .op (.bin .add (.x 6) (.c (.v (.int .i64 1)))) (
   .jump [(.x 11), (.x 12)]))))))))))
   (.esc (.jump [(.x 5)])))))) (
.op (.call F.strings_Join [(.sl (.x 4)), (.x 2)] true) (
.ret [(.x 5)]))
theorem T.impl_forms_impl_TypeExp_l : leftF Tryz.prog CF Tryz.f77 = some (4, T.impl_forms_impl_TypeExp) := by kernel_rfl
theorem T.impl_forms_impl_TypeExp_con {args : List AV} {res : AV} (hl : args.length = 4) (hn : AV.norefs args = true) (hw : wpT Tryz.prog (fun _ _ _ => False) (fun a => a = res) T.impl_forms_impl_TypeExp args []) : PCon Tryz.prog F.impl_forms_impl_TypeExp args res :=
  con_auto Tryz.func77 T.impl_forms_impl_TypeExp_l hl hn hw
-- strings_Builder_Grow: no walk
-- strings_Builder_WriteString: no walk
def T.impl_openForm_1 : T :=
.op (.fap 5 (.x 1)) (
.op (.ldp none (.x 2)) (
.op (.elem 7 (.x 3) (.x 0)) (
.chk (.cells (.x 4) 7) (
.op (.call F.impl_expForm [(.x 4), (.c (.v (.int .i64 0)))] false) (
.ret [(.x 5)])))))
theorem T.impl_openForm_1_l : leftF Tryz.prog CF Tryz.f82 = some (2, T.impl_openForm_1) := by kernel_rfl
theorem T.impl_openForm_1_con {args : List AV} {res : AV} (hl : args.length = 2) (hn : AV.norefs args = true) (hw : wpT Tryz.prog (fun _ _ _ => False) (fun a => a = res) T.impl_openForm_1 args []) : PCon Tryz.prog F.impl_openForm_1 args res :=
  con_auto Tryz.func82 T.impl_openForm_1_l hl hn hw
def T.impl_patForm : T :=
.chk (.cells (.x 0) 5) (
.op (.bin .eql (.cell 0 0) (.c (.v (.int .i64 2)))) (
.ite (.x 2)
 (.ret [(.cell 0 1)])
 (.op (.bin .eql (.cell 0 0) (.c (.v (.int .i64 3)))) (
 .ite (.x 3)
  (.op (.call F.strconv_Itoa [(.cell 0 2)] false) (
  .ret [(.x 4)]))
  (.op (.bin .eql (.cell 0 0) (.c (.v (.int .i64 4)))) (
  .ite (.x 4)
   (.op (.call F.impl_boolWord [(.cell 0 2)] false) (
   .ret [(.x 5)]))
   (.op (.bin .eql (.cell 0 0) (.c (.v (.int .i64 5)))) (
   .ite (.x 5)
    (.ret [(.c (.v (.string ⟨#[40, 41]⟩)))])
    (.op (.bin .eql (.cell 0 0) (.c (.v (.int .i64 6)))) (
    .ite (.x 6)
     (.op (.call F.impl_forms_impl_Pat [(.cell 0 4), (.c (.v (.int .i64 0))), (.c (.v (.string ⟨#[44, 32]⟩))), (.c (.fn F.impl_patForm []))] false) (
     .op (.bin .add (.c (.v (.string ⟨#[40]⟩))) (.x 7)) (
     .op (.bin .add (.x 8) (.c (.v (.string ⟨#[41]⟩)))) (
     .ret [(.x 9)]))))
     (.op (.bin .eql (.cell 0 0) (.c (.v (.int .i64 7)))) (
     .ite (.x 7)
      (.op (.lenL (.cell 0 4)) (
      .op (.bin .eql (.x 8) (.c (.v (.int .i64 0)))) (
      .ite (.x 9)
       (.ret [(.cell 0 1)])
       (.op (.bin .add (.cell 0 1) (.c (.v (.string ⟨#[32]⟩)))) (
       .op (.elem 5 (.cell 0 4) (.c (.v (.int .i64 0)))) (
       .chk (.cells (.x 11) 5) (
       .op (.call F.impl_patForm [(.x 11), (.c (.v (.int .i64 1)))] true) (
       .op (.bin .add (.x 10) (.x 12)) (
       .op (.call F.impl_bracketed [(.x 13), (.c (.v (.int .i64 0))), (.x 1)] true) (
       .ret [(.x 14)]))))))))))
      (.ret [(.c (.v (.string ⟨#[95]⟩)))])))))))))))))
theorem T.impl_patForm_l : leftF Tryz.prog CF Tryz.f83 = some (2, T.impl_patForm) := by kernel_rfl
theorem T.impl_patForm_con {args : List AV} {res : AV} (hl : args.length = 2) (hn : AV.norefs args = true) (hw : wpT Tryz.prog (fun _ _ _ => False) (fun a => a = res) T.impl_patForm args []) : PCon Tryz.prog F.impl_patForm args res :=
  con_auto Tryz.func83 T.impl_patForm_l hl hn hw
def T.spec_l1Int : T :=
.op (.lenL (.x 3)) (
.op (.scall F.spec_l1Below G.spec_l1Below [(.x 0), (.x 1), (.x 2), (.x 4)]) (
.op (.elem 1 (.x 3) (.ext 5 0)) (
.chk (.lt (.x 6) 0) (
.ret [(.cell 6 0), (.ext 5 1), (.ext 5 2), (.ext 5 3)]))))
theorem T.spec_l1Int_l : leftS Tryz.prog CF G.spec_l1Int Tryz.f84 = some T.spec_l1Int := by kernel_rfl
theorem T.spec_l1Int_scon {ins outs : List AV} (hl : ins.length = 4) (ho : outs.length = 4) (hn : AV.norefs ins = true) (hw : wpT Tryz.prog (fun _ _ _ => False) (fun a => a = packR outs) T.spec_l1Int ins []) : SCon Tryz.prog F.spec_l1Int G.spec_l1Int ins outs :=
  scon_auto Tryz.func84 T.spec_l1Int_l hl hn ho hw
def T.slices_Contains__string_string : T :=
.op (.call F.slices_Index__string_string [(.x 0), (.x 1)] false) (
.op (.bin .geq (.x 2) (.c (.v (.int .i64 0)))) (
.ret [(.x 3)]))
theorem T.slices_Contains__string_string_l : leftF Tryz.prog CF Tryz.f85 = some (2, T.slices_Contains__string_string) := by kernel_rfl
theorem T.slices_Contains__string_string_con {args : List AV} {res : AV} (hl : args.length = 2) (hn : AV.norefs args = true) (hw : wpT Tryz.prog (fun _ _ _ => False) (fun a => a = res) T.slices_Contains__string_string args []) : PCon Tryz.prog F.slices_Contains__string_string args res :=
  con_auto Tryz.func85 T.slices_Contains__string_string_l hl hn hw
def T.slices_IndexFunc__impl_Pat_impl_Pat : T :=
.bind 0 (
 .op (.lenL (.x 0)) (
 .loop [(.c (.v (.int .i64 0)))] (
  .op (.bin .lss (.x 3) (.x 2)) (
  .ite (.x 4)
   (.op (.elem 5 (.x 0) (.x 3)) (
   .chk (.cells (.x 5) 5) (
   .op (.callv (.x 1) [(.x 5)] false) (
   .ite (.x 6)
    (.esc (.esc (.ret [(.x 3)])))
    (.op (.bin .add (.x 3) (.c (.v (.int .i64 1)))) (
    .jump [(.x 7)]))))))
   (.esc (.jump [])))))) (
.ret [(.c (.v (.int .i64 (-1))))])
theorem T.slices_IndexFunc__impl_Pat_impl_Pat_l : leftF Tryz.prog CF Tryz.f86 = some (2, T.slices_IndexFunc__impl_Pat_impl_Pat) := by kernel_rfl
theorem T.slices_IndexFunc__impl_Pat_impl_Pat_con {args : List AV} {res : AV} (hl : args.length = 2) (hn : AV.norefs args = true) (hw : wpT Tryz.prog (fun _ _ _ => False) (fun a => a = res) T.slices_IndexFunc__impl_Pat_impl_Pat args []) : PCon Tryz.prog F.slices_IndexFunc__impl_Pat_impl_Pat args res :=
  con_auto Tryz.func86 T.slices_IndexFunc__impl_Pat_impl_Pat_l hl hn hw
def T.slices_IndexFunc__impl_TypeExp_impl_TypeExp : T :=
.bind 0 (
 .op (.lenL (.x 0)) (
 .loop [(.c (.v (.int .i64 0)))] (
  .op (.bin .lss (.x 3) (.x 2)) (
  .ite (.x 4)
   (.op (.elem 4 (.x 0) (.x 3)) (
   .chk (.cells (.x 5) 4) (
   .op (.callv (.x 1) [(.x 5)] false) (
   .ite (.x 6)
    (.esc (.esc (.ret [(.x 3)])))
    (.op (.bin .add (.x 3) (.c (.v (.int .i64 1)))) (
    .jump [(.x 7)]))))))
   (.esc (.jump [])))))) (
.ret [(.c (.v (.int .i64 (-1))))])
theorem T.slices_IndexFunc__impl_TypeExp_impl_TypeExp_l : leftF Tryz.prog CF Tryz.f87 = some (2, T.slices_IndexFunc__impl_TypeExp_impl_TypeExp) := by kernel_rfl
theorem T.slices_IndexFunc__impl_TypeExp_impl_TypeExp_con {args : List AV} {res : AV} (hl : args.length = 2) (hn : AV.norefs args = true) (hw : wpT Tryz.prog (fun _ _ _ => False) (fun a => a = res) T.slices_IndexFunc__impl_TypeExp_impl_TypeExp args []) : PCon Tryz.prog F.slices_IndexFunc__impl_TypeExp_impl_TypeExp args res :=
  con_auto Tryz.func87 T.slices_IndexFunc__impl_TypeExp_impl_TypeExp_l hl hn hw
def T.impl_digit : T :=
.bind 1 (
 .op (.bin .geq (.x 0) (.c (.v (.int .u8 48)))) (
 .ite (.x 1)
  (.op (.bin .leq (.x 0) (.c (.v (.int .u8 57)))) (
  .jump [(.x 2)]))
  (.jump [(.c (.v (.bool false)))]))) (
.ret [(.x 1)])
theorem T.impl_digit_l : leftF Tryz.prog CF Tryz.f88 = some (1, T.impl_digit) := by kernel_rfl
theorem T.impl_digit_con {args : List AV} {res : AV} (hl : args.length = 1) (hn : AV.norefs args = true) (hw : wpT Tryz.prog (fun _ _ _ => False) (fun a => a = res) T.impl_digit args []) : PCon Tryz.prog F.impl_digit args res :=
  con_auto Tryz.func88 T.impl_digit_l hl hn hw
-- strings_Builder_copyCheck: code not covered
-- strings_Builder_grow: no walk
-- internalstrconv_FormatInt: no walk
def T.impl_forms_impl_Pat : T :=
.bind 1 (
 .op (.lenL (.x 0)) (
 .loop [(.c (.sl [])), (.c (.v (.int .i64 0)))] (
  .op (.bin .lss (.x 6) (.x 4)) (
  .ite (.x 7)
   (.op (.elem 5 (.x 0) (.x 6)) (
   .chk (.cells (.x 8) 5) (
   .chk (.cells (.x 8) 5) (
   .chk (.cells (.x 8) 5) (
   .op (.callv (.x 3) [(.x 8), (.x 1)] false) (
   .chk (.one (.x 9)) (
   .op (.mkl (.v (.string ⟨#[]⟩)) 1 [(0, (.x 9))]) (
   .op (.app 1 16 (.x 5) (.sl (.x 10))) (
   .op (.bin .add (.x 6) (.c (.v (.int .i64 1)))) (
   .jump [(.x 11), (.x 12)]))))))))))
   (.esc (.jump [(.x 5)])))))) (
.op (.call F.strings_Join [(.sl (.x 4)), (.x 2)] true) (
.ret [(.x 5)]))
theorem T.impl_forms_impl_Pat_l : leftF Tryz.prog CF Tryz.f92 = some (4, T.impl_forms_impl_Pat) := by kernel_rfl
theorem T.impl_forms_impl_Pat_con {args : List AV} {res : AV} (hl : args.length = 4) (hn : AV.norefs args = true) (hw : wpT Tryz.prog (fun _ _ _ => False) (fun a => a = res) T.impl_forms_impl_Pat args []) : PCon Tryz.prog F.impl_forms_impl_Pat args res :=
  con_auto Tryz.func92 T.impl_forms_impl_Pat_l hl hn hw
def T.slices_Index__string_string : T :=
.bind 0 (
 .op (.lenL (.x 0)) (
 .loop [(.c (.v (.int .i64 0)))] (
  .op (.bin .lss (.x 3) (.x 2)) (
  .ite (.x 4)
   (.op (.elem 1 (.x 0) (.x 3)) (
   .chk (.lt (.x 5) 0) (
   .op (.bin .eql (.x 1) (.cell 5 0)) (
   .ite (.x 6)
    (.esc (.esc (.ret [(.x 3)])))
    (.op (.bin .add (.x 3) (.c (.v (.int .i64 1)))) (
    .jump [(.x 7)]))))))
   (.esc (.jump [])))))) (
.ret [(.c (.v (.int .i64 (-1))))])
theorem T.slices_Index__string_string_l : leftF Tryz.prog CF Tryz.f93 = some (2, T.slices_Index__string_string) := by kernel_rfl
theorem T.slices_Index__string_string_con {args : List AV} {res : AV} (hl : args.length = 2) (hn : AV.norefs args = true) (hw : wpT Tryz.prog (fun _ _ _ => False) (fun a => a = res) T.slices_Index__string_string args []) : PCon Tryz.prog F.slices_Index__string_string args res :=
  con_auto Tryz.func93 T.slices_Index__string_string_l hl hn hw
end Go.Proofs.Ab
