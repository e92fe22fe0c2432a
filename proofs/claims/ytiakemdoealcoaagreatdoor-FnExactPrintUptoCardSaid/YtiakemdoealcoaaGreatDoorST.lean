/-
  WHAT IS LEFT of this seat's functions, printed by a program of ours (wip/tool/Gen2.lean) from the translation; each with the theorem that it is what is left of that function.
-/
import Derived.Test.YtiakemdoealcoaaGreatDoorChecked
import Derived.KernelRfl
import Derived.Test.YtiakemdoealcoaaGreatDoorAbM4
set_option linter.unusedVariables false
set_option linter.unusedSimpArgs false
set_option linter.defProp false
namespace Go.Proofs.Ab
open Go.Ab
set_option maxRecDepth 100000
namespace F
abbrev laws_FnExactPrint : FuncId := 4
abbrev laws_szExp : FuncId := 5
abbrev laws_toExp : FuncId := 7
abbrev laws_eqExp : FuncId := 9
abbrev laws_szProg : FuncId := 10
abbrev spec_Print : FuncId := 11
abbrev laws_toProg : FuncId := 12
abbrev impl_Print : FuncId := 13
abbrev laws_eqProg : FuncId := 14
abbrev laws_szExpS : FuncId := 15
abbrev laws_szArmS : FuncId := 16
abbrev spec_ExpOk : FuncId := 17
abbrev spec_l2Text : FuncId := 18
abbrev laws_toExpS : FuncId := 19
abbrev laws_toArmS : FuncId := 20
abbrev impl_ExpOk : FuncId := 21
abbrev impl_expForm : FuncId := 22
abbrev laws_eqExpS : FuncId := 23
abbrev laws_eqArmS : FuncId := 24
abbrev laws_szDataS : FuncId := 25
abbrev spec_ProgOk : FuncId := 26
abbrev spec_l2TypeText : FuncId := 27
abbrev laws_toDataS : FuncId := 28
abbrev impl_ProgOk : FuncId := 29
abbrev impl_typesForm : FuncId := 30
abbrev laws_eqDataS : FuncId := 31
abbrev laws_szArm : FuncId := 32
abbrev spec_l2Node : FuncId := 33
abbrev spec_l2PatOk : FuncId := 34
abbrev spec_l2Round : FuncId := 35
abbrev spec_l2Form : FuncId := 36
abbrev spec_l2Level : FuncId := 37
abbrev laws_toArm : FuncId := 38
abbrev impl_headOk : FuncId := 39
abbrev impl_patOk : FuncId := 40
abbrev strconv_Itoa : FuncId := 41
abbrev impl_quoted : FuncId := 42
abbrev impl_boolWord : FuncId := 43
abbrev impl_forms_impl_Exp : FuncId := 44
abbrev impl_opLevels : FuncId := 45
abbrev impl_bracketed : FuncId := 46
abbrev impl_openForm : FuncId := 47
abbrev laws_eqArm : FuncId := 48
abbrev laws_szData : FuncId := 49
abbrev spec_l1Low : FuncId := 50
abbrev spec_l1Name : FuncId := 51
abbrev spec_l2TypeOk : FuncId := 52
abbrev spec_l2NoType : FuncId := 53
abbrev laws_toData : FuncId := 54
abbrev slices_ContainsFunc__impl_Data_impl_Data : FuncId := 55
abbrev impl_ProgOk_1 : FuncId := 56
abbrev impl_dataOk : FuncId := 57
abbrev impl_typeForm : FuncId := 58
abbrev strings_Join : FuncId := 59
abbrev laws_eqData : FuncId := 60
abbrev laws_szPat : FuncId := 61
abbrev spec_l2Plain : FuncId := 62
abbrev spec_l1Chars : FuncId := 63
abbrev spec_l1In : FuncId := 64
abbrev spec_l2Op : FuncId := 65
abbrev spec_l2Prim : FuncId := 66
abbrev spec_l1Decimal : FuncId := 67
abbrev spec_l1Quoted : FuncId := 68
abbrev spec_l2Bool : FuncId := 69
abbrev spec_l2OpLevel : FuncId := 70
abbrev spec_l2Great : FuncId := 71
abbrev laws_toPat : FuncId := 72
abbrev impl_plain : FuncId := 73
abbrev impl_within : FuncId := 74
abbrev impl_lowOk : FuncId := 75
abbrev impl_upOk : FuncId := 76
abbrev impl_binarySign : FuncId := 77
abbrev impl_primArity : FuncId := 78
abbrev slices_ContainsFunc__impl_Pat_impl_Pat : FuncId := 79
abbrev impl_patOk_1 : FuncId := 80
abbrev impl_openForm_1 : FuncId := 82
abbrev impl_patForm : FuncId := 83
abbrev laws_eqPat : FuncId := 84
abbrev laws_szStringS : FuncId := 85
abbrev laws_szCtorS : FuncId := 86
abbrev spec_l1Key : FuncId := 87
abbrev spec_l1Upper : FuncId := 88
abbrev spec_l1Lower : FuncId := 89
abbrev spec_l1NameByte : FuncId := 90
abbrev laws_toStringS : FuncId := 91
abbrev laws_toCtorS : FuncId := 92
abbrev slices_IndexFunc__impl_Data_impl_Data : FuncId := 93
abbrev impl_typeOk : FuncId := 94
abbrev impl_emptyType : FuncId := 95
abbrev slices_ContainsFunc__string_string : FuncId := 96
abbrev impl_dataOk_1 : FuncId := 97
abbrev impl_isName : FuncId := 98
abbrev impl_small : FuncId := 99
abbrev impl_forms_impl_TypeExp : FuncId := 100
abbrev strings_Builder_Grow : FuncId := 101
abbrev strings_Builder_WriteString : FuncId := 102
abbrev laws_eqStringS : FuncId := 104
abbrev laws_eqCtorS : FuncId := 105
abbrev laws_szPatS : FuncId := 106
abbrev spec_l1Figures : FuncId := 107
abbrev spec_l2PatText : FuncId := 108
abbrev laws_toPatS : FuncId := 109
abbrev impl_isKey : FuncId := 110
abbrev impl_great : FuncId := 111
abbrev slices_Contains__string_string : FuncId := 112
abbrev slices_IndexFunc__impl_Pat_impl_Pat : FuncId := 113
abbrev internalstrconv_FormatInt : FuncId := 114
abbrev impl_forms_impl_Pat : FuncId := 115
abbrev laws_eqPatS : FuncId := 116
abbrev laws_szCtor : FuncId := 117
abbrev spec_l1Num : FuncId := 118
abbrev laws_toCtor : FuncId := 119
abbrev slices_ContainsFunc__impl_TypeExp_impl_TypeExp : FuncId := 120
abbrev impl_typeOk_1 : FuncId := 121
abbrev slices_IndexFunc__string_string : FuncId := 122
abbrev impl_run : FuncId := 123
abbrev impl_nameByte : FuncId := 124
abbrev strings_Builder_copyCheck : FuncId := 125
abbrev strings_Builder_grow : FuncId := 126
abbrev laws_eqCtor : FuncId := 127
abbrev slices_Index__string_string : FuncId := 128
abbrev laws_szTypeExp : FuncId := 133
abbrev laws_toTypeExp : FuncId := 134
abbrev slices_IndexFunc__impl_TypeExp_impl_TypeExp : FuncId := 135
abbrev impl_digit : FuncId := 136
abbrev laws_eqTypeExp : FuncId := 139
abbrev laws_szTypeExpS : FuncId := 145
abbrev laws_toTypeExpS : FuncId := 146
abbrev laws_eqTypeExpS : FuncId := 147
end F
def FL : List Nat := [3, 4, 5, 6, 8, 9, 10, 11, 13, 14, 15, 16, 17, 18, 21, 22, 23, 24, 25, 26, 27, 29, 30, 31, 32, 33, 34, 35, 36, 37, 39, 40, 41, 42, 43, 44, 45, 46, 47, 48, 49, 50, 51, 52, 53, 55, 56, 57, 58, 59, 60, 61, 62, 63, 64, 65, 66, 67, 68, 69, 70, 71, 73, 74, 75, 76, 77, 78, 79, 80, 81, 82, 83, 84, 85, 86, 87, 88, 89, 90, 93, 94, 95, 96, 97, 98, 99, 100, 103, 104, 105, 106, 107, 108, 110, 111, 112, 113, 114, 115, 116, 117, 118, 120, 121, 122, 123, 124, 127, 128, 129, 130, 133, 135, 136, 139, 140, 141, 142, 143, 144, 145, 147, 148, 149]
def FR : List (Nat × Bool × Nat × Nat) := []
def SG : List (Nat × List Sig) := []
abbrev CF : Cfg := ⟨FL, FR, SG, false⟩
def T.laws_FnExactPrint : T :=
.chk (.cells (.x 0) 8) (
.chk (.cells (.x 0) 8) (
.op (.call F.laws_szProg [(.x 0), (.c (.v (.int .i64 1048576)))] false) (
.op (.bin .lss (.x 1) (.c (.v (.int .i64 0)))) (
.ite (.x 2)
 (.ret [(.c (.v (.bool true)))])
 (.chk (.cells (.x 0) 8) (
 .op (.call F.laws_toProg [(.x 0)] false) (
 .op (.call F.spec_Print [(.x 3)] false) (
 .chk (.cells (.x 0) 8) (
 .op (.call F.laws_toProg [(.x 0)] false) (
 .chk (.cells (.x 5) 8) (
 .chk (.cells (.x 5) 8) (
 .op (.call F.impl_Print [(.x 5)] false) (
 .op (.bin .neq (.x 6) (.x 4)) (
 .ite (.x 7)
  (.ret [(.c (.v (.bool false)))])
  (.chk (.cells (.x 5) 8) (
  .chk (.cells (.x 0) 8) (
  .op (.call F.laws_toProg [(.x 0)] false) (
  .op (.call F.laws_eqProg [(.x 5), (.x 8)] true) (
  .op (.un .not (.x 9)) (
  .ite (.x 10)
   (.ret [(.c (.v (.bool false)))])
   (.ret [(.c (.v (.bool true)))])))))))))))))))))))))
theorem T.laws_FnExactPrint_l : leftF Tryz.prog CF Tryz.f4 = some (1, T.laws_FnExactPrint) := by kernel_rfl
theorem T.laws_FnExactPrint_con {args : List AV} {res : AV} (hl : args.length = 1) (hn : AV.norefs args = true) (hw : wpT Tryz.prog (fun _ _ _ => False) (fun a => a = res) T.laws_FnExactPrint args []) : PCon Tryz.prog F.laws_FnExactPrint args res :=
  con_auto Tryz.func4 T.laws_FnExactPrint_l hl hn hw
def T.laws_szExp : T :=
.chk (.cells (.x 0) 7) (
.op (.lenS (.cell 0 1)) (
.op (.bin .sub (.x 1) (.x 2)) (
.op (.bin .lss (.x 3) (.c (.v (.int .i64 0)))) (
.ite (.x 4)
 (.ret [(.c (.v (.int .i64 (-1))))])
 (.op (.lenS (.cell 0 3)) (
 .op (.bin .sub (.x 3) (.x 5)) (
 .op (.bin .lss (.x 6) (.c (.v (.int .i64 0)))) (
 .ite (.x 7)
  (.ret [(.c (.v (.int .i64 (-1))))])
  (.op (.call F.laws_szExpS [(.cell 0 5), (.x 6)] false) (
  .op (.bin .lss (.x 8) (.c (.v (.int .i64 0)))) (
  .ite (.x 9)
   (.ret [(.c (.v (.int .i64 (-1))))])
   (.op (.call F.laws_szArmS [(.cell 0 6), (.x 8)] false) (
   .op (.bin .lss (.x 10) (.c (.v (.int .i64 0)))) (
   .ite (.x 11)
    (.ret [(.c (.v (.int .i64 (-1))))])
    (.ret [(.x 10)])))))))))))))))
theorem T.laws_szExp_l : leftF Tryz.prog CF Tryz.f5 = some (2, T.laws_szExp) := by kernel_rfl
theorem T.laws_szExp_con {args : List AV} {res : AV} (hl : args.length = 2) (hn : AV.norefs args = true) (hw : wpT Tryz.prog (fun _ _ _ => False) (fun a => a = res) T.laws_szExp args []) : PCon Tryz.prog F.laws_szExp args res :=
  con_auto Tryz.func5 T.laws_szExp_l hl hn hw
def T.laws_toExp : T :=
.chk (.cells (.x 0) 7) (
.chk (.one (.cell 0 0)) (
.chk (.one (.cell 0 1)) (
.chk (.one (.cell 0 2)) (
.chk (.one (.cell 0 3)) (
.chk (.one (.cell 0 4)) (
.op (.call F.laws_toExpS [(.cell 0 5)] false) (
.chk (.one (.x 1)) (
.op (.call F.laws_toArmS [(.cell 0 6)] false) (
.chk (.one (.x 2)) (
.chk (.cells (.agg [(.cell 0 0), (.cell 0 1), (.cell 0 2), (.cell 0 3), (.cell 0 4), (.x 1), (.x 2)]) 7) (
.ret [(.agg [(.cell 0 0), (.cell 0 1), (.cell 0 2), (.cell 0 3), (.cell 0 4), (.x 1), (.x 2)])])))))))))))
theorem T.laws_toExp_l : leftF Tryz.prog CF Tryz.f7 = some (1, T.laws_toExp) := by kernel_rfl
theorem T.laws_toExp_con {args : List AV} {res : AV} (hl : args.length = 1) (hn : AV.norefs args = true) (hw : wpT Tryz.prog (fun _ _ _ => False) (fun a => a = res) T.laws_toExp args []) : PCon Tryz.prog F.laws_toExp args res :=
  con_auto Tryz.func7 T.laws_toExp_l hl hn hw
def T.laws_eqExp : T :=
.chk (.cells (.x 0) 7) (
.chk (.cells (.x 1) 7) (
.op (.bin .neq (.cell 0 0) (.cell 1 0)) (
.ite (.x 2)
 (.ret [(.c (.v (.bool false)))])
 (.op (.bin .neq (.cell 0 1) (.cell 1 1)) (
 .ite (.x 3)
  (.ret [(.c (.v (.bool false)))])
  (.op (.bin .neq (.cell 0 2) (.cell 1 2)) (
  .ite (.x 4)
   (.ret [(.c (.v (.bool false)))])
   (.op (.bin .neq (.cell 0 3) (.cell 1 3)) (
   .ite (.x 5)
    (.ret [(.c (.v (.bool false)))])
    (.op (.bin .neq (.cell 0 4) (.cell 1 4)) (
    .ite (.x 6)
     (.ret [(.c (.v (.bool false)))])
     (.op (.call F.laws_eqExpS [(.cell 0 5), (.cell 1 5)] false) (
     .op (.un .not (.x 7)) (
     .ite (.x 8)
      (.ret [(.c (.v (.bool false)))])
      (.op (.call F.laws_eqArmS [(.cell 0 6), (.cell 1 6)] false) (
      .op (.un .not (.x 9)) (
      .ite (.x 10)
       (.ret [(.c (.v (.bool false)))])
       (.ret [(.c (.v (.bool true)))]))))))))))))))))))
theorem T.laws_eqExp_l : leftF Tryz.prog CF Tryz.f9 = some (2, T.laws_eqExp) := by kernel_rfl
theorem T.laws_eqExp_con {args : List AV} {res : AV} (hl : args.length = 2) (hn : AV.norefs args = true) (hw : wpT Tryz.prog (fun _ _ _ => False) (fun a => a = res) T.laws_eqExp args []) : PCon Tryz.prog F.laws_eqExp args res :=
  con_auto Tryz.func9 T.laws_eqExp_l hl hn hw
def T.laws_szProg : T :=
.chk (.cells (.x 0) 8) (
.op (.call F.laws_szDataS [(.cell 0 0), (.x 1)] false) (
.op (.bin .lss (.x 2) (.c (.v (.int .i64 0)))) (
.ite (.x 3)
 (.ret [(.c (.v (.int .i64 (-1))))])
 (.op (.call F.laws_szExp [(.agg [(.cell 0 1), (.cell 0 2), (.cell 0 3), (.cell 0 4), (.cell 0 5), (.cell 0 6), (.cell 0 7)]), (.x 2)] false) (
 .op (.bin .lss (.x 4) (.c (.v (.int .i64 0)))) (
 .ite (.x 5)
  (.ret [(.c (.v (.int .i64 (-1))))])
  (.ret [(.x 4)])))))))
theorem T.laws_szProg_l : leftF Tryz.prog CF Tryz.f10 = some (2, T.laws_szProg) := by kernel_rfl
theorem T.laws_szProg_con {args : List AV} {res : AV} (hl : args.length = 2) (hn : AV.norefs args = true) (hw : wpT Tryz.prog (fun _ _ _ => False) (fun a => a = res) T.laws_szProg args []) : PCon Tryz.prog F.laws_szProg args res :=
  con_auto Tryz.func10 T.laws_szProg_l hl hn hw
def T.spec_Print : T :=
.chk (.cells (.x 0) 8) (
.chk (.cells (.x 0) 8) (
.op (.call F.spec_ProgOk [(.x 0)] false) (
.op (.un .not (.x 1)) (
.ite (.x 2)
 (.ret [(.c (.v (.string ⟨#[]⟩)))])
 (.bind 1 (
  .loop [(.c (.v (.string ⟨#[]⟩))), (.c (.v (.int .i64 0)))] (
   .op (.lenL (.cell 0 0)) (
   .op (.bin .lss (.x 4) (.x 5)) (
   .ite (.x 6)
    (.bind 5 (
     .op (.elem 4 (.cell 0 0) (.x 4)) (
     .chk (.cells (.x 7) 4) (
     .chk (.cells (.x 7) 4) (
     .op (.bin .add (.x 3) (.c (.v (.string ⟨#[116, 121, 112, 101, 32]⟩)))) (
     .bind 1 (
      .loop [(.x 8), (.c (.v (.int .i64 0)))] (
       .op (.lenL (.cell 7 1)) (
       .op (.bin .lss (.x 10) (.x 11)) (
       .ite (.x 12)
        (.op (.bin .add (.x 9) (.c (.v (.string ⟨#[39]⟩)))) (
        .op (.elem 1 (.cell 7 1) (.x 10)) (
        .chk (.lt (.x 14) 0) (
        .op (.bin .add (.x 13) (.cell 14 0)) (
        .op (.bin .add (.x 15) (.c (.v (.string ⟨#[32]⟩)))) (
        .op (.bin .add (.x 10) (.c (.v (.int .i64 1)))) (
        .jump [(.x 16), (.x 17)])))))))
        (.esc (.jump [(.x 9)])))))) (
     .op (.bin .add (.x 9) (.cell 7 0)) (
     .op (.bin .add (.x 10) (.c (.v (.string ⟨#[32, 61, 32]⟩)))) (
     .bind 1 (
      .loop [(.x 11), (.c (.v (.int .i64 0)))] (
       .op (.lenL (.cell 7 2)) (
       .op (.bin .lss (.x 13) (.x 14)) (
       .ite (.x 15)
        (.bind 1 (
         .bind 1 (
          .op (.bin .gtr (.x 13) (.c (.v (.int .i64 0)))) (
          .ite (.x 16)
           (.op (.bin .add (.x 12) (.c (.v (.string ⟨#[32, 124, 32]⟩)))) (
           .jump [(.x 17)]))
           (.jump [(.x 12)]))) (
         .op (.elem 7 (.cell 7 2) (.x 13)) (
         .chk (.lt (.x 17) 0) (
         .op (.bin .add (.x 16) (.cell 17 0)) (
         .op (.elem 7 (.cell 7 2) (.x 13)) (
         .chk (.lt (.x 19) 1) (
         .ite (.cell 19 1)
          (.op (.bin .add (.x 18) (.c (.v (.string ⟨#[32, 111, 102, 32]⟩)))) (
          .op (.elem 7 (.cell 7 2) (.x 13)) (
          .op (.loadc 2 4 (.x 21)) (
          .op (.call F.spec_l2TypeText [(.x 22), (.c (.v (.int .i64 0)))] false) (
          .op (.bin .add (.x 20) (.x 23)) (
          .jump [(.x 24)]))))))
          (.jump [(.x 18)])))))))) (
        .op (.bin .add (.x 13) (.c (.v (.int .i64 1)))) (
        .jump [(.x 16), (.x 17)])))
        (.esc (.jump [(.x 12)])))))) (
     .op (.bin .add (.x 12) (.c (.v (.string ⟨#[59, 10]⟩)))) (
     .jump [(.cell 7 0), (.cell 7 1), (.cell 7 2), (.cell 7 3), (.x 13)])))))))))) (
    .op (.bin .add (.x 4) (.c (.v (.int .i64 1)))) (
    .jump [(.x 11), (.x 12)])))
    (.esc (.jump [(.x 3)])))))) (
 .op (.call F.spec_l2Text [(.agg [(.cell 0 1), (.cell 0 2), (.cell 0 3), (.cell 0 4), (.cell 0 5), (.cell 0 6), (.cell 0 7)]), (.c (.v (.int .i64 0)))] false) (
 .op (.bin .add (.x 3) (.x 4)) (
 .op (.bin .add (.x 5) (.c (.v (.string ⟨#[10]⟩)))) (
 .ret [(.x 6)])))))))))
theorem T.spec_Print_l : leftF Tryz.prog CF Tryz.f11 = some (1, T.spec_Print) := by kernel_rfl
theorem T.spec_Print_con {args : List AV} {res : AV} (hl : args.length = 1) (hn : AV.norefs args = true) (hw : wpT Tryz.prog (fun _ _ _ => False) (fun a => a = res) T.spec_Print args []) : PCon Tryz.prog F.spec_Print args res :=
  con_auto Tryz.func11 T.spec_Print_l hl hn hw
def T.laws_toProg : T :=
.chk (.cells (.x 0) 8) (
.op (.call F.laws_toDataS [(.cell 0 0)] false) (
.chk (.one (.x 1)) (
.op (.call F.laws_toExp [(.agg [(.cell 0 1), (.cell 0 2), (.cell 0 3), (.cell 0 4), (.cell 0 5), (.cell 0 6), (.cell 0 7)])] false) (
.chk (.cells (.x 2) 7) (
.chk (.cells (.agg [(.x 1), (.cell 2 0), (.cell 2 1), (.cell 2 2), (.cell 2 3), (.cell 2 4), (.cell 2 5), (.cell 2 6)]) 8) (
.ret [(.agg [(.x 1), (.cell 2 0), (.cell 2 1), (.cell 2 2), (.cell 2 3), (.cell 2 4), (.cell 2 5), (.cell 2 6)])]))))))
theorem T.laws_toProg_l : leftF Tryz.prog CF Tryz.f12 = some (1, T.laws_toProg) := by kernel_rfl
theorem T.laws_toProg_con {args : List AV} {res : AV} (hl : args.length = 1) (hn : AV.norefs args = true) (hw : wpT Tryz.prog (fun _ _ _ => False) (fun a => a = res) T.laws_toProg args []) : PCon Tryz.prog F.laws_toProg args res :=
  con_auto Tryz.func12 T.laws_toProg_l hl hn hw
def T.impl_Print : T :=
.chk (.cells (.x 0) 8) (
.chk (.cells (.x 0) 8) (
.op (.call F.impl_ProgOk [(.x 0)] false) (
.op (.un .not (.x 1)) (
.ite (.x 2)
 (.ret [(.c (.v (.string ⟨#[]⟩)))])
 (.op (.call F.impl_typesForm [(.cell 0 0)] true) (
 .op (.call F.impl_expForm [(.agg [(.cell 0 1), (.cell 0 2), (.cell 0 3), (.cell 0 4), (.cell 0 5), (.cell 0 6), (.cell 0 7)]), (.c (.v (.int .i64 0)))] true) (
 .op (.bin .add (.x 3) (.x 4)) (
 .op (.bin .add (.x 5) (.c (.v (.string ⟨#[10]⟩)))) (
 .ret [(.x 6)])))))))))
theorem T.impl_Print_l : leftF Tryz.prog CF Tryz.f13 = some (1, T.impl_Print) := by kernel_rfl
theorem T.impl_Print_con {args : List AV} {res : AV} (hl : args.length = 1) (hn : AV.norefs args = true) (hw : wpT Tryz.prog (fun _ _ _ => False) (fun a => a = res) T.impl_Print args []) : PCon Tryz.prog F.impl_Print args res :=
  con_auto Tryz.func13 T.impl_Print_l hl hn hw
def T.laws_eqProg : T :=
.chk (.cells (.x 0) 8) (
.chk (.cells (.x 1) 8) (
.op (.call F.laws_eqDataS [(.cell 0 0), (.cell 1 0)] false) (
.op (.un .not (.x 2)) (
.ite (.x 3)
 (.ret [(.c (.v (.bool false)))])
 (.op (.call F.laws_eqExp [(.agg [(.cell 0 1), (.cell 0 2), (.cell 0 3), (.cell 0 4), (.cell 0 5), (.cell 0 6), (.cell 0 7)]), (.agg [(.cell 1 1), (.cell 1 2), (.cell 1 3), (.cell 1 4), (.cell 1 5), (.cell 1 6), (.cell 1 7)])] false) (
 .op (.un .not (.x 4)) (
 .ite (.x 5)
  (.ret [(.c (.v (.bool false)))])
  (.ret [(.c (.v (.bool true)))]))))))))
theorem T.laws_eqProg_l : leftF Tryz.prog CF Tryz.f14 = some (2, T.laws_eqProg) := by kernel_rfl
theorem T.laws_eqProg_con {args : List AV} {res : AV} (hl : args.length = 2) (hn : AV.norefs args = true) (hw : wpT Tryz.prog (fun _ _ _ => False) (fun a => a = res) T.laws_eqProg args []) : PCon Tryz.prog F.laws_eqProg args res :=
  con_auto Tryz.func14 T.laws_eqProg_l hl hn hw
def T.laws_szExpS : T :=
.op (.lenL (.x 0)) (
.op (.bin .sub (.x 1) (.x 2)) (
.op (.bin .lss (.x 3) (.c (.v (.int .i64 0)))) (
.ite (.x 4)
 (.ret [(.c (.v (.int .i64 (-1))))])
 (.bind 1 (
  .loop [(.x 3), (.c (.v (.int .i64 0)))] (
   .op (.lenL (.x 0)) (
   .op (.bin .lss (.x 6) (.x 7)) (
   .ite (.x 8)
    (.op (.elem 7 (.x 0) (.x 6)) (
    .chk (.cells (.x 9) 7) (
    .op (.call F.laws_szExp [(.x 9), (.x 5)] false) (
    .op (.bin .lss (.x 10) (.c (.v (.int .i64 0)))) (
    .ite (.x 11)
     (.esc (.esc (.ret [(.c (.v (.int .i64 (-1))))])))
     (.op (.bin .add (.x 6) (.c (.v (.int .i64 1)))) (
     .jump [(.x 10), (.x 12)])))))))
    (.esc (.jump [(.x 5)])))))) (
 .ret [(.x 5)])))))
theorem T.laws_szExpS_l : leftF Tryz.prog CF Tryz.f15 = some (2, T.laws_szExpS) := by kernel_rfl
theorem T.laws_szExpS_con {args : List AV} {res : AV} (hl : args.length = 2) (hn : AV.norefs args = true) (hw : wpT Tryz.prog (fun _ _ _ => False) (fun a => a = res) T.laws_szExpS args []) : PCon Tryz.prog F.laws_szExpS args res :=
  con_auto Tryz.func15 T.laws_szExpS_l hl hn hw
def T.laws_szArmS : T :=
.op (.lenL (.x 0)) (
.op (.bin .sub (.x 1) (.x 2)) (
.op (.bin .lss (.x 3) (.c (.v (.int .i64 0)))) (
.ite (.x 4)
 (.ret [(.c (.v (.int .i64 (-1))))])
 (.bind 1 (
  .loop [(.x 3), (.c (.v (.int .i64 0)))] (
   .op (.lenL (.x 0)) (
   .op (.bin .lss (.x 6) (.x 7)) (
   .ite (.x 8)
    (.op (.elem 12 (.x 0) (.x 6)) (
    .chk (.cells (.x 9) 12) (
    .op (.call F.laws_szArm [(.x 9), (.x 5)] false) (
    .op (.bin .lss (.x 10) (.c (.v (.int .i64 0)))) (
    .ite (.x 11)
     (.esc (.esc (.ret [(.c (.v (.int .i64 (-1))))])))
     (.op (.bin .add (.x 6) (.c (.v (.int .i64 1)))) (
     .jump [(.x 10), (.x 12)])))))))
    (.esc (.jump [(.x 5)])))))) (
 .ret [(.x 5)])))))
theorem T.laws_szArmS_l : leftF Tryz.prog CF Tryz.f16 = some (2, T.laws_szArmS) := by kernel_rfl
theorem T.laws_szArmS_con {args : List AV} {res : AV} (hl : args.length = 2) (hn : AV.norefs args = true) (hw : wpT Tryz.prog (fun _ _ _ => False) (fun a => a = res) T.laws_szArmS args []) : PCon Tryz.prog F.laws_szArmS args res :=
  con_auto Tryz.func16 T.laws_szArmS_l hl hn hw
def T.spec_ExpOk : T :=
.chk (.cells (.x 0) 7) (
.chk (.cells (.x 0) 7) (
.op (.call F.spec_l2Node [(.x 0)] false) (
.op (.un .not (.x 1)) (
.ite (.x 2)
 (.ret [(.c (.v (.bool false)))])
 (.bind 0 (
  .loop [(.c (.v (.int .i64 0)))] (
   .op (.lenL (.cell 0 5)) (
   .op (.bin .lss (.x 3) (.x 4)) (
   .ite (.x 5)
    (.op (.elem 7 (.cell 0 5) (.x 3)) (
    .chk (.cells (.x 6) 7) (
    .op (.call F.spec_ExpOk [(.x 6)] false) (
    .op (.un .not (.x 7)) (
    .ite (.x 8)
     (.esc (.esc (.ret [(.c (.v (.bool false)))])))
     (.op (.bin .add (.x 3) (.c (.v (.int .i64 1)))) (
     .jump [(.x 9)])))))))
    (.esc (.jump [])))))) (
 .bind 0 (
  .loop [(.c (.v (.int .i64 0)))] (
   .op (.lenL (.cell 0 6)) (
   .op (.bin .lss (.x 3) (.x 4)) (
   .ite (.x 5)
    (.bind 0 (
     .bind 1 (
      .op (.elem 12 (.cell 0 6) (.x 3)) (
      .op (.loadc 0 5 (.x 6)) (
      .op (.call F.spec_l2PatOk [(.x 7)] false) (
      .op (.un .not (.x 8)) (
      .ite (.x 9)
       (.jump [(.c (.v (.bool true)))])
       (.op (.elem 12 (.cell 0 6) (.x 3)) (
       .op (.loadc 5 7 (.x 10)) (
       .op (.call F.spec_ExpOk [(.x 11)] false) (
       .op (.un .not (.x 12)) (
       .jump [(.x 13)])))))))))) (
     .ite (.x 6)
      (.esc (.esc (.esc (.ret [(.c (.v (.bool false)))]))))
      (.jump []))) (
    .op (.bin .add (.x 3) (.c (.v (.int .i64 1)))) (
    .jump [(.x 6)])))
    (.esc (.jump [])))))) (
 .ret [(.c (.v (.bool true)))])))))))
theorem T.spec_ExpOk_l : leftF Tryz.prog CF Tryz.f17 = some (1, T.spec_ExpOk) := by kernel_rfl
theorem T.spec_ExpOk_con {args : List AV} {res : AV} (hl : args.length = 1) (hn : AV.norefs args = true) (hw : wpT Tryz.prog (fun _ _ _ => False) (fun a => a = res) T.spec_ExpOk args []) : PCon Tryz.prog F.spec_ExpOk args res :=
  con_auto Tryz.func17 T.spec_ExpOk_l hl hn hw
def T.spec_l2Text : T :=
.chk (.cells (.x 0) 7) (
.chk (.cells (.x 0) 7) (
.op (.call F.spec_l2Form [(.x 0)] true) (
.chk (.cells (.x 0) 7) (
.op (.call F.spec_l2Level [(.x 0)] true) (
.op (.call F.spec_l2Round [(.x 2), (.x 3), (.x 1)] true) (
.ret [(.x 4)]))))))
theorem T.spec_l2Text_l : leftF Tryz.prog CF Tryz.f18 = some (2, T.spec_l2Text) := by kernel_rfl
theorem T.spec_l2Text_con {args : List AV} {res : AV} (hl : args.length = 2) (hn : AV.norefs args = true) (hw : wpT Tryz.prog (fun _ _ _ => False) (fun a => a = res) T.spec_l2Text args []) : PCon Tryz.prog F.spec_l2Text args res :=
  con_auto Tryz.func18 T.spec_l2Text_l hl hn hw
def T.laws_toExpS : T :=
.op (.lenL (.x 0)) (
.op (.rep 104 (.agg [(.v (.int .i64 0)), (.v (.string ⟨#[]⟩)), (.v (.int .i64 0)), (.v (.string ⟨#[]⟩)), (.v (.int .i64 0)), .nils, .nils]) (.x 1) (.x 1)) (
.bind 1 (
 .loop [(.x 2), (.c (.v (.int .i64 0)))] (
  .op (.lenL (.x 0)) (
  .op (.bin .lss (.x 4) (.x 5)) (
  .ite (.x 6)
   (.op (.elem 7 (.x 0) (.x 4)) (
   .chk (.cells (.x 7) 7) (
   .op (.call F.laws_toExp [(.x 7)] false) (
   .chk (.idx (.x 3) (.x 4)) (
   .chk (.cells (.x 8) 7) (
   .op (.set (.x 3) (.x 4) 0 7 (.x 8)) (
   .op (.bin .add (.x 4) (.c (.v (.int .i64 1)))) (
   .jump [(.x 9), (.x 10)]))))))))
   (.esc (.jump [(.x 3)])))))) (
.ret [(.sl (.x 3))])))
theorem T.laws_toExpS_l : leftF Tryz.prog CF Tryz.f19 = some (1, T.laws_toExpS) := by kernel_rfl
theorem T.laws_toExpS_con {args : List AV} {res : AV} (hl : args.length = 1) (hn : AV.norefs args = true) (hw : wpT Tryz.prog (fun _ _ _ => False) (fun a => a = res) T.laws_toExpS args []) : PCon Tryz.prog F.laws_toExpS args res :=
  con_auto Tryz.func19 T.laws_toExpS_l hl hn hw
def T.laws_toArmS : T :=
.op (.lenL (.x 0)) (
.op (.rep 168 (.agg [(.v (.int .i64 0)), (.v (.string ⟨#[]⟩)), (.v (.int .i64 0)), (.v (.int .i64 0)), .nils, (.v (.int .i64 0)), (.v (.string ⟨#[]⟩)), (.v (.int .i64 0)), (.v (.string ⟨#[]⟩)), (.v (.int .i64 0)), .nils, .nils]) (.x 1) (.x 1)) (
.bind 1 (
 .loop [(.x 2), (.c (.v (.int .i64 0)))] (
  .op (.lenL (.x 0)) (
  .op (.bin .lss (.x 4) (.x 5)) (
  .ite (.x 6)
   (.op (.elem 12 (.x 0) (.x 4)) (
   .chk (.cells (.x 7) 12) (
   .op (.call F.laws_toArm [(.x 7)] false) (
   .chk (.idx (.x 3) (.x 4)) (
   .chk (.cells (.x 8) 12) (
   .op (.set (.x 3) (.x 4) 0 12 (.x 8)) (
   .op (.bin .add (.x 4) (.c (.v (.int .i64 1)))) (
   .jump [(.x 9), (.x 10)]))))))))
   (.esc (.jump [(.x 3)])))))) (
.ret [(.sl (.x 3))])))
theorem T.laws_toArmS_l : leftF Tryz.prog CF Tryz.f20 = some (1, T.laws_toArmS) := by kernel_rfl
theorem T.laws_toArmS_con {args : List AV} {res : AV} (hl : args.length = 1) (hn : AV.norefs args = true) (hw : wpT Tryz.prog (fun _ _ _ => False) (fun a => a = res) T.laws_toArmS args []) : PCon Tryz.prog F.laws_toArmS args res :=
  con_auto Tryz.func20 T.laws_toArmS_l hl hn hw
def T.impl_ExpOk : T :=
.chk (.cells (.x 0) 7) (
.chk (.cells (.x 0) 7) (
.op (.call F.impl_headOk [(.x 0)] false) (
.op (.un .not (.x 1)) (
.ite (.x 2)
 (.ret [(.c (.v (.bool false)))])
 (.bind 0 (
  .op (.lenL (.cell 0 5)) (
  .loop [(.c (.v (.int .i64 0)))] (
   .op (.bin .lss (.x 4) (.x 3)) (
   .ite (.x 5)
    (.op (.elem 7 (.cell 0 5) (.x 4)) (
    .chk (.cells (.x 6) 7) (
    .chk (.cells (.x 6) 7) (
    .chk (.cells (.x 6) 7) (
    .op (.call F.impl_ExpOk [(.x 6)] false) (
    .op (.un .not (.x 7)) (
    .ite (.x 8)
     (.esc (.esc (.ret [(.c (.v (.bool false)))])))
     (.op (.bin .add (.x 4) (.c (.v (.int .i64 1)))) (
     .jump [(.x 9)])))))))))
    (.esc (.jump [])))))) (
 .bind 0 (
  .op (.lenL (.cell 0 6)) (
  .loop [(.c (.v (.int .i64 0)))] (
   .op (.bin .lss (.x 4) (.x 3)) (
   .ite (.x 5)
    (.bind 12 (
     .op (.elem 12 (.cell 0 6) (.x 4)) (
     .chk (.cells (.x 6) 12) (
     .chk (.cells (.x 6) 12) (
     .bind 1 (
      .op (.call F.impl_patOk [(.agg [(.cell 6 0), (.cell 6 1), (.cell 6 2), (.cell 6 3), (.cell 6 4)])] false) (
      .op (.un .not (.x 7)) (
      .ite (.x 8)
       (.jump [(.c (.v (.bool true)))])
       (.op (.call F.impl_ExpOk [(.agg [(.cell 6 5), (.cell 6 6), (.cell 6 7), (.cell 6 8), (.cell 6 9), (.cell 6 10), (.cell 6 11)])] false) (
       .op (.un .not (.x 9)) (
       .jump [(.x 10)])))))) (
     .ite (.x 7)
      (.esc (.esc (.esc (.ret [(.c (.v (.bool false)))]))))
      (.jump [(.cell 6 0), (.cell 6 1), (.cell 6 2), (.cell 6 3), (.cell 6 4), (.cell 6 5), (.cell 6 6), (.cell 6 7), (.cell 6 8), (.cell 6 9), (.cell 6 10), (.cell 6 11)])))))) (
    .op (.bin .add (.x 4) (.c (.v (.int .i64 1)))) (
    .jump [(.x 18)])))
    (.esc (.jump [])))))) (
 .ret [(.c (.v (.bool true)))])))))))
theorem T.impl_ExpOk_l : leftF Tryz.prog CF Tryz.f21 = some (1, T.impl_ExpOk) := by kernel_rfl
theorem T.impl_ExpOk_con {args : List AV} {res : AV} (hl : args.length = 1) (hn : AV.norefs args = true) (hw : wpT Tryz.prog (fun _ _ _ => False) (fun a => a = res) T.impl_ExpOk args []) : PCon Tryz.prog F.impl_ExpOk args res :=
  con_auto Tryz.func21 T.impl_ExpOk_l hl hn hw
def T.impl_expForm : T :=
.chk (.cells (.x 0) 7) (
.bind 0 (
 .op (.bin .eql (.cell 0 0) (.c (.v (.int .i64 1)))) (
 .ite (.x 2)
  (.op (.call F.strconv_Itoa [(.cell 0 2)] false) (
  .esc (.ret [(.x 3)])))
  (.op (.bin .eql (.cell 0 0) (.c (.v (.int .i64 2)))) (
  .ite (.x 3)
   (.op (.call F.impl_quoted [(.cell 0 3)] false) (
   .esc (.ret [(.x 4)])))
   (.op (.bin .eql (.cell 0 0) (.c (.v (.int .i64 3)))) (
   .ite (.x 4)
    (.op (.call F.impl_boolWord [(.cell 0 2)] false) (
    .esc (.ret [(.x 5)])))
    (.op (.bin .eql (.cell 0 0) (.c (.v (.int .i64 4)))) (
    .ite (.x 5)
     (.esc (.ret [(.c (.v (.string ⟨#[40, 41]⟩)))]))
     (.op (.bin .eql (.cell 0 0) (.c (.v (.int .i64 5)))) (
     .ite (.x 6)
      (.esc (.ret [(.cell 0 1)]))
      (.op (.bin .eql (.cell 0 0) (.c (.v (.int .i64 7)))) (
      .ite (.x 7)
       (.op (.call F.impl_forms_impl_Exp [(.cell 0 5), (.c (.v (.int .i64 0))), (.c (.v (.string ⟨#[44, 32]⟩))), (.c (.fn F.impl_expForm []))] false) (
       .op (.bin .add (.c (.v (.string ⟨#[40]⟩))) (.x 8)) (
       .op (.bin .add (.x 9) (.c (.v (.string ⟨#[41]⟩)))) (
       .esc (.ret [(.x 10)])))))
       (.op (.bin .eql (.cell 0 0) (.c (.v (.int .i64 14)))) (
       .ite (.x 8)
        (.op (.call F.impl_opLevels [(.cell 0 1)] false) (
        .chk (.tup (.x 9) 0) (
        .chk (.tup (.x 9) 1) (
        .chk (.tup (.x 9) 2) (
        .op (.elem 7 (.cell 0 5) (.c (.v (.int .i64 0)))) (
        .chk (.cells (.x 10) 7) (
        .op (.call F.impl_expForm [(.x 10), (.ext 9 1)] true) (
        .op (.bin .add (.x 11) (.c (.v (.string ⟨#[32]⟩)))) (
        .op (.bin .add (.x 12) (.cell 0 1)) (
        .op (.bin .add (.x 13) (.c (.v (.string ⟨#[32]⟩)))) (
        .op (.elem 7 (.cell 0 5) (.c (.v (.int .i64 1)))) (
        .chk (.cells (.x 15) 7) (
        .op (.call F.impl_expForm [(.x 15), (.ext 9 2)] true) (
        .op (.bin .add (.x 14) (.x 16)) (
        .op (.call F.impl_bracketed [(.x 17), (.ext 9 0), (.x 1)] true) (
        .esc (.ret [(.x 18)])))))))))))))))))
        (.bind 1 (
         .op (.bin .eql (.cell 0 0) (.c (.v (.int .i64 6)))) (
         .ite (.x 9)
          (.jump [(.x 9)])
          (.op (.bin .eql (.cell 0 0) (.c (.v (.int .i64 15)))) (
          .jump [(.x 10)])))) (
        .ite (.x 9)
         (.op (.lenL (.cell 0 5)) (
         .op (.bin .eql (.x 10) (.c (.v (.int .i64 0)))) (
         .ite (.x 11)
          (.esc (.ret [(.cell 0 1)]))
          (.op (.bin .add (.cell 0 1) (.c (.v (.string ⟨#[32]⟩)))) (
          .op (.elem 7 (.cell 0 5) (.c (.v (.int .i64 0)))) (
          .chk (.cells (.x 13) 7) (
          .op (.call F.impl_expForm [(.x 13), (.c (.v (.int .i64 6)))] true) (
          .op (.bin .add (.x 12) (.x 14)) (
          .op (.call F.impl_bracketed [(.x 15), (.c (.v (.int .i64 5))), (.x 1)] true) (
          .esc (.ret [(.x 16)])))))))))))
         (.op (.bin .eql (.cell 0 0) (.c (.v (.int .i64 9)))) (
         .ite (.x 10)
          (.op (.elem 7 (.cell 0 5) (.c (.v (.int .i64 0)))) (
          .chk (.cells (.x 11) 7) (
          .op (.call F.impl_expForm [(.x 11), (.c (.v (.int .i64 5)))] false) (
          .bind 1 (
           .bind 1 (
            .op (.elem 7 (.cell 0 5) (.c (.v (.int .i64 0)))) (
            .chk (.lt (.x 13) 0) (
            .op (.bin .eql (.cell 13 0) (.c (.v (.int .i64 6)))) (
            .ite (.x 14)
             (.op (.elem 7 (.cell 0 5) (.c (.v (.int .i64 0)))) (
             .chk (.lt (.x 15) 5) (
             .op (.lenL (.cell 15 5)) (
             .op (.bin .eql (.x 16) (.c (.v (.int .i64 0)))) (
             .jump [(.x 17)])))))
             (.jump [(.c (.v (.bool false)))]))))) (
           .ite (.x 13)
            (.op (.bin .add (.c (.v (.string ⟨#[40]⟩))) (.x 12)) (
            .op (.bin .add (.x 14) (.c (.v (.string ⟨#[41]⟩)))) (
            .jump [(.x 15)])))
            (.jump [(.x 12)]))) (
          .op (.bin .add (.x 13) (.c (.v (.string ⟨#[32]⟩)))) (
          .op (.elem 7 (.cell 0 5) (.c (.v (.int .i64 1)))) (
          .chk (.cells (.x 15) 7) (
          .op (.call F.impl_expForm [(.x 15), (.c (.v (.int .i64 6)))] false) (
          .op (.bin .add (.x 14) (.x 16)) (
          .op (.call F.impl_bracketed [(.x 17), (.c (.v (.int .i64 5))), (.x 1)] false) (
          .esc (.ret [(.x 18)]))))))))))))
          (.jump []))))))))))))))))))) (
.chk (.cells (.x 0) 7) (
.op (.call F.impl_openForm [(.x 0)] false) (
.op (.call F.impl_bracketed [(.x 2), (.c (.v (.int .i64 0))), (.x 1)] false) (
.ret [(.x 3)])))))
theorem T.impl_expForm_l : leftF Tryz.prog CF Tryz.f22 = some (2, T.impl_expForm) := by kernel_rfl
theorem T.impl_expForm_con {args : List AV} {res : AV} (hl : args.length = 2) (hn : AV.norefs args = true) (hw : wpT Tryz.prog (fun _ _ _ => False) (fun a => a = res) T.impl_expForm args []) : PCon Tryz.prog F.impl_expForm args res :=
  con_auto Tryz.func22 T.impl_expForm_l hl hn hw
def T.laws_eqExpS : T :=
.op (.lenL (.x 0)) (
.op (.lenL (.x 1)) (
.op (.bin .neq (.x 2) (.x 3)) (
.ite (.x 4)
 (.ret [(.c (.v (.bool false)))])
 (.bind 0 (
  .loop [(.c (.v (.int .i64 0)))] (
   .op (.lenL (.x 0)) (
   .op (.bin .lss (.x 5) (.x 6)) (
   .ite (.x 7)
    (.op (.elem 7 (.x 0) (.x 5)) (
    .chk (.cells (.x 8) 7) (
    .op (.elem 7 (.x 1) (.x 5)) (
    .chk (.cells (.x 9) 7) (
    .op (.call F.laws_eqExp [(.x 8), (.x 9)] true) (
    .op (.un .not (.x 10)) (
    .ite (.x 11)
     (.esc (.esc (.ret [(.c (.v (.bool false)))])))
     (.op (.bin .add (.x 5) (.c (.v (.int .i64 1)))) (
     .jump [(.x 12)])))))))))
    (.esc (.jump [])))))) (
 .ret [(.c (.v (.bool true)))])))))
theorem T.laws_eqExpS_l : leftF Tryz.prog CF Tryz.f23 = some (2, T.laws_eqExpS) := by kernel_rfl
theorem T.laws_eqExpS_con {args : List AV} {res : AV} (hl : args.length = 2) (hn : AV.norefs args = true) (hw : wpT Tryz.prog (fun _ _ _ => False) (fun a => a = res) T.laws_eqExpS args []) : PCon Tryz.prog F.laws_eqExpS args res :=
  con_auto Tryz.func23 T.laws_eqExpS_l hl hn hw
def T.laws_eqArmS : T :=
.op (.lenL (.x 0)) (
.op (.lenL (.x 1)) (
.op (.bin .neq (.x 2) (.x 3)) (
.ite (.x 4)
 (.ret [(.c (.v (.bool false)))])
 (.bind 0 (
  .loop [(.c (.v (.int .i64 0)))] (
   .op (.lenL (.x 0)) (
   .op (.bin .lss (.x 5) (.x 6)) (
   .ite (.x 7)
    (.op (.elem 12 (.x 0) (.x 5)) (
    .chk (.cells (.x 8) 12) (
    .op (.elem 12 (.x 1) (.x 5)) (
    .chk (.cells (.x 9) 12) (
    .op (.call F.laws_eqArm [(.x 8), (.x 9)] true) (
    .op (.un .not (.x 10)) (
    .ite (.x 11)
     (.esc (.esc (.ret [(.c (.v (.bool false)))])))
     (.op (.bin .add (.x 5) (.c (.v (.int .i64 1)))) (
     .jump [(.x 12)])))))))))
    (.esc (.jump [])))))) (
 .ret [(.c (.v (.bool true)))])))))
theorem T.laws_eqArmS_l : leftF Tryz.prog CF Tryz.f24 = some (2, T.laws_eqArmS) := by kernel_rfl
theorem T.laws_eqArmS_con {args : List AV} {res : AV} (hl : args.length = 2) (hn : AV.norefs args = true) (hw : wpT Tryz.prog (fun _ _ _ => False) (fun a => a = res) T.laws_eqArmS args []) : PCon Tryz.prog F.laws_eqArmS args res :=
  con_auto Tryz.func24 T.laws_eqArmS_l hl hn hw
def T.laws_szDataS : T :=
.op (.lenL (.x 0)) (
.op (.bin .sub (.x 1) (.x 2)) (
.op (.bin .lss (.x 3) (.c (.v (.int .i64 0)))) (
.ite (.x 4)
 (.ret [(.c (.v (.int .i64 (-1))))])
 (.bind 1 (
  .loop [(.x 3), (.c (.v (.int .i64 0)))] (
   .op (.lenL (.x 0)) (
   .op (.bin .lss (.x 6) (.x 7)) (
   .ite (.x 8)
    (.op (.elem 4 (.x 0) (.x 6)) (
    .chk (.cells (.x 9) 4) (
    .op (.call F.laws_szData [(.x 9), (.x 5)] false) (
    .op (.bin .lss (.x 10) (.c (.v (.int .i64 0)))) (
    .ite (.x 11)
     (.esc (.esc (.ret [(.c (.v (.int .i64 (-1))))])))
     (.op (.bin .add (.x 6) (.c (.v (.int .i64 1)))) (
     .jump [(.x 10), (.x 12)])))))))
    (.esc (.jump [(.x 5)])))))) (
 .ret [(.x 5)])))))
theorem T.laws_szDataS_l : leftF Tryz.prog CF Tryz.f25 = some (2, T.laws_szDataS) := by kernel_rfl
theorem T.laws_szDataS_con {args : List AV} {res : AV} (hl : args.length = 2) (hn : AV.norefs args = true) (hw : wpT Tryz.prog (fun _ _ _ => False) (fun a => a = res) T.laws_szDataS args []) : PCon Tryz.prog F.laws_szDataS args res :=
  con_auto Tryz.func25 T.laws_szDataS_l hl hn hw
def T.spec_ProgOk : T :=
.chk (.cells (.x 0) 8) (
.bind 0 (
 .loop [(.c (.v (.int .i64 0)))] (
  .op (.lenL (.cell 0 0)) (
  .op (.bin .lss (.x 1) (.x 2)) (
  .ite (.x 3)
   (.bind 4 (
    .op (.elem 4 (.cell 0 0) (.x 1)) (
    .chk (.cells (.x 4) 4) (
    .chk (.cells (.x 4) 4) (
    .bind 0 (
     .bind 1 (
      .op (.call F.spec_l1Low [(.cell 4 0)] false) (
      .op (.un .not (.x 5)) (
      .ite (.x 6)
       (.jump [(.c (.v (.bool true)))])
       (.op (.bin .lss (.cell 4 3) (.c (.v (.int .i64 0)))) (
       .ite (.x 7)
        (.jump [(.c (.v (.bool true)))])
        (.op (.lenL (.cell 4 2)) (
        .op (.bin .eql (.x 8) (.c (.v (.int .i64 0)))) (
        .jump [(.x 9)])))))))) (
     .ite (.x 5)
      (.esc (.esc (.esc (.esc (.ret [(.c (.v (.bool false)))])))))
      (.jump []))) (
    .bind 0 (
     .loop [(.c (.v (.int .i64 0)))] (
      .op (.lenL (.cell 4 1)) (
      .op (.bin .lss (.x 5) (.x 6)) (
      .ite (.x 7)
       (.op (.elem 1 (.cell 4 1) (.x 5)) (
       .chk (.lt (.x 8) 0) (
       .op (.call F.spec_l1Name [(.cell 8 0), (.c (.v (.bool false)))] false) (
       .op (.un .not (.x 9)) (
       .ite (.x 10)
        (.esc (.esc (.esc (.esc (.esc (.ret [(.c (.v (.bool false)))]))))))
        (.op (.bin .add (.x 5) (.c (.v (.int .i64 1)))) (
        .jump [(.x 11)])))))))
       (.esc (.jump [])))))) (
    .loop [(.c (.v (.int .i64 0)))] (
     .op (.lenL (.cell 4 2)) (
     .op (.bin .lss (.x 5) (.x 6)) (
     .ite (.x 7)
      (.bind 7 (
       .op (.elem 7 (.cell 4 2) (.x 5)) (
       .chk (.cells (.x 8) 7) (
       .chk (.cells (.x 8) 7) (
       .bind 1 (
        .op (.call F.spec_l1Name [(.cell 8 0), (.c (.v (.bool true)))] false) (
        .op (.un .not (.x 9)) (
        .ite (.x 10)
         (.jump [(.c (.v (.bool true)))])
         (.op (.bin .lss (.cell 8 6) (.c (.v (.int .i64 0)))) (
         .ite (.x 11)
          (.jump [(.c (.v (.bool true)))])
          (.ite (.cell 8 1)
           (.op (.call F.spec_l2TypeOk [(.agg [(.cell 8 2), (.cell 8 3), (.cell 8 4), (.cell 8 5)])] false) (
           .op (.un .not (.x 12)) (
           .ite (.x 13)
            (.jump [(.c (.v (.bool true)))])
            (.op (.un .not (.cell 8 1)) (
            .ite (.x 14)
             (.op (.call F.spec_l2NoType [(.agg [(.cell 8 2), (.cell 8 3), (.cell 8 4), (.cell 8 5)])] false) (
             .op (.un .not (.x 15)) (
             .jump [(.x 16)])))
             (.jump [(.c (.v (.bool false)))]))))))
           (.op (.un .not (.cell 8 1)) (
           .ite (.x 12)
            (.op (.call F.spec_l2NoType [(.agg [(.cell 8 2), (.cell 8 3), (.cell 8 4), (.cell 8 5)])] false) (
            .op (.un .not (.x 13)) (
            .jump [(.x 14)])))
            (.jump [(.c (.v (.bool false)))]))))))))) (
       .ite (.x 9)
        (.esc (.esc (.esc (.esc (.esc (.ret [(.c (.v (.bool false)))]))))))
        (.jump [(.cell 8 0), (.cell 8 1), (.cell 8 2), (.cell 8 3), (.cell 8 4), (.cell 8 5), (.cell 8 6)])))))) (
      .op (.bin .add (.x 5) (.c (.v (.int .i64 1)))) (
      .jump [(.x 15)])))
      (.esc (.jump [(.cell 4 0), (.cell 4 1), (.cell 4 2), (.cell 4 3)]))))))))))) (
   .op (.bin .add (.x 1) (.c (.v (.int .i64 1)))) (
   .jump [(.x 8)])))
   (.esc (.jump [])))))) (
.op (.call F.spec_ExpOk [(.agg [(.cell 0 1), (.cell 0 2), (.cell 0 3), (.cell 0 4), (.cell 0 5), (.cell 0 6), (.cell 0 7)])] false) (
.ret [(.x 1)])))
theorem T.spec_ProgOk_l : leftF Tryz.prog CF Tryz.f26 = some (1, T.spec_ProgOk) := by kernel_rfl
theorem T.spec_ProgOk_con {args : List AV} {res : AV} (hl : args.length = 1) (hn : AV.norefs args = true) (hw : wpT Tryz.prog (fun _ _ _ => False) (fun a => a = res) T.spec_ProgOk args []) : PCon Tryz.prog F.spec_ProgOk args res :=
  con_auto Tryz.func26 T.spec_ProgOk_l hl hn hw
def T.spec_l2TypeText : T :=
.chk (.cells (.x 0) 4) (
.bind 2 (
 .op (.bin .eql (.cell 0 0) (.c (.v (.int .i64 3)))) (
 .ite (.x 2)
  (.op (.elem 4 (.cell 0 3) (.c (.v (.int .i64 0)))) (
  .chk (.cells (.x 3) 4) (
  .op (.call F.spec_l2TypeText [(.x 3), (.c (.v (.int .i64 1)))] true) (
  .op (.bin .add (.x 4) (.c (.v (.string ⟨#[32, 45, 62, 32]⟩)))) (
  .op (.elem 4 (.cell 0 3) (.c (.v (.int .i64 1)))) (
  .chk (.cells (.x 6) 4) (
  .op (.call F.spec_l2TypeText [(.x 6), (.c (.v (.int .i64 0)))] true) (
  .op (.bin .add (.x 5) (.x 7)) (
  .jump [(.x 8), (.c (.v (.int .i64 0)))])))))))))
  (.op (.bin .eql (.cell 0 0) (.c (.v (.int .i64 4)))) (
  .ite (.x 3)
   (.loop [(.c (.v (.string ⟨#[]⟩))), (.c (.v (.int .i64 0)))] (
    .op (.lenL (.cell 0 3)) (
    .op (.bin .lss (.x 5) (.x 6)) (
    .ite (.x 7)
     (.bind 1 (
      .bind 1 (
       .op (.bin .gtr (.x 5) (.c (.v (.int .i64 0)))) (
       .ite (.x 8)
        (.op (.bin .add (.x 4) (.c (.v (.string ⟨#[32, 42, 32]⟩)))) (
        .jump [(.x 9)]))
        (.jump [(.x 4)]))) (
      .op (.elem 4 (.cell 0 3) (.x 5)) (
      .chk (.cells (.x 9) 4) (
      .op (.call F.spec_l2TypeText [(.x 9), (.c (.v (.int .i64 2)))] false) (
      .op (.bin .add (.x 8) (.x 10)) (
      .jump [(.x 11)])))))) (
     .op (.bin .add (.x 5) (.c (.v (.int .i64 1)))) (
     .jump [(.x 8), (.x 9)])))
     (.esc (.jump [(.x 4), (.c (.v (.int .i64 1)))]))))))
   (.op (.bin .eql (.cell 0 0) (.c (.v (.int .i64 2)))) (
   .ite (.x 4)
    (.op (.bin .add (.c (.v (.string ⟨#[39]⟩))) (.cell 0 1)) (
    .jump [(.x 5), (.c (.v (.int .i64 3)))]))
    (.bind 1 (
     .op (.bin .eql (.cell 0 0) (.c (.v (.int .i64 5)))) (
     .ite (.x 5)
      (.jump [(.c (.v (.string ⟨#[114, 101, 102]⟩)))])
      (.jump [(.cell 0 1)]))) (
    .loop [(.x 5), (.c (.v (.int .i64 3))), (.c (.v (.int .i64 0)))] (
     .op (.lenL (.cell 0 3)) (
     .op (.bin .lss (.x 8) (.x 9)) (
     .ite (.x 10)
      (.op (.bin .add (.x 6) (.c (.v (.string ⟨#[32]⟩)))) (
      .op (.elem 4 (.cell 0 3) (.x 8)) (
      .chk (.cells (.x 12) 4) (
      .op (.call F.spec_l2TypeText [(.x 12), (.c (.v (.int .i64 3)))] false) (
      .op (.bin .add (.x 11) (.x 13)) (
      .op (.bin .add (.x 8) (.c (.v (.int .i64 1)))) (
      .jump [(.x 14), (.c (.v (.int .i64 2))), (.x 15)])))))))
      (.esc (.jump [(.x 6), (.x 7)]))))))))))))) (
.op (.call F.spec_l2Round [(.x 2), (.x 3), (.x 1)] false) (
.ret [(.x 4)])))
theorem T.spec_l2TypeText_l : leftF Tryz.prog CF Tryz.f27 = some (2, T.spec_l2TypeText) := by kernel_rfl
theorem T.spec_l2TypeText_con {args : List AV} {res : AV} (hl : args.length = 2) (hn : AV.norefs args = true) (hw : wpT Tryz.prog (fun _ _ _ => False) (fun a => a = res) T.spec_l2TypeText args []) : PCon Tryz.prog F.spec_l2TypeText args res :=
  con_auto Tryz.func27 T.spec_l2TypeText_l hl hn hw
def T.laws_toDataS : T :=
.op (.lenL (.x 0)) (
.op (.rep 72 (.agg [(.v (.string ⟨#[]⟩)), .nils, .nils, (.v (.int .i64 0))]) (.x 1) (.x 1)) (
.bind 1 (
 .loop [(.x 2), (.c (.v (.int .i64 0)))] (
  .op (.lenL (.x 0)) (
  .op (.bin .lss (.x 4) (.x 5)) (
  .ite (.x 6)
   (.op (.elem 4 (.x 0) (.x 4)) (
   .chk (.cells (.x 7) 4) (
   .op (.call F.laws_toData [(.x 7)] false) (
   .chk (.idx (.x 3) (.x 4)) (
   .chk (.cells (.x 8) 4) (
   .op (.set (.x 3) (.x 4) 0 4 (.x 8)) (
   .op (.bin .add (.x 4) (.c (.v (.int .i64 1)))) (
   .jump [(.x 9), (.x 10)]))))))))
   (.esc (.jump [(.x 3)])))))) (
.ret [(.sl (.x 3))])))
theorem T.laws_toDataS_l : leftF Tryz.prog CF Tryz.f28 = some (1, T.laws_toDataS) := by kernel_rfl
theorem T.laws_toDataS_con {args : List AV} {res : AV} (hl : args.length = 1) (hn : AV.norefs args = true) (hw : wpT Tryz.prog (fun _ _ _ => False) (fun a => a = res) T.laws_toDataS args []) : PCon Tryz.prog F.laws_toDataS args res :=
  con_auto Tryz.func28 T.laws_toDataS_l hl hn hw
def T.impl_ProgOk : T :=
.chk (.cells (.x 0) 8) (
.bind 1 (
 .op (.call F.impl_ExpOk [(.agg [(.cell 0 1), (.cell 0 2), (.cell 0 3), (.cell 0 4), (.cell 0 5), (.cell 0 6), (.cell 0 7)])] false) (
 .ite (.x 1)
  (.op (.call F.slices_ContainsFunc__impl_Data_impl_Data [(.cell 0 0), (.c (.fn F.impl_ProgOk_1 []))] false) (
  .op (.un .not (.x 2)) (
  .jump [(.x 3)])))
  (.jump [(.c (.v (.bool false)))]))) (
.ret [(.x 1)]))
theorem T.impl_ProgOk_l : leftF Tryz.prog CF Tryz.f29 = some (1, T.impl_ProgOk) := by kernel_rfl
theorem T.impl_ProgOk_con {args : List AV} {res : AV} (hl : args.length = 1) (hn : AV.norefs args = true) (hw : wpT Tryz.prog (fun _ _ _ => False) (fun a => a = res) T.impl_ProgOk args []) : PCon Tryz.prog F.impl_ProgOk args res :=
  con_auto Tryz.func29 T.impl_ProgOk_l hl hn hw
def T.impl_typesForm : T :=
.bind 1 (
 .op (.lenL (.x 0)) (
 .loop [(.c (.sl [])), (.c (.v (.int .i64 0)))] (
  .op (.bin .lss (.x 3) (.x 1)) (
  .ite (.x 4)
   (.bind 6 (
    .op (.elem 4 (.x 0) (.x 3)) (
    .chk (.cells (.x 5) 4) (
    .chk (.cells (.x 5) 4) (
    .op (.appS 1 1 (.x 2) (.c (.v (.string ⟨#[116, 121, 112, 101, 32]⟩)))) (
    .bind 1 (
     .op (.lenL (.cell 5 1)) (
     .loop [(.x 6), (.c (.v (.int .i64 0)))] (
      .op (.bin .lss (.x 9) (.x 7)) (
      .ite (.x 10)
       (.op (.elem 1 (.cell 5 1) (.x 9)) (
       .chk (.lt (.x 11) 0) (
       .op (.bin .add (.c (.v (.string ⟨#[39]⟩))) (.cell 11 0)) (
       .op (.bin .add (.x 12) (.c (.v (.string ⟨#[32]⟩)))) (
       .op (.appS 1 1 (.x 8) (.x 13)) (
       .op (.bin .add (.x 9) (.c (.v (.int .i64 1)))) (
       .jump [(.x 14), (.x 15)])))))))
       (.esc (.jump [(.x 8)])))))) (
    .bind 1 (
     .op (.lenL (.cell 5 2)) (
     .loop [(.c (.sl [])), (.c (.v (.int .i64 0)))] (
      .op (.bin .lss (.x 10) (.x 8)) (
      .ite (.x 11)
       (.bind 9 (
        .op (.elem 7 (.cell 5 2) (.x 10)) (
        .chk (.cells (.x 12) 7) (
        .chk (.cells (.x 12) 7) (
        .bind 1 (
         .ite (.cell 12 1)
          (.op (.call F.impl_typeForm [(.agg [(.cell 12 2), (.cell 12 3), (.cell 12 4), (.cell 12 5)]), (.c (.v (.int .i64 0)))] false) (
          .op (.bin .add (.c (.v (.string ⟨#[32, 111, 102, 32]⟩))) (.x 13)) (
          .op (.bin .add (.cell 12 0) (.x 14)) (
          .jump [(.x 15)]))))
          (.jump [(.cell 12 0)])) (
        .chk (.one (.x 13)) (
        .op (.mkl (.v (.string ⟨#[]⟩)) 1 [(0, (.x 13))]) (
        .op (.app 1 16 (.x 9) (.sl (.x 14))) (
        .jump [(.x 15), (.cell 12 0), (.cell 12 1), (.cell 12 2), (.cell 12 3), (.cell 12 4), (.cell 12 5), (.cell 12 6), (.x 14)])))))))) (
       .op (.bin .add (.x 10) (.c (.v (.int .i64 1)))) (
       .jump [(.x 12), (.x 21)])))
       (.esc (.jump [(.x 9)])))))) (
    .op (.bin .add (.cell 5 0) (.c (.v (.string ⟨#[32, 61, 32]⟩)))) (
    .op (.call F.strings_Join [(.sl (.x 8)), (.c (.v (.string ⟨#[32, 124, 32]⟩)))] true) (
    .op (.bin .add (.x 9) (.x 10)) (
    .op (.bin .add (.x 11) (.c (.v (.string ⟨#[59, 10]⟩)))) (
    .op (.appS 1 1 (.x 7) (.x 12)) (
    .jump [(.x 13), (.cell 5 0), (.cell 5 1), (.cell 5 2), (.cell 5 3), (.x 8)])))))))))))) (
   .op (.bin .add (.x 3) (.c (.v (.int .i64 1)))) (
   .jump [(.x 5), (.x 11)])))
   (.esc (.jump [(.x 2)])))))) (
.op (.pu .b2s [(.sl (.x 1))]) (
.ret [(.x 2)]))
theorem T.impl_typesForm_l : leftF Tryz.prog CF Tryz.f30 = some (1, T.impl_typesForm) := by kernel_rfl
theorem T.impl_typesForm_con {args : List AV} {res : AV} (hl : args.length = 1) (hn : AV.norefs args = true) (hw : wpT Tryz.prog (fun _ _ _ => False) (fun a => a = res) T.impl_typesForm args []) : PCon Tryz.prog F.impl_typesForm args res :=
  con_auto Tryz.func30 T.impl_typesForm_l hl hn hw
def T.laws_eqDataS : T :=
.op (.lenL (.x 0)) (
.op (.lenL (.x 1)) (
.op (.bin .neq (.x 2) (.x 3)) (
.ite (.x 4)
 (.ret [(.c (.v (.bool false)))])
 (.bind 0 (
  .loop [(.c (.v (.int .i64 0)))] (
   .op (.lenL (.x 0)) (
   .op (.bin .lss (.x 5) (.x 6)) (
   .ite (.x 7)
    (.op (.elem 4 (.x 0) (.x 5)) (
    .chk (.cells (.x 8) 4) (
    .op (.elem 4 (.x 1) (.x 5)) (
    .chk (.cells (.x 9) 4) (
    .op (.call F.laws_eqData [(.x 8), (.x 9)] true) (
    .op (.un .not (.x 10)) (
    .ite (.x 11)
     (.esc (.esc (.ret [(.c (.v (.bool false)))])))
     (.op (.bin .add (.x 5) (.c (.v (.int .i64 1)))) (
     .jump [(.x 12)])))))))))
    (.esc (.jump [])))))) (
 .ret [(.c (.v (.bool true)))])))))
theorem T.laws_eqDataS_l : leftF Tryz.prog CF Tryz.f31 = some (2, T.laws_eqDataS) := by kernel_rfl
theorem T.laws_eqDataS_con {args : List AV} {res : AV} (hl : args.length = 2) (hn : AV.norefs args = true) (hw : wpT Tryz.prog (fun _ _ _ => False) (fun a => a = res) T.laws_eqDataS args []) : PCon Tryz.prog F.laws_eqDataS args res :=
  con_auto Tryz.func31 T.laws_eqDataS_l hl hn hw
def T.laws_szArm : T :=
.chk (.cells (.x 0) 12) (
.op (.call F.laws_szPat [(.agg [(.cell 0 0), (.cell 0 1), (.cell 0 2), (.cell 0 3), (.cell 0 4)]), (.x 1)] false) (
.op (.bin .lss (.x 2) (.c (.v (.int .i64 0)))) (
.ite (.x 3)
 (.ret [(.c (.v (.int .i64 (-1))))])
 (.op (.call F.laws_szExp [(.agg [(.cell 0 5), (.cell 0 6), (.cell 0 7), (.cell 0 8), (.cell 0 9), (.cell 0 10), (.cell 0 11)]), (.x 2)] false) (
 .op (.bin .lss (.x 4) (.c (.v (.int .i64 0)))) (
 .ite (.x 5)
  (.ret [(.c (.v (.int .i64 (-1))))])
  (.ret [(.x 4)])))))))
theorem T.laws_szArm_l : leftF Tryz.prog CF Tryz.f32 = some (2, T.laws_szArm) := by kernel_rfl
theorem T.laws_szArm_con {args : List AV} {res : AV} (hl : args.length = 2) (hn : AV.norefs args = true) (hw : wpT Tryz.prog (fun _ _ _ => False) (fun a => a = res) T.laws_szArm args []) : PCon Tryz.prog F.laws_szArm args res :=
  con_auto Tryz.func32 T.laws_szArm_l hl hn hw
def T.spec_l2Node : T :=
.chk (.cells (.x 0) 7) (
.op (.lenL (.cell 0 5)) (
.bind 0 (
 .op (.bin .eql (.cell 0 0) (.c (.v (.int .i64 1)))) (
 .ite (.x 2)
  (.bind 1 (
   .chk (.cells (.x 0) 7) (
   .op (.call F.spec_l2Plain [(.x 0), (.c (.v (.string ⟨#[117]⟩)))] false) (
   .ite (.x 3)
    (.op (.bin .geq (.cell 0 2) (.c (.v (.int .i64 0)))) (
    .ite (.x 4)
     (.op (.bin .eql (.x 1) (.c (.v (.int .i64 0)))) (
     .jump [(.x 5)]))
     (.jump [(.c (.v (.bool false)))])))
    (.jump [(.c (.v (.bool false)))])))) (
  .esc (.ret [(.x 3)])))
  (.op (.bin .eql (.cell 0 0) (.c (.v (.int .i64 2)))) (
  .ite (.x 3)
   (.bind 1 (
    .chk (.cells (.x 0) 7) (
    .op (.call F.spec_l2Plain [(.x 0), (.c (.v (.string ⟨#[116]⟩)))] false) (
    .ite (.x 4)
     (.op (.call F.spec_l1Chars [(.cell 0 3)] false) (
     .ite (.x 5)
      (.op (.bin .eql (.x 1) (.c (.v (.int .i64 0)))) (
      .jump [(.x 6)]))
      (.jump [(.c (.v (.bool false)))])))
     (.jump [(.c (.v (.bool false)))])))) (
   .esc (.ret [(.x 4)])))
   (.op (.bin .eql (.cell 0 0) (.c (.v (.int .i64 3)))) (
   .ite (.x 4)
    (.bind 1 (
     .chk (.cells (.x 0) 7) (
     .op (.call F.spec_l2Plain [(.x 0), (.c (.v (.string ⟨#[117]⟩)))] false) (
     .ite (.x 5)
      (.op (.call F.spec_l1In [(.cell 0 2), (.c (.v (.int .i64 0))), (.c (.v (.int .i64 1)))] false) (
      .ite (.x 6)
       (.op (.bin .eql (.x 1) (.c (.v (.int .i64 0)))) (
       .jump [(.x 7)]))
       (.jump [(.c (.v (.bool false)))])))
      (.jump [(.c (.v (.bool false)))])))) (
    .esc (.ret [(.x 5)])))
    (.op (.bin .eql (.cell 0 0) (.c (.v (.int .i64 4)))) (
    .ite (.x 5)
     (.bind 1 (
      .chk (.cells (.x 0) 7) (
      .op (.call F.spec_l2Plain [(.x 0), (.c (.v (.string ⟨#[]⟩)))] false) (
      .ite (.x 6)
       (.op (.bin .eql (.x 1) (.c (.v (.int .i64 0)))) (
       .jump [(.x 7)]))
       (.jump [(.c (.v (.bool false)))])))) (
     .esc (.ret [(.x 6)])))
     (.op (.bin .eql (.cell 0 0) (.c (.v (.int .i64 5)))) (
     .ite (.x 6)
      (.bind 1 (
       .chk (.cells (.x 0) 7) (
       .op (.call F.spec_l2Plain [(.x 0), (.c (.v (.string ⟨#[110]⟩)))] false) (
       .ite (.x 7)
        (.op (.call F.spec_l1Low [(.cell 0 1)] false) (
        .ite (.x 8)
         (.op (.bin .eql (.x 1) (.c (.v (.int .i64 0)))) (
         .jump [(.x 9)]))
         (.jump [(.c (.v (.bool false)))])))
        (.jump [(.c (.v (.bool false)))])))) (
      .esc (.ret [(.x 7)])))
      (.op (.bin .eql (.cell 0 0) (.c (.v (.int .i64 6)))) (
      .ite (.x 7)
       (.bind 1 (
        .chk (.cells (.x 0) 7) (
        .op (.call F.spec_l2Plain [(.x 0), (.c (.v (.string ⟨#[110]⟩)))] false) (
        .ite (.x 8)
         (.op (.call F.spec_l1Name [(.cell 0 1), (.c (.v (.bool true)))] false) (
         .ite (.x 9)
          (.op (.bin .leq (.x 1) (.c (.v (.int .i64 1)))) (
          .jump [(.x 10)]))
          (.jump [(.c (.v (.bool false)))])))
         (.jump [(.c (.v (.bool false)))])))) (
       .esc (.ret [(.x 8)])))
       (.op (.bin .eql (.cell 0 0) (.c (.v (.int .i64 7)))) (
       .ite (.x 8)
        (.bind 1 (
         .chk (.cells (.x 0) 7) (
         .op (.call F.spec_l2Plain [(.x 0), (.c (.v (.string ⟨#[]⟩)))] false) (
         .ite (.x 9)
          (.op (.bin .geq (.x 1) (.c (.v (.int .i64 2)))) (
          .jump [(.x 10)]))
          (.jump [(.c (.v (.bool false)))])))) (
        .esc (.ret [(.x 9)])))
        (.op (.bin .eql (.cell 0 0) (.c (.v (.int .i64 8)))) (
        .ite (.x 9)
         (.bind 1 (
          .chk (.cells (.x 0) 7) (
          .op (.call F.spec_l2Plain [(.x 0), (.c (.v (.string ⟨#[110]⟩)))] false) (
          .ite (.x 10)
           (.op (.call F.spec_l1Low [(.cell 0 1)] false) (
           .ite (.x 11)
            (.op (.bin .eql (.x 1) (.c (.v (.int .i64 1)))) (
            .jump [(.x 12)]))
            (.jump [(.c (.v (.bool false)))])))
           (.jump [(.c (.v (.bool false)))])))) (
         .esc (.ret [(.x 10)])))
         (.op (.bin .eql (.cell 0 0) (.c (.v (.int .i64 9)))) (
         .ite (.x 10)
          (.bind 1 (
           .chk (.cells (.x 0) 7) (
           .op (.call F.spec_l2Plain [(.x 0), (.c (.v (.string ⟨#[]⟩)))] false) (
           .ite (.x 11)
            (.op (.bin .eql (.x 1) (.c (.v (.int .i64 2)))) (
            .jump [(.x 12)]))
            (.jump [(.c (.v (.bool false)))])))) (
          .esc (.ret [(.x 11)])))
          (.op (.bin .eql (.cell 0 0) (.c (.v (.int .i64 10)))) (
          .ite (.x 11)
           (.bind 1 (
            .chk (.cells (.x 0) 7) (
            .op (.call F.spec_l2Plain [(.x 0), (.c (.v (.string ⟨#[110]⟩)))] false) (
            .ite (.x 12)
             (.op (.call F.spec_l1Low [(.cell 0 1)] false) (
             .ite (.x 13)
              (.op (.bin .eql (.x 1) (.c (.v (.int .i64 2)))) (
              .jump [(.x 14)]))
              (.jump [(.c (.v (.bool false)))])))
             (.jump [(.c (.v (.bool false)))])))) (
           .esc (.ret [(.x 12)])))
           (.op (.bin .eql (.cell 0 0) (.c (.v (.int .i64 11)))) (
           .ite (.x 12)
            (.bind 1 (
             .chk (.cells (.x 0) 7) (
             .op (.call F.spec_l2Plain [(.x 0), (.c (.v (.string ⟨#[110, 116]⟩)))] false) (
             .ite (.x 13)
              (.op (.call F.spec_l1Low [(.cell 0 1)] false) (
              .ite (.x 14)
               (.op (.call F.spec_l1Low [(.cell 0 3)] false) (
               .ite (.x 15)
                (.op (.bin .eql (.x 1) (.c (.v (.int .i64 2)))) (
                .jump [(.x 16)]))
                (.jump [(.c (.v (.bool false)))])))
               (.jump [(.c (.v (.bool false)))])))
              (.jump [(.c (.v (.bool false)))])))) (
            .esc (.ret [(.x 13)])))
            (.op (.bin .eql (.cell 0 0) (.c (.v (.int .i64 12)))) (
            .ite (.x 13)
             (.bind 1 (
              .chk (.cells (.x 0) 7) (
              .op (.call F.spec_l2Plain [(.x 0), (.c (.v (.string ⟨#[]⟩)))] false) (
              .ite (.x 14)
               (.op (.bin .eql (.x 1) (.c (.v (.int .i64 3)))) (
               .jump [(.x 15)]))
               (.jump [(.c (.v (.bool false)))])))) (
             .esc (.ret [(.x 14)])))
             (.op (.bin .eql (.cell 0 0) (.c (.v (.int .i64 13)))) (
             .ite (.x 14)
              (.bind 1 (
               .chk (.cells (.x 0) 7) (
               .op (.call F.spec_l2Plain [(.x 0), (.c (.v (.string ⟨#[]⟩)))] false) (
               .ite (.x 15)
                (.op (.bin .eql (.x 1) (.c (.v (.int .i64 1)))) (
                .ite (.x 16)
                 (.op (.lenL (.cell 0 6)) (
                 .op (.bin .gtr (.x 17) (.c (.v (.int .i64 0)))) (
                 .jump [(.x 18)])))
                 (.jump [(.c (.v (.bool false)))])))
                (.jump [(.c (.v (.bool false)))])))) (
              .esc (.ret [(.x 15)])))
              (.op (.bin .eql (.cell 0 0) (.c (.v (.int .i64 14)))) (
              .ite (.x 15)
               (.bind 1 (
                .chk (.cells (.x 0) 7) (
                .op (.call F.spec_l2Plain [(.x 0), (.c (.v (.string ⟨#[110]⟩)))] false) (
                .ite (.x 16)
                 (.op (.call F.spec_l2Op [(.cell 0 1)] false) (
                 .ite (.x 17)
                  (.op (.bin .eql (.x 1) (.c (.v (.int .i64 2)))) (
                  .jump [(.x 18)]))
                  (.jump [(.c (.v (.bool false)))])))
                 (.jump [(.c (.v (.bool false)))])))) (
               .esc (.ret [(.x 16)])))
               (.op (.bin .eql (.cell 0 0) (.c (.v (.int .i64 15)))) (
               .ite (.x 16)
                (.bind 1 (
                 .chk (.cells (.x 0) 7) (
                 .op (.call F.spec_l2Plain [(.x 0), (.c (.v (.string ⟨#[110]⟩)))] false) (
                 .ite (.x 17)
                  (.op (.bin .eql (.cell 0 1) (.c (.v (.string ⟨#[114, 101, 97, 100]⟩)))) (
                  .ite (.x 18)
                   (.op (.bin .eql (.x 1) (.c (.v (.int .i64 0)))) (
                   .ite (.x 19)
                    (.jump [(.c (.v (.bool true)))])
                    (.op (.call F.spec_l2Prim [(.cell 0 1)] false) (
                    .ite (.x 20)
                     (.op (.bin .eql (.x 1) (.c (.v (.int .i64 1)))) (
                     .jump [(.x 21)]))
                     (.jump [(.c (.v (.bool false)))])))))
                   (.op (.call F.spec_l2Prim [(.cell 0 1)] false) (
                   .ite (.x 19)
                    (.op (.bin .eql (.x 1) (.c (.v (.int .i64 1)))) (
                    .jump [(.x 20)]))
                    (.jump [(.c (.v (.bool false)))])))))
                  (.jump [(.c (.v (.bool false)))])))) (
                .esc (.ret [(.x 17)])))
                (.jump []))))))))))))))))))))))))))))))) (
.ret [(.c (.v (.bool false)))])))
theorem T.spec_l2Node_l : leftF Tryz.prog CF Tryz.f33 = some (1, T.spec_l2Node) := by kernel_rfl
theorem T.spec_l2Node_con {args : List AV} {res : AV} (hl : args.length = 1) (hn : AV.norefs args = true) (hw : wpT Tryz.prog (fun _ _ _ => False) (fun a => a = res) T.spec_l2Node args []) : PCon Tryz.prog F.spec_l2Node args res :=
  con_auto Tryz.func33 T.spec_l2Node_l hl hn hw
def T.spec_l2PatOk : T :=
.chk (.cells (.x 0) 5) (
.op (.lenL (.cell 0 4)) (
.op (.bin .geq (.cell 0 3) (.c (.v (.int .i64 0)))) (
.op (.bin .eql (.cell 0 1) (.c (.v (.string ⟨#[]⟩)))) (
.op (.bin .eql (.cell 0 2) (.c (.v (.int .i64 0)))) (
.bind 1 (
 .bind 1 (
  .op (.bin .eql (.cell 0 0) (.c (.v (.int .i64 1)))) (
  .ite (.x 5)
   (.jump [(.x 5)])
   (.op (.bin .eql (.cell 0 0) (.c (.v (.int .i64 5)))) (
   .jump [(.x 6)])))) (
 .ite (.x 5)
  (.ite (.x 2)
   (.ite (.x 3)
    (.ite (.x 4)
     (.op (.bin .eql (.x 1) (.c (.v (.int .i64 0)))) (
     .jump [(.x 6)]))
     (.jump [(.c (.v (.bool false)))]))
    (.jump [(.c (.v (.bool false)))]))
   (.jump [(.c (.v (.bool false)))]))
  (.op (.bin .eql (.cell 0 0) (.c (.v (.int .i64 2)))) (
  .ite (.x 6)
   (.ite (.x 2)
    (.op (.call F.spec_l1Low [(.cell 0 1)] false) (
    .ite (.x 7)
     (.ite (.x 4)
      (.op (.bin .eql (.x 1) (.c (.v (.int .i64 0)))) (
      .jump [(.x 8)]))
      (.jump [(.c (.v (.bool false)))]))
     (.jump [(.c (.v (.bool false)))])))
    (.jump [(.c (.v (.bool false)))]))
   (.op (.bin .eql (.cell 0 0) (.c (.v (.int .i64 3)))) (
   .ite (.x 7)
    (.ite (.x 2)
     (.ite (.x 3)
      (.op (.bin .geq (.cell 0 2) (.c (.v (.int .i64 0)))) (
      .ite (.x 8)
       (.op (.bin .eql (.x 1) (.c (.v (.int .i64 0)))) (
       .jump [(.x 9)]))
       (.jump [(.c (.v (.bool false)))])))
      (.jump [(.c (.v (.bool false)))]))
     (.jump [(.c (.v (.bool false)))]))
    (.op (.bin .eql (.cell 0 0) (.c (.v (.int .i64 4)))) (
    .ite (.x 8)
     (.ite (.x 2)
      (.ite (.x 3)
       (.op (.call F.spec_l1In [(.cell 0 2), (.c (.v (.int .i64 0))), (.c (.v (.int .i64 1)))] false) (
       .ite (.x 9)
        (.op (.bin .eql (.x 1) (.c (.v (.int .i64 0)))) (
        .jump [(.x 10)]))
        (.jump [(.c (.v (.bool false)))])))
       (.jump [(.c (.v (.bool false)))]))
      (.jump [(.c (.v (.bool false)))]))
     (.op (.bin .eql (.cell 0 0) (.c (.v (.int .i64 6)))) (
     .ite (.x 9)
      (.ite (.x 2)
       (.ite (.x 3)
        (.ite (.x 4)
         (.op (.bin .geq (.x 1) (.c (.v (.int .i64 2)))) (
         .jump [(.x 10)]))
         (.jump [(.c (.v (.bool false)))]))
        (.jump [(.c (.v (.bool false)))]))
       (.jump [(.c (.v (.bool false)))]))
      (.op (.bin .eql (.cell 0 0) (.c (.v (.int .i64 7)))) (
      .ite (.x 10)
       (.ite (.x 2)
        (.op (.call F.spec_l1Name [(.cell 0 1), (.c (.v (.bool true)))] false) (
        .ite (.x 11)
         (.ite (.x 4)
          (.op (.bin .leq (.x 1) (.c (.v (.int .i64 1)))) (
          .jump [(.x 12)]))
          (.jump [(.c (.v (.bool false)))]))
         (.jump [(.c (.v (.bool false)))])))
        (.jump [(.c (.v (.bool false)))]))
       (.esc (.ret [(.c (.v (.bool false)))])))))))))))))) (
.bind 1 (
 .loop [(.x 5), (.c (.v (.int .i64 0)))] (
  .bind 0 (
   .bind 1 (
    .op (.bin .lss (.x 7) (.x 1)) (
    .ite (.x 8)
     (.jump [(.x 6)])
     (.jump [(.c (.v (.bool false)))]))) (
   .ite (.x 8)
    (.jump [])
    (.esc (.esc (.jump [(.x 6)]))))) (
  .op (.elem 5 (.cell 0 4) (.x 7)) (
  .chk (.cells (.x 8) 5) (
  .op (.call F.spec_l2PatOk [(.x 8)] false) (
  .op (.bin .add (.x 7) (.c (.v (.int .i64 1)))) (
  .jump [(.x 9), (.x 10)]))))))) (
.ret [(.x 6)])))))))
theorem T.spec_l2PatOk_l : leftF Tryz.prog CF Tryz.f34 = some (1, T.spec_l2PatOk) := by kernel_rfl
theorem T.spec_l2PatOk_con {args : List AV} {res : AV} (hl : args.length = 1) (hn : AV.norefs args = true) (hw : wpT Tryz.prog (fun _ _ _ => False) (fun a => a = res) T.spec_l2PatOk args []) : PCon Tryz.prog F.spec_l2PatOk args res :=
  con_auto Tryz.func34 T.spec_l2PatOk_l hl hn hw
def T.spec_l2Round : T :=
.op (.bin .lss (.x 1) (.x 2)) (
.ite (.x 3)
 (.op (.bin .add (.c (.v (.string ⟨#[40]⟩))) (.x 0)) (
 .op (.bin .add (.x 4) (.c (.v (.string ⟨#[41]⟩)))) (
 .ret [(.x 5)])))
 (.ret [(.x 0)]))
theorem T.spec_l2Round_l : leftF Tryz.prog CF Tryz.f35 = some (3, T.spec_l2Round) := by kernel_rfl
theorem T.spec_l2Round_con {args : List AV} {res : AV} (hl : args.length = 3) (hn : AV.norefs args = true) (hw : wpT Tryz.prog (fun _ _ _ => False) (fun a => a = res) T.spec_l2Round args []) : PCon Tryz.prog F.spec_l2Round args res :=
  con_auto Tryz.func35 T.spec_l2Round_l hl hn hw
def T.spec_l2Form : T :=
.chk (.cells (.x 0) 7) (
.bind 0 (
 .op (.bin .eql (.cell 0 0) (.c (.v (.int .i64 1)))) (
 .ite (.x 1)
  (.op (.call F.spec_l1Decimal [(.cell 0 2)] false) (
  .esc (.ret [(.x 2)])))
  (.op (.bin .eql (.cell 0 0) (.c (.v (.int .i64 2)))) (
  .ite (.x 2)
   (.op (.call F.spec_l1Quoted [(.cell 0 3)] false) (
   .esc (.ret [(.x 3)])))
   (.op (.bin .eql (.cell 0 0) (.c (.v (.int .i64 3)))) (
   .ite (.x 3)
    (.op (.call F.spec_l2Bool [(.cell 0 2)] false) (
    .esc (.ret [(.x 4)])))
    (.op (.bin .eql (.cell 0 0) (.c (.v (.int .i64 4)))) (
    .ite (.x 4)
     (.esc (.ret [(.c (.v (.string ⟨#[40, 41]⟩)))]))
     (.op (.bin .eql (.cell 0 0) (.c (.v (.int .i64 5)))) (
     .ite (.x 5)
      (.esc (.ret [(.cell 0 1)]))
      (.bind 1 (
       .op (.bin .eql (.cell 0 0) (.c (.v (.int .i64 6)))) (
       .ite (.x 6)
        (.jump [(.x 6)])
        (.op (.bin .eql (.cell 0 0) (.c (.v (.int .i64 15)))) (
        .jump [(.x 7)])))) (
      .ite (.x 6)
       (.op (.lenL (.cell 0 5)) (
       .op (.bin .eql (.x 7) (.c (.v (.int .i64 1)))) (
       .ite (.x 8)
        (.op (.bin .add (.cell 0 1) (.c (.v (.string ⟨#[32]⟩)))) (
        .op (.elem 7 (.cell 0 5) (.c (.v (.int .i64 0)))) (
        .chk (.cells (.x 10) 7) (
        .op (.call F.spec_l2Text [(.x 10), (.c (.v (.int .i64 6)))] true) (
        .op (.bin .add (.x 9) (.x 11)) (
        .esc (.ret [(.x 12)])))))))
        (.esc (.ret [(.cell 0 1)])))))
       (.op (.bin .eql (.cell 0 0) (.c (.v (.int .i64 7)))) (
       .ite (.x 7)
        (.bind 1 (
         .loop [(.c (.v (.string ⟨#[40]⟩))), (.c (.v (.int .i64 0)))] (
          .op (.lenL (.cell 0 5)) (
          .op (.bin .lss (.x 9) (.x 10)) (
          .ite (.x 11)
           (.bind 1 (
            .bind 1 (
             .op (.bin .gtr (.x 9) (.c (.v (.int .i64 0)))) (
             .ite (.x 12)
              (.op (.bin .add (.x 8) (.c (.v (.string ⟨#[44, 32]⟩)))) (
              .jump [(.x 13)]))
              (.jump [(.x 8)]))) (
            .op (.elem 7 (.cell 0 5) (.x 9)) (
            .chk (.cells (.x 13) 7) (
            .op (.call F.spec_l2Text [(.x 13), (.c (.v (.int .i64 0)))] false) (
            .op (.bin .add (.x 12) (.x 14)) (
            .jump [(.x 15)])))))) (
           .op (.bin .add (.x 9) (.c (.v (.int .i64 1)))) (
           .jump [(.x 12), (.x 13)])))
           (.esc (.jump [(.x 8)])))))) (
        .op (.bin .add (.x 8) (.c (.v (.string ⟨#[41]⟩)))) (
        .esc (.ret [(.x 9)]))))
        (.op (.bin .eql (.cell 0 0) (.c (.v (.int .i64 8)))) (
        .ite (.x 8)
         (.op (.bin .add (.c (.v (.string ⟨#[102, 117, 110, 32]⟩))) (.cell 0 1)) (
         .op (.bin .add (.x 9) (.c (.v (.string ⟨#[32, 45, 62, 32]⟩)))) (
         .op (.elem 7 (.cell 0 5) (.c (.v (.int .i64 0)))) (
         .chk (.cells (.x 11) 7) (
         .op (.call F.spec_l2Text [(.x 11), (.c (.v (.int .i64 0)))] true) (
         .op (.bin .add (.x 10) (.x 12)) (
         .esc (.ret [(.x 13)]))))))))
         (.op (.bin .eql (.cell 0 0) (.c (.v (.int .i64 9)))) (
         .ite (.x 9)
          (.bind 1 (
           .bind 1 (
            .op (.elem 7 (.cell 0 5) (.c (.v (.int .i64 0)))) (
            .chk (.lt (.x 10) 0) (
            .op (.bin .eql (.cell 10 0) (.c (.v (.int .i64 6)))) (
            .ite (.x 11)
             (.op (.elem 7 (.cell 0 5) (.c (.v (.int .i64 0)))) (
             .chk (.lt (.x 12) 5) (
             .op (.lenL (.cell 12 5)) (
             .op (.bin .eql (.x 13) (.c (.v (.int .i64 0)))) (
             .jump [(.x 14)])))))
             (.jump [(.c (.v (.bool false)))]))))) (
           .ite (.x 10)
            (.jump [(.c (.v (.int .i64 7)))])
            (.jump [(.c (.v (.int .i64 5)))]))) (
          .op (.elem 7 (.cell 0 5) (.c (.v (.int .i64 0)))) (
          .chk (.cells (.x 11) 7) (
          .op (.call F.spec_l2Text [(.x 11), (.x 10)] true) (
          .op (.bin .add (.x 12) (.c (.v (.string ⟨#[32]⟩)))) (
          .op (.elem 7 (.cell 0 5) (.c (.v (.int .i64 1)))) (
          .chk (.cells (.x 14) 7) (
          .op (.call F.spec_l2Text [(.x 14), (.c (.v (.int .i64 6)))] true) (
          .op (.bin .add (.x 13) (.x 15)) (
          .esc (.ret [(.x 16)])))))))))))
          (.op (.bin .eql (.cell 0 0) (.c (.v (.int .i64 14)))) (
          .ite (.x 10)
           (.op (.call F.spec_l2OpLevel [(.cell 0 1)] false) (
           .op (.bin .leq (.x 11) (.c (.v (.int .i64 2)))) (
           .ite (.x 12)
            (.op (.elem 7 (.cell 0 5) (.c (.v (.int .i64 0)))) (
            .chk (.cells (.x 13) 7) (
            .op (.bin .add (.x 11) (.c (.v (.int .i64 1)))) (
            .op (.call F.spec_l2Text [(.x 13), (.x 14)] true) (
            .op (.bin .add (.x 15) (.c (.v (.string ⟨#[32]⟩)))) (
            .op (.bin .add (.x 16) (.cell 0 1)) (
            .op (.bin .add (.x 17) (.c (.v (.string ⟨#[32]⟩)))) (
            .op (.elem 7 (.cell 0 5) (.c (.v (.int .i64 1)))) (
            .chk (.cells (.x 19) 7) (
            .op (.bin .add (.x 11) (.c (.v (.int .i64 1)))) (
            .op (.call F.spec_l2Text [(.x 19), (.x 20)] true) (
            .op (.bin .add (.x 18) (.x 21)) (
            .esc (.ret [(.x 22)]))))))))))))))
            (.op (.elem 7 (.cell 0 5) (.c (.v (.int .i64 0)))) (
            .chk (.cells (.x 13) 7) (
            .op (.call F.spec_l2Text [(.x 13), (.x 11)] true) (
            .op (.bin .add (.x 14) (.c (.v (.string ⟨#[32]⟩)))) (
            .op (.bin .add (.x 15) (.cell 0 1)) (
            .op (.bin .add (.x 16) (.c (.v (.string ⟨#[32]⟩)))) (
            .op (.elem 7 (.cell 0 5) (.c (.v (.int .i64 1)))) (
            .chk (.cells (.x 18) 7) (
            .op (.bin .add (.x 11) (.c (.v (.int .i64 1)))) (
            .op (.call F.spec_l2Text [(.x 18), (.x 19)] true) (
            .op (.bin .add (.x 17) (.x 20)) (
            .esc (.ret [(.x 21)]))))))))))))))))
           (.jump []))))))))))))))))))))) (
.chk (.cells (.x 0) 7) (
.op (.call F.spec_l2Great [(.x 0)] false) (
.ret [(.x 1)]))))
theorem T.spec_l2Form_l : leftF Tryz.prog CF Tryz.f36 = some (1, T.spec_l2Form) := by kernel_rfl
theorem T.spec_l2Form_con {args : List AV} {res : AV} (hl : args.length = 1) (hn : AV.norefs args = true) (hw : wpT Tryz.prog (fun _ _ _ => False) (fun a => a = res) T.spec_l2Form args []) : PCon Tryz.prog F.spec_l2Form args res :=
  con_auto Tryz.func36 T.spec_l2Form_l hl hn hw
def T.spec_l2Level : T :=
.chk (.cells (.x 0) 7) (
.bind 0 (
 .bind 1 (
  .op (.bin .eql (.cell 0 0) (.c (.v (.int .i64 10)))) (
  .ite (.x 1)
   (.jump [(.x 1)])
   (.op (.bin .eql (.cell 0 0) (.c (.v (.int .i64 11)))) (
   .ite (.x 2)
    (.jump [(.x 2)])
    (.op (.bin .eql (.cell 0 0) (.c (.v (.int .i64 8)))) (
    .ite (.x 3)
     (.jump [(.x 3)])
     (.op (.bin .eql (.cell 0 0) (.c (.v (.int .i64 12)))) (
     .ite (.x 4)
      (.jump [(.x 4)])
      (.op (.bin .eql (.cell 0 0) (.c (.v (.int .i64 13)))) (
      .jump [(.x 5)])))))))))) (
 .ite (.x 1)
  (.esc (.ret [(.c (.v (.int .i64 0)))]))
  (.op (.bin .eql (.cell 0 0) (.c (.v (.int .i64 14)))) (
  .ite (.x 2)
   (.op (.call F.spec_l2OpLevel [(.cell 0 1)] false) (
   .esc (.ret [(.x 3)])))
   (.op (.bin .eql (.cell 0 0) (.c (.v (.int .i64 9)))) (
   .ite (.x 3)
    (.esc (.ret [(.c (.v (.int .i64 5)))]))
    (.bind 1 (
     .op (.bin .eql (.cell 0 0) (.c (.v (.int .i64 6)))) (
     .ite (.x 4)
      (.jump [(.x 4)])
      (.op (.bin .eql (.cell 0 0) (.c (.v (.int .i64 15)))) (
      .jump [(.x 5)])))) (
    .ite (.x 4)
     (.op (.lenL (.cell 0 5)) (
     .op (.bin .eql (.x 5) (.c (.v (.int .i64 1)))) (
     .ite (.x 6)
      (.esc (.ret [(.c (.v (.int .i64 5)))]))
      (.jump []))))
     (.jump []))))))))) (
.ret [(.c (.v (.int .i64 6)))]))
theorem T.spec_l2Level_l : leftF Tryz.prog CF Tryz.f37 = some (1, T.spec_l2Level) := by kernel_rfl
theorem T.spec_l2Level_con {args : List AV} {res : AV} (hl : args.length = 1) (hn : AV.norefs args = true) (hw : wpT Tryz.prog (fun _ _ _ => False) (fun a => a = res) T.spec_l2Level args []) : PCon Tryz.prog F.spec_l2Level args res :=
  con_auto Tryz.func37 T.spec_l2Level_l hl hn hw
def T.laws_toArm : T :=
.chk (.cells (.x 0) 12) (
.op (.call F.laws_toPat [(.agg [(.cell 0 0), (.cell 0 1), (.cell 0 2), (.cell 0 3), (.cell 0 4)])] false) (
.chk (.cells (.x 1) 5) (
.op (.call F.laws_toExp [(.agg [(.cell 0 5), (.cell 0 6), (.cell 0 7), (.cell 0 8), (.cell 0 9), (.cell 0 10), (.cell 0 11)])] false) (
.chk (.cells (.x 2) 7) (
.chk (.cells (.agg [(.cell 1 0), (.cell 1 1), (.cell 1 2), (.cell 1 3), (.cell 1 4), (.cell 2 0), (.cell 2 1), (.cell 2 2), (.cell 2 3), (.cell 2 4), (.cell 2 5), (.cell 2 6)]) 12) (
.ret [(.agg [(.cell 1 0), (.cell 1 1), (.cell 1 2), (.cell 1 3), (.cell 1 4), (.cell 2 0), (.cell 2 1), (.cell 2 2), (.cell 2 3), (.cell 2 4), (.cell 2 5), (.cell 2 6)])]))))))
theorem T.laws_toArm_l : leftF Tryz.prog CF Tryz.f38 = some (1, T.laws_toArm) := by kernel_rfl
theorem T.laws_toArm_con {args : List AV} {res : AV} (hl : args.length = 1) (hn : AV.norefs args = true) (hw : wpT Tryz.prog (fun _ _ _ => False) (fun a => a = res) T.laws_toArm args []) : PCon Tryz.prog F.laws_toArm args res :=
  con_auto Tryz.func38 T.laws_toArm_l hl hn hw
def T.impl_headOk : T :=
.chk (.cells (.x 0) 7) (
.op (.lenL (.cell 0 5)) (
.op (.bin .eql (.x 1) (.c (.v (.int .i64 0)))) (
.op (.bin .eql (.cell 0 1) (.c (.v (.string ⟨#[]⟩)))) (
.op (.bin .eql (.cell 0 2) (.c (.v (.int .i64 0)))) (
.op (.bin .eql (.cell 0 3) (.c (.v (.string ⟨#[]⟩)))) (
.bind 4 (
 .op (.bin .eql (.cell 0 0) (.c (.v (.int .i64 1)))) (
 .ite (.x 6)
  (.op (.bin .geq (.cell 0 2) (.c (.v (.int .i64 0)))) (
  .jump [(.x 2), (.x 3), (.x 7), (.x 5)]))
  (.op (.bin .eql (.cell 0 0) (.c (.v (.int .i64 2)))) (
  .ite (.x 7)
   (.op (.call F.impl_plain [(.cell 0 3)] false) (
   .jump [(.x 2), (.x 3), (.x 4), (.x 8)]))
   (.op (.bin .eql (.cell 0 0) (.c (.v (.int .i64 3)))) (
   .ite (.x 8)
    (.op (.call F.impl_within [(.cell 0 2), (.c (.v (.int .i64 0))), (.c (.v (.int .i64 1)))] false) (
    .jump [(.x 2), (.x 3), (.x 9), (.x 5)]))
    (.op (.bin .eql (.cell 0 0) (.c (.v (.int .i64 4)))) (
    .ite (.x 9)
     (.jump [(.x 2), (.x 3), (.x 4), (.x 5)])
     (.op (.bin .eql (.cell 0 0) (.c (.v (.int .i64 5)))) (
     .ite (.x 10)
      (.op (.call F.impl_lowOk [(.cell 0 1)] false) (
      .jump [(.x 2), (.x 11), (.x 4), (.x 5)]))
      (.op (.bin .eql (.cell 0 0) (.c (.v (.int .i64 6)))) (
      .ite (.x 11)
       (.op (.lenL (.cell 0 5)) (
       .op (.bin .leq (.x 12) (.c (.v (.int .i64 1)))) (
       .op (.call F.impl_upOk [(.cell 0 1)] true) (
       .jump [(.x 13), (.x 14), (.x 4), (.x 5)]))))
       (.op (.bin .eql (.cell 0 0) (.c (.v (.int .i64 7)))) (
       .ite (.x 12)
        (.op (.lenL (.cell 0 5)) (
        .op (.bin .geq (.x 13) (.c (.v (.int .i64 2)))) (
        .jump [(.x 14), (.x 3), (.x 4), (.x 5)])))
        (.op (.bin .eql (.cell 0 0) (.c (.v (.int .i64 8)))) (
        .ite (.x 13)
         (.op (.lenL (.cell 0 5)) (
         .op (.bin .eql (.x 14) (.c (.v (.int .i64 1)))) (
         .op (.call F.impl_lowOk [(.cell 0 1)] true) (
         .jump [(.x 15), (.x 16), (.x 4), (.x 5)]))))
         (.op (.bin .eql (.cell 0 0) (.c (.v (.int .i64 9)))) (
         .ite (.x 14)
          (.op (.lenL (.cell 0 5)) (
          .op (.bin .eql (.x 15) (.c (.v (.int .i64 2)))) (
          .jump [(.x 16), (.x 3), (.x 4), (.x 5)])))
          (.op (.bin .eql (.cell 0 0) (.c (.v (.int .i64 10)))) (
          .ite (.x 15)
           (.op (.lenL (.cell 0 5)) (
           .op (.bin .eql (.x 16) (.c (.v (.int .i64 2)))) (
           .op (.call F.impl_lowOk [(.cell 0 1)] true) (
           .jump [(.x 17), (.x 18), (.x 4), (.x 5)]))))
           (.op (.bin .eql (.cell 0 0) (.c (.v (.int .i64 11)))) (
           .ite (.x 16)
            (.op (.lenL (.cell 0 5)) (
            .op (.bin .eql (.x 17) (.c (.v (.int .i64 2)))) (
            .op (.call F.impl_lowOk [(.cell 0 1)] true) (
            .op (.call F.impl_lowOk [(.cell 0 3)] true) (
            .jump [(.x 18), (.x 19), (.x 4), (.x 20)])))))
            (.op (.bin .eql (.cell 0 0) (.c (.v (.int .i64 12)))) (
            .ite (.x 17)
             (.op (.lenL (.cell 0 5)) (
             .op (.bin .eql (.x 18) (.c (.v (.int .i64 3)))) (
             .jump [(.x 19), (.x 3), (.x 4), (.x 5)])))
             (.op (.bin .eql (.cell 0 0) (.c (.v (.int .i64 13)))) (
             .ite (.x 18)
              (.op (.lenL (.cell 0 5)) (
              .op (.bin .eql (.x 19) (.c (.v (.int .i64 1)))) (
              .jump [(.x 20), (.x 3), (.x 4), (.x 5)])))
              (.op (.bin .eql (.cell 0 0) (.c (.v (.int .i64 14)))) (
              .ite (.x 19)
               (.op (.lenL (.cell 0 5)) (
               .op (.bin .eql (.x 20) (.c (.v (.int .i64 2)))) (
               .op (.call F.impl_binarySign [(.cell 0 1)] true) (
               .jump [(.x 21), (.x 22), (.x 4), (.x 5)]))))
               (.op (.bin .eql (.cell 0 0) (.c (.v (.int .i64 15)))) (
               .ite (.x 20)
                (.op (.lenL (.cell 0 5)) (
                .op (.call F.impl_primArity [(.cell 0 1)] true) (
                .op (.bin .eql (.x 21) (.x 22)) (
                .jump [(.x 23), (.c (.v (.bool true))), (.x 4), (.x 5)]))))
                (.esc (.ret [(.c (.v (.bool false)))])))))))))))))))))))))))))))))))) (
.bind 1 (
 .ite (.x 6)
  (.ite (.x 7)
   (.ite (.x 8)
    (.ite (.x 9)
     (.op (.bin .geq (.cell 0 4) (.c (.v (.int .i64 0)))) (
     .ite (.x 10)
      (.op (.bin .eql (.cell 0 0) (.c (.v (.int .i64 13)))) (
      .op (.lenL (.cell 0 6)) (
      .op (.bin .gtr (.x 12) (.c (.v (.int .i64 0)))) (
      .op (.beq false (.x 11) (.x 13)) (
      .jump [(.x 14)])))))
      (.jump [(.c (.v (.bool false)))])))
     (.jump [(.c (.v (.bool false)))]))
    (.jump [(.c (.v (.bool false)))]))
   (.jump [(.c (.v (.bool false)))]))
  (.jump [(.c (.v (.bool false)))])) (
.ret [(.x 10)]))))))))
theorem T.impl_headOk_l : leftF Tryz.prog CF Tryz.f39 = some (1, T.impl_headOk) := by kernel_rfl
theorem T.impl_headOk_con {args : List AV} {res : AV} (hl : args.length = 1) (hn : AV.norefs args = true) (hw : wpT Tryz.prog (fun _ _ _ => False) (fun a => a = res) T.impl_headOk args []) : PCon Tryz.prog F.impl_headOk args res :=
  con_auto Tryz.func39 T.impl_headOk_l hl hn hw
def T.impl_patOk : T :=
.chk (.cells (.x 0) 5) (
.op (.lenL (.cell 0 4)) (
.op (.bin .eql (.x 1) (.c (.v (.int .i64 0)))) (
.op (.bin .eql (.cell 0 1) (.c (.v (.string ⟨#[]⟩)))) (
.op (.bin .eql (.cell 0 2) (.c (.v (.int .i64 0)))) (
.bind 3 (
 .bind 1 (
  .op (.bin .eql (.cell 0 0) (.c (.v (.int .i64 1)))) (
  .ite (.x 5)
   (.jump [(.x 5)])
   (.op (.bin .eql (.cell 0 0) (.c (.v (.int .i64 5)))) (
   .jump [(.x 6)])))) (
 .ite (.x 5)
  (.jump [(.x 2), (.x 3), (.x 4)])
  (.op (.bin .eql (.cell 0 0) (.c (.v (.int .i64 2)))) (
  .ite (.x 6)
   (.op (.call F.impl_lowOk [(.cell 0 1)] false) (
   .jump [(.x 2), (.x 7), (.x 4)]))
   (.op (.bin .eql (.cell 0 0) (.c (.v (.int .i64 3)))) (
   .ite (.x 7)
    (.op (.bin .geq (.cell 0 2) (.c (.v (.int .i64 0)))) (
    .jump [(.x 2), (.x 3), (.x 8)]))
    (.op (.bin .eql (.cell 0 0) (.c (.v (.int .i64 4)))) (
    .ite (.x 8)
     (.op (.call F.impl_within [(.cell 0 2), (.c (.v (.int .i64 0))), (.c (.v (.int .i64 1)))] false) (
     .jump [(.x 2), (.x 3), (.x 9)]))
     (.op (.bin .eql (.cell 0 0) (.c (.v (.int .i64 6)))) (
     .ite (.x 9)
      (.op (.lenL (.cell 0 4)) (
      .op (.bin .geq (.x 10) (.c (.v (.int .i64 2)))) (
      .jump [(.x 11), (.x 3), (.x 4)])))
      (.op (.bin .eql (.cell 0 0) (.c (.v (.int .i64 7)))) (
      .ite (.x 10)
       (.op (.lenL (.cell 0 4)) (
       .op (.bin .leq (.x 11) (.c (.v (.int .i64 1)))) (
       .op (.call F.impl_upOk [(.cell 0 1)] true) (
       .jump [(.x 12), (.x 13), (.x 4)]))))
       (.esc (.ret [(.c (.v (.bool false)))])))))))))))))) (
.bind 1 (
 .ite (.x 5)
  (.ite (.x 6)
   (.ite (.x 7)
    (.op (.bin .geq (.cell 0 3) (.c (.v (.int .i64 0)))) (
    .ite (.x 8)
     (.op (.call F.slices_ContainsFunc__impl_Pat_impl_Pat [(.cell 0 4), (.c (.fn F.impl_patOk_1 []))] false) (
     .op (.un .not (.x 9)) (
     .jump [(.x 10)])))
     (.jump [(.c (.v (.bool false)))])))
    (.jump [(.c (.v (.bool false)))]))
   (.jump [(.c (.v (.bool false)))]))
  (.jump [(.c (.v (.bool false)))])) (
.ret [(.x 8)])))))))
theorem T.impl_patOk_l : leftF Tryz.prog CF Tryz.f40 = some (1, T.impl_patOk) := by kernel_rfl
theorem T.impl_patOk_con {args : List AV} {res : AV} (hl : args.length = 1) (hn : AV.norefs args = true) (hw : wpT Tryz.prog (fun _ _ _ => False) (fun a => a = res) T.impl_patOk args []) : PCon Tryz.prog F.impl_patOk args res :=
  con_auto Tryz.func40 T.impl_patOk_l hl hn hw
def T.impl_quoted : T :=
.chk (.one (.c (.v (.int .u8 34)))) (
.op (.mkl (.v (.int .u8 0)) 1 [(0, (.c (.v (.int .u8 34))))]) (
.bind 1 (
 .loop [(.x 1), (.c (.v (.int .i64 0)))] (
  .op (.lenS (.x 0)) (
  .op (.bin .lss (.x 3) (.x 4)) (
  .ite (.x 5)
   (.bind 2 (
    .op (.idxS (.x 0) (.x 3)) (
    .op (.bin .eql (.x 6) (.c (.v (.int .u8 10)))) (
    .ite (.x 7)
     (.chk (.one (.c (.v (.int .u8 92)))) (
     .chk (.one (.c (.v (.int .u8 110)))) (
     .op (.mkl (.v (.int .u8 0)) 2 [(0, (.c (.v (.int .u8 92)))), (1, (.c (.v (.int .u8 110))))]) (
     .op (.app 1 1 (.x 2) (.sl (.x 8))) (
     .jump [(.x 9), (.x 8)])))))
     (.bind 1 (
      .op (.bin .eql (.x 6) (.c (.v (.int .u8 34)))) (
      .ite (.x 8)
       (.jump [(.x 8)])
       (.op (.bin .eql (.x 6) (.c (.v (.int .u8 92)))) (
       .jump [(.x 9)])))) (
     .ite (.x 8)
      (.op (.idxS (.x 0) (.x 3)) (
      .chk (.one (.c (.v (.int .u8 92)))) (
      .chk (.one (.x 9)) (
      .op (.mkl (.v (.int .u8 0)) 2 [(0, (.c (.v (.int .u8 92)))), (1, (.x 9))]) (
      .op (.app 1 1 (.x 2) (.sl (.x 10))) (
      .jump [(.x 11), (.x 10)]))))))
      (.op (.idxS (.x 0) (.x 3)) (
      .chk (.one (.x 9)) (
      .op (.mkl (.v (.int .u8 0)) 1 [(0, (.x 9))]) (
      .op (.app 1 1 (.x 2) (.sl (.x 10))) (
      .jump [(.x 11), (.x 10)])))))))))) (
   .op (.bin .add (.x 3) (.c (.v (.int .i64 1)))) (
   .jump [(.x 6), (.x 8)])))
   (.esc (.jump [(.x 2)])))))) (
.chk (.one (.c (.v (.int .u8 34)))) (
.op (.mkl (.v (.int .u8 0)) 1 [(0, (.c (.v (.int .u8 34))))]) (
.op (.app 1 1 (.x 2) (.sl (.x 3))) (
.op (.pu .b2s [(.sl (.x 4))]) (
.ret [(.x 5)])))))))
theorem T.impl_quoted_l : leftF Tryz.prog CF Tryz.f42 = some (1, T.impl_quoted) := by kernel_rfl
theorem T.impl_quoted_con {args : List AV} {res : AV} (hl : args.length = 1) (hn : AV.norefs args = true) (hw : wpT Tryz.prog (fun _ _ _ => False) (fun a => a = res) T.impl_quoted args []) : PCon Tryz.prog F.impl_quoted args res :=
  con_auto Tryz.func42 T.impl_quoted_l hl hn hw
def T.impl_boolWord : T :=
.op (.bin .eql (.x 0) (.c (.v (.int .i64 1)))) (
.ite (.x 1)
 (.ret [(.c (.v (.string ⟨#[116, 114, 117, 101]⟩)))])
 (.ret [(.c (.v (.string ⟨#[102, 97, 108, 115, 101]⟩)))]))
theorem T.impl_boolWord_l : leftF Tryz.prog CF Tryz.f43 = some (1, T.impl_boolWord) := by kernel_rfl
theorem T.impl_boolWord_con {args : List AV} {res : AV} (hl : args.length = 1) (hn : AV.norefs args = true) (hw : wpT Tryz.prog (fun _ _ _ => False) (fun a => a = res) T.impl_boolWord args []) : PCon Tryz.prog F.impl_boolWord args res :=
  con_auto Tryz.func43 T.impl_boolWord_l hl hn hw
def T.impl_forms_impl_Exp : T :=
.bind 1 (
 .op (.lenL (.x 0)) (
 .loop [(.c (.sl [])), (.c (.v (.int .i64 0)))] (
  .op (.bin .lss (.x 6) (.x 4)) (
  .ite (.x 7)
   (.op (.elem 7 (.x 0) (.x 6)) (
   .chk (.cells (.x 8) 7) (
   .chk (.cells (.x 8) 7) (
   .chk (.cells (.x 8) 7) (
   .op (.callv (.x 3) [(.x 8), (.x 1)] false) (
   .chk (.one (.x 9)) (
   .op (.mkl (.v (.string ⟨#[]⟩)) 1 [(0, (.x 9))]) (
   .op (.app 1 16 (.x 5) (.sl (.x 10))) (
   .op (.bin .add (.x 6) (.c (.v (.int .i64 1)))) (
   .jump [(.x 11), (.x 12)]))))))))))
   (.esc (.jump [(.x 5)])))))) (
.op (.call F.strings_Join [(.sl (.x 4)), (.x 2)] true) (
.ret [(.x 5)]))
theorem T.impl_forms_impl_Exp_l : leftF Tryz.prog CF Tryz.f44 = some (4, T.impl_forms_impl_Exp) := by kernel_rfl
theorem T.impl_forms_impl_Exp_con {args : List AV} {res : AV} (hl : args.length = 4) (hn : AV.norefs args = true) (hw : wpT Tryz.prog (fun _ _ _ => False) (fun a => a = res) T.impl_forms_impl_Exp args []) : PCon Tryz.prog F.impl_forms_impl_Exp args res :=
  con_auto Tryz.func44 T.impl_forms_impl_Exp_l hl hn hw
def T.impl_opLevels : T :=
.bind 0 (
 .op (.bin .eql (.x 0) (.c (.v (.string ⟨#[58, 61]⟩)))) (
 .ite (.x 1)
  (.esc (.ret [(.c (.v (.int .i64 1))), (.c (.v (.int .i64 2))), (.c (.v (.int .i64 2)))]))
  (.bind 1 (
   .op (.bin .eql (.x 0) (.c (.v (.string ⟨#[61]⟩)))) (
   .ite (.x 2)
    (.jump [(.x 2)])
    (.op (.bin .eql (.x 0) (.c (.v (.string ⟨#[60]⟩)))) (
    .jump [(.x 3)])))) (
  .ite (.x 2)
   (.esc (.ret [(.c (.v (.int .i64 2))), (.c (.v (.int .i64 3))), (.c (.v (.int .i64 3)))]))
   (.op (.bin .eql (.x 0) (.c (.v (.string ⟨#[42]⟩)))) (
   .ite (.x 3)
    (.esc (.ret [(.c (.v (.int .i64 4))), (.c (.v (.int .i64 4))), (.c (.v (.int .i64 5)))]))
    (.jump []))))))) (
.ret [(.c (.v (.int .i64 3))), (.c (.v (.int .i64 3))), (.c (.v (.int .i64 4)))])
theorem T.impl_opLevels_l : leftF Tryz.prog CF Tryz.f45 = some (1, T.impl_opLevels) := by kernel_rfl
theorem T.impl_opLevels_con {args : List AV} {res : AV} (hl : args.length = 1) (hn : AV.norefs args = true) (hw : wpT Tryz.prog (fun _ _ _ => False) (fun a => a = res) T.impl_opLevels args []) : PCon Tryz.prog F.impl_opLevels args res :=
  con_auto Tryz.func45 T.impl_opLevels_l hl hn hw
def T.impl_bracketed : T :=
.op (.bin .lss (.x 1) (.x 2)) (
.ite (.x 3)
 (.op (.bin .add (.c (.v (.string ⟨#[40]⟩))) (.x 0)) (
 .op (.bin .add (.x 4) (.c (.v (.string ⟨#[41]⟩)))) (
 .ret [(.x 5)])))
 (.ret [(.x 0)]))
theorem T.impl_bracketed_l : leftF Tryz.prog CF Tryz.f46 = some (3, T.impl_bracketed) := by kernel_rfl
theorem T.impl_bracketed_con {args : List AV} {res : AV} (hl : args.length = 3) (hn : AV.norefs args = true) (hw : wpT Tryz.prog (fun _ _ _ => False) (fun a => a = res) T.impl_bracketed args []) : PCon Tryz.prog F.impl_bracketed args res :=
  con_auto Tryz.func46 T.impl_bracketed_l hl hn hw
def T.impl_openForm : T :=
.chk (.cells (.x 0) 7) (
.op (.bin .eql (.cell 0 0) (.c (.v (.int .i64 10)))) (
.ite (.x 1)
 (.op (.bin .add (.c (.v (.string ⟨#[108, 101, 116, 32]⟩))) (.cell 0 1)) (
 .op (.bin .add (.x 2) (.c (.v (.string ⟨#[32, 61, 32]⟩)))) (
 .op (.call F.impl_openForm_1 [(.c (.v (.int .i64 0))), (.ip (.agg [(.cell 0 0), (.cell 0 1), (.cell 0 2), (.cell 0 3), (.cell 0 4), (.cell 0 5), (.cell 0 6)]) 0)] false) (
 .op (.bin .add (.x 3) (.x 4)) (
 .op (.bin .add (.x 5) (.c (.v (.string ⟨#[32, 105, 110, 32]⟩)))) (
 .op (.call F.impl_openForm_1 [(.c (.v (.int .i64 1))), (.ip (.agg [(.cell 0 0), (.cell 0 1), (.cell 0 2), (.cell 0 3), (.cell 0 4), (.cell 0 5), (.cell 0 6)]) 0)] false) (
 .op (.bin .add (.x 6) (.x 7)) (
 .ret [(.x 8)]))))))))
 (.op (.bin .eql (.cell 0 0) (.c (.v (.int .i64 11)))) (
 .ite (.x 2)
  (.op (.bin .add (.c (.v (.string ⟨#[108, 101, 116, 32, 114, 101, 99, 32]⟩))) (.cell 0 1)) (
  .op (.bin .add (.x 3) (.c (.v (.string ⟨#[32]⟩)))) (
  .op (.bin .add (.x 4) (.cell 0 3)) (
  .op (.bin .add (.x 5) (.c (.v (.string ⟨#[32, 61, 32]⟩)))) (
  .op (.call F.impl_openForm_1 [(.c (.v (.int .i64 0))), (.ip (.agg [(.cell 0 0), (.cell 0 1), (.cell 0 2), (.cell 0 3), (.cell 0 4), (.cell 0 5), (.cell 0 6)]) 0)] false) (
  .op (.bin .add (.x 6) (.x 7)) (
  .op (.bin .add (.x 8) (.c (.v (.string ⟨#[32, 105, 110, 32]⟩)))) (
  .op (.call F.impl_openForm_1 [(.c (.v (.int .i64 1))), (.ip (.agg [(.cell 0 0), (.cell 0 1), (.cell 0 2), (.cell 0 3), (.cell 0 4), (.cell 0 5), (.cell 0 6)]) 0)] false) (
  .op (.bin .add (.x 9) (.x 10)) (
  .ret [(.x 11)]))))))))))
  (.op (.bin .eql (.cell 0 0) (.c (.v (.int .i64 8)))) (
  .ite (.x 3)
   (.op (.bin .add (.c (.v (.string ⟨#[102, 117, 110, 32]⟩))) (.cell 0 1)) (
   .op (.bin .add (.x 4) (.c (.v (.string ⟨#[32, 45, 62, 32]⟩)))) (
   .op (.call F.impl_openForm_1 [(.c (.v (.int .i64 0))), (.ip (.agg [(.cell 0 0), (.cell 0 1), (.cell 0 2), (.cell 0 3), (.cell 0 4), (.cell 0 5), (.cell 0 6)]) 0)] false) (
   .op (.bin .add (.x 5) (.x 6)) (
   .ret [(.x 7)])))))
   (.op (.bin .eql (.cell 0 0) (.c (.v (.int .i64 12)))) (
   .ite (.x 4)
    (.op (.call F.impl_openForm_1 [(.c (.v (.int .i64 0))), (.ip (.agg [(.cell 0 0), (.cell 0 1), (.cell 0 2), (.cell 0 3), (.cell 0 4), (.cell 0 5), (.cell 0 6)]) 0)] false) (
    .op (.bin .add (.c (.v (.string ⟨#[105, 102, 32]⟩))) (.x 5)) (
    .op (.bin .add (.x 6) (.c (.v (.string ⟨#[32, 116, 104, 101, 110, 32]⟩)))) (
    .op (.call F.impl_openForm_1 [(.c (.v (.int .i64 1))), (.ip (.agg [(.cell 0 0), (.cell 0 1), (.cell 0 2), (.cell 0 3), (.cell 0 4), (.cell 0 5), (.cell 0 6)]) 0)] false) (
    .op (.bin .add (.x 7) (.x 8)) (
    .op (.bin .add (.x 9) (.c (.v (.string ⟨#[32, 101, 108, 115, 101, 32]⟩)))) (
    .op (.call F.impl_openForm_1 [(.c (.v (.int .i64 2))), (.ip (.agg [(.cell 0 0), (.cell 0 1), (.cell 0 2), (.cell 0 3), (.cell 0 4), (.cell 0 5), (.cell 0 6)]) 0)] false) (
    .op (.bin .add (.x 10) (.x 11)) (
    .ret [(.x 12)])))))))))
    (.op (.call F.impl_openForm_1 [(.c (.v (.int .i64 0))), (.ip (.agg [(.cell 0 0), (.cell 0 1), (.cell 0 2), (.cell 0 3), (.cell 0 4), (.cell 0 5), (.cell 0 6)]) 0)] false) (
    .op (.bin .add (.c (.v (.string ⟨#[109, 97, 116, 99, 104, 32]⟩))) (.x 5)) (
    .op (.bin .add (.x 6) (.c (.v (.string ⟨#[32, 119, 105, 116, 104]⟩)))) (
    .bind 1 (
     .op (.lenL (.cell 0 6)) (
     .loop [(.x 7), (.c (.v (.int .i64 0)))] (
      .op (.bin .lss (.x 10) (.x 8)) (
      .ite (.x 11)
       (.op (.elem 12 (.cell 0 6) (.x 10)) (
       .chk (.cells (.x 12) 12) (
       .chk (.cells (.x 12) 12) (
       .op (.call F.impl_patForm [(.agg [(.cell 12 0), (.cell 12 1), (.cell 12 2), (.cell 12 3), (.cell 12 4)]), (.c (.v (.int .i64 0)))] true) (
       .op (.bin .add (.c (.v (.string ⟨#[32, 124, 32]⟩))) (.x 13)) (
       .op (.bin .add (.x 14) (.c (.v (.string ⟨#[32, 45, 62, 32]⟩)))) (
       .op (.call F.impl_expForm [(.agg [(.cell 12 5), (.cell 12 6), (.cell 12 7), (.cell 12 8), (.cell 12 9), (.cell 12 10), (.cell 12 11)]), (.c (.v (.int .i64 0)))] true) (
       .op (.bin .add (.x 15) (.x 16)) (
       .op (.bin .add (.x 9) (.x 17)) (
       .op (.bin .add (.x 10) (.c (.v (.int .i64 1)))) (
       .jump [(.x 18), (.x 19)])))))))))))
       (.esc (.jump [(.x 9)])))))) (
    .op (.bin .add (.x 8) (.c (.v (.string ⟨#[32, 101, 110, 100]⟩)))) (
    .ret [(.x 9)]))))))))))))))
theorem T.impl_openForm_l : leftF Tryz.prog CF Tryz.f47 = some (1, T.impl_openForm) := by kernel_rfl
theorem T.impl_openForm_con {args : List AV} {res : AV} (hl : args.length = 1) (hn : AV.norefs args = true) (hw : wpT Tryz.prog (fun _ _ _ => False) (fun a => a = res) T.impl_openForm args []) : PCon Tryz.prog F.impl_openForm args res :=
  con_auto Tryz.func47 T.impl_openForm_l hl hn hw
def T.laws_eqArm : T :=
.chk (.cells (.x 0) 12) (
.chk (.cells (.x 1) 12) (
.op (.call F.laws_eqPat [(.agg [(.cell 0 0), (.cell 0 1), (.cell 0 2), (.cell 0 3), (.cell 0 4)]), (.agg [(.cell 1 0), (.cell 1 1), (.cell 1 2), (.cell 1 3), (.cell 1 4)])] false) (
.op (.un .not (.x 2)) (
.ite (.x 3)
 (.ret [(.c (.v (.bool false)))])
 (.op (.call F.laws_eqExp [(.agg [(.cell 0 5), (.cell 0 6), (.cell 0 7), (.cell 0 8), (.cell 0 9), (.cell 0 10), (.cell 0 11)]), (.agg [(.cell 1 5), (.cell 1 6), (.cell 1 7), (.cell 1 8), (.cell 1 9), (.cell 1 10), (.cell 1 11)])] false) (
 .op (.un .not (.x 4)) (
 .ite (.x 5)
  (.ret [(.c (.v (.bool false)))])
  (.ret [(.c (.v (.bool true)))]))))))))
theorem T.laws_eqArm_l : leftF Tryz.prog CF Tryz.f48 = some (2, T.laws_eqArm) := by kernel_rfl
theorem T.laws_eqArm_con {args : List AV} {res : AV} (hl : args.length = 2) (hn : AV.norefs args = true) (hw : wpT Tryz.prog (fun _ _ _ => False) (fun a => a = res) T.laws_eqArm args []) : PCon Tryz.prog F.laws_eqArm args res :=
  con_auto Tryz.func48 T.laws_eqArm_l hl hn hw
def T.laws_szData : T :=
.chk (.cells (.x 0) 4) (
.op (.lenS (.cell 0 0)) (
.op (.bin .sub (.x 1) (.x 2)) (
.op (.bin .lss (.x 3) (.c (.v (.int .i64 0)))) (
.ite (.x 4)
 (.ret [(.c (.v (.int .i64 (-1))))])
 (.op (.call F.laws_szStringS [(.cell 0 1), (.x 3)] false) (
 .op (.bin .lss (.x 5) (.c (.v (.int .i64 0)))) (
 .ite (.x 6)
  (.ret [(.c (.v (.int .i64 (-1))))])
  (.op (.call F.laws_szCtorS [(.cell 0 2), (.x 5)] false) (
  .op (.bin .lss (.x 7) (.c (.v (.int .i64 0)))) (
  .ite (.x 8)
   (.ret [(.c (.v (.int .i64 (-1))))])
   (.ret [(.x 7)])))))))))))
theorem T.laws_szData_l : leftF Tryz.prog CF Tryz.f49 = some (2, T.laws_szData) := by kernel_rfl
theorem T.laws_szData_con {args : List AV} {res : AV} (hl : args.length = 2) (hn : AV.norefs args = true) (hw : wpT Tryz.prog (fun _ _ _ => False) (fun a => a = res) T.laws_szData args []) : PCon Tryz.prog F.laws_szData args res :=
  con_auto Tryz.func49 T.laws_szData_l hl hn hw
def T.spec_l1Low : T :=
.bind 1 (
 .op (.call F.spec_l1Name [(.x 0), (.c (.v (.bool false)))] false) (
 .ite (.x 1)
  (.op (.call F.spec_l1Key [(.x 0)] false) (
  .op (.un .not (.x 2)) (
  .jump [(.x 3)])))
  (.jump [(.c (.v (.bool false)))]))) (
.ret [(.x 1)])
theorem T.spec_l1Low_l : leftF Tryz.prog CF Tryz.f50 = some (1, T.spec_l1Low) := by kernel_rfl
theorem T.spec_l1Low_con {args : List AV} {res : AV} (hl : args.length = 1) (hn : AV.norefs args = true) (hw : wpT Tryz.prog (fun _ _ _ => False) (fun a => a = res) T.spec_l1Low args []) : PCon Tryz.prog F.spec_l1Low args res :=
  con_auto Tryz.func50 T.spec_l1Low_l hl hn hw
def T.spec_l1Name : T :=
.bind 0 (
 .bind 1 (
  .op (.lenS (.x 0)) (
  .op (.call F.spec_l1In [(.x 2), (.c (.v (.int .i64 1))), (.c (.v (.int .i64 12)))] false) (
  .op (.un .not (.x 3)) (
  .ite (.x 4)
   (.jump [(.c (.v (.bool true)))])
   (.op (.idxS (.x 0) (.c (.v (.int .i64 0)))) (
   .op (.conv .i64 (.x 5)) (
   .op (.call F.spec_l1Upper [(.x 6)] false) (
   .op (.beq true (.x 1) (.x 7)) (
   .ite (.x 8)
    (.jump [(.c (.v (.bool true)))])
    (.op (.un .not (.x 1)) (
    .ite (.x 9)
     (.op (.idxS (.x 0) (.c (.v (.int .i64 0)))) (
     .op (.conv .i64 (.x 10)) (
     .op (.call F.spec_l1Lower [(.x 11)] false) (
     .op (.un .not (.x 12)) (
     .jump [(.x 13)])))))
     (.jump [(.c (.v (.bool false)))])))))))))))) (
 .ite (.x 2)
  (.esc (.ret [(.c (.v (.bool false)))]))
  (.jump []))) (
.bind 0 (
 .loop [(.c (.v (.int .i64 0)))] (
  .op (.lenS (.x 0)) (
  .op (.bin .lss (.x 2) (.x 3)) (
  .ite (.x 4)
   (.op (.idxS (.x 0) (.x 2)) (
   .op (.conv .i64 (.x 5)) (
   .op (.call F.spec_l1NameByte [(.x 6)] false) (
   .op (.un .not (.x 7)) (
   .ite (.x 8)
    (.esc (.esc (.ret [(.c (.v (.bool false)))])))
    (.op (.bin .add (.x 2) (.c (.v (.int .i64 1)))) (
    .jump [(.x 9)])))))))
   (.esc (.jump [])))))) (
.ret [(.c (.v (.bool true)))]))
theorem T.spec_l1Name_l : leftF Tryz.prog CF Tryz.f51 = some (2, T.spec_l1Name) := by kernel_rfl
theorem T.spec_l1Name_con {args : List AV} {res : AV} (hl : args.length = 2) (hn : AV.norefs args = true) (hw : wpT Tryz.prog (fun _ _ _ => False) (fun a => a = res) T.spec_l1Name args []) : PCon Tryz.prog F.spec_l1Name args res :=
  con_auto Tryz.func51 T.spec_l1Name_l hl hn hw
def T.spec_l2TypeOk : T :=
.chk (.cells (.x 0) 4) (
.op (.lenL (.cell 0 3)) (
.op (.bin .geq (.cell 0 2) (.c (.v (.int .i64 0)))) (
.bind 1 (
 .op (.bin .eql (.cell 0 0) (.c (.v (.int .i64 1)))) (
 .ite (.x 3)
  (.ite (.x 2)
   (.op (.call F.spec_l1Low [(.cell 0 1)] false) (
   .jump [(.x 4)]))
   (.jump [(.c (.v (.bool false)))]))
  (.op (.bin .eql (.cell 0 0) (.c (.v (.int .i64 2)))) (
  .ite (.x 4)
   (.ite (.x 2)
    (.op (.call F.spec_l1Name [(.cell 0 1), (.c (.v (.bool false)))] false) (
    .ite (.x 5)
     (.op (.bin .eql (.x 1) (.c (.v (.int .i64 0)))) (
     .jump [(.x 6)]))
     (.jump [(.c (.v (.bool false)))])))
    (.jump [(.c (.v (.bool false)))]))
   (.op (.bin .eql (.cell 0 0) (.c (.v (.int .i64 3)))) (
   .ite (.x 5)
    (.ite (.x 2)
     (.op (.bin .eql (.cell 0 1) (.c (.v (.string ⟨#[]⟩)))) (
     .ite (.x 6)
      (.op (.bin .eql (.x 1) (.c (.v (.int .i64 2)))) (
      .jump [(.x 7)]))
      (.jump [(.c (.v (.bool false)))])))
     (.jump [(.c (.v (.bool false)))]))
    (.op (.bin .eql (.cell 0 0) (.c (.v (.int .i64 4)))) (
    .ite (.x 6)
     (.ite (.x 2)
      (.op (.bin .eql (.cell 0 1) (.c (.v (.string ⟨#[]⟩)))) (
      .ite (.x 7)
       (.op (.bin .geq (.x 1) (.c (.v (.int .i64 2)))) (
       .jump [(.x 8)]))
       (.jump [(.c (.v (.bool false)))])))
      (.jump [(.c (.v (.bool false)))]))
     (.op (.bin .eql (.cell 0 0) (.c (.v (.int .i64 5)))) (
     .ite (.x 7)
      (.ite (.x 2)
       (.op (.bin .eql (.cell 0 1) (.c (.v (.string ⟨#[]⟩)))) (
       .ite (.x 8)
        (.op (.bin .eql (.x 1) (.c (.v (.int .i64 1)))) (
        .jump [(.x 9)]))
        (.jump [(.c (.v (.bool false)))])))
       (.jump [(.c (.v (.bool false)))]))
      (.esc (.ret [(.c (.v (.bool false)))])))))))))))) (
.bind 1 (
 .loop [(.x 3), (.c (.v (.int .i64 0)))] (
  .bind 0 (
   .bind 1 (
    .op (.bin .lss (.x 5) (.x 1)) (
    .ite (.x 6)
     (.jump [(.x 4)])
     (.jump [(.c (.v (.bool false)))]))) (
   .ite (.x 6)
    (.jump [])
    (.esc (.esc (.jump [(.x 4)]))))) (
  .op (.elem 4 (.cell 0 3) (.x 5)) (
  .chk (.cells (.x 6) 4) (
  .op (.call F.spec_l2TypeOk [(.x 6)] false) (
  .op (.bin .add (.x 5) (.c (.v (.int .i64 1)))) (
  .jump [(.x 7), (.x 8)]))))))) (
.ret [(.x 4)])))))
theorem T.spec_l2TypeOk_l : leftF Tryz.prog CF Tryz.f52 = some (1, T.spec_l2TypeOk) := by kernel_rfl
theorem T.spec_l2TypeOk_con {args : List AV} {res : AV} (hl : args.length = 1) (hn : AV.norefs args = true) (hw : wpT Tryz.prog (fun _ _ _ => False) (fun a => a = res) T.spec_l2TypeOk args []) : PCon Tryz.prog F.spec_l2TypeOk args res :=
  con_auto Tryz.func52 T.spec_l2TypeOk_l hl hn hw
def T.spec_l2NoType : T :=
.chk (.cells (.x 0) 4) (
.bind 1 (
 .op (.bin .eql (.cell 0 0) (.c (.v (.int .i64 0)))) (
 .ite (.x 1)
  (.op (.bin .eql (.cell 0 1) (.c (.v (.string ⟨#[]⟩)))) (
  .ite (.x 2)
   (.op (.bin .eql (.cell 0 2) (.c (.v (.int .i64 0)))) (
   .ite (.x 3)
    (.op (.lenL (.cell 0 3)) (
    .op (.bin .eql (.x 4) (.c (.v (.int .i64 0)))) (
    .jump [(.x 5)])))
    (.jump [(.c (.v (.bool false)))])))
   (.jump [(.c (.v (.bool false)))])))
  (.jump [(.c (.v (.bool false)))]))) (
.ret [(.x 1)]))
theorem T.spec_l2NoType_l : leftF Tryz.prog CF Tryz.f53 = some (1, T.spec_l2NoType) := by kernel_rfl
theorem T.spec_l2NoType_con {args : List AV} {res : AV} (hl : args.length = 1) (hn : AV.norefs args = true) (hw : wpT Tryz.prog (fun _ _ _ => False) (fun a => a = res) T.spec_l2NoType args []) : PCon Tryz.prog F.spec_l2NoType args res :=
  con_auto Tryz.func53 T.spec_l2NoType_l hl hn hw
def T.laws_toData : T :=
.chk (.cells (.x 0) 4) (
.chk (.one (.cell 0 0)) (
.op (.call F.laws_toStringS [(.cell 0 1)] false) (
.chk (.one (.x 1)) (
.op (.call F.laws_toCtorS [(.cell 0 2)] false) (
.chk (.one (.x 2)) (
.chk (.one (.cell 0 3)) (
.chk (.cells (.agg [(.cell 0 0), (.x 1), (.x 2), (.cell 0 3)]) 4) (
.ret [(.agg [(.cell 0 0), (.x 1), (.x 2), (.cell 0 3)])]))))))))
theorem T.laws_toData_l : leftF Tryz.prog CF Tryz.f54 = some (1, T.laws_toData) := by kernel_rfl
theorem T.laws_toData_con {args : List AV} {res : AV} (hl : args.length = 1) (hn : AV.norefs args = true) (hw : wpT Tryz.prog (fun _ _ _ => False) (fun a => a = res) T.laws_toData args []) : PCon Tryz.prog F.laws_toData args res :=
  con_auto Tryz.func54 T.laws_toData_l hl hn hw
def T.slices_ContainsFunc__impl_Data_impl_Data : T :=
.op (.call F.slices_IndexFunc__impl_Data_impl_Data [(.x 0), (.x 1)] false) (
.op (.bin .geq (.x 2) (.c (.v (.int .i64 0)))) (
.ret [(.x 3)]))
theorem T.slices_ContainsFunc__impl_Data_impl_Data_l : leftF Tryz.prog CF Tryz.f55 = some (2, T.slices_ContainsFunc__impl_Data_impl_Data) := by kernel_rfl
theorem T.slices_ContainsFunc__impl_Data_impl_Data_con {args : List AV} {res : AV} (hl : args.length = 2) (hn : AV.norefs args = true) (hw : wpT Tryz.prog (fun _ _ _ => False) (fun a => a = res) T.slices_ContainsFunc__impl_Data_impl_Data args []) : PCon Tryz.prog F.slices_ContainsFunc__impl_Data_impl_Data args res :=
  con_auto Tryz.func55 T.slices_ContainsFunc__impl_Data_impl_Data_l hl hn hw
def T.impl_ProgOk_1 : T :=
.chk (.cells (.x 0) 4) (
.chk (.cells (.x 0) 4) (
.op (.call F.impl_dataOk [(.x 0)] false) (
.op (.un .not (.x 1)) (
.ret [(.x 2)]))))
theorem T.impl_ProgOk_1_l : leftF Tryz.prog CF Tryz.f56 = some (1, T.impl_ProgOk_1) := by kernel_rfl
theorem T.impl_ProgOk_1_con {args : List AV} {res : AV} (hl : args.length = 1) (hn : AV.norefs args = true) (hw : wpT Tryz.prog (fun _ _ _ => False) (fun a => a = res) T.impl_ProgOk_1 args []) : PCon Tryz.prog F.impl_ProgOk_1 args res :=
  con_auto Tryz.func56 T.impl_ProgOk_1_l hl hn hw
def T.impl_dataOk : T :=
.chk (.cells (.x 0) 4) (
.bind 0 (
 .op (.lenL (.cell 0 2)) (
 .loop [(.c (.v (.int .i64 0)))] (
  .op (.bin .lss (.x 2) (.x 1)) (
  .ite (.x 3)
   (.bind 7 (
    .op (.elem 7 (.cell 0 2) (.x 2)) (
    .chk (.cells (.x 4) 7) (
    .chk (.cells (.x 4) 7) (
    .bind 1 (
     .op (.call F.impl_upOk [(.cell 4 0)] false) (
     .op (.un .not (.x 5)) (
     .ite (.x 6)
      (.jump [(.c (.v (.bool true)))])
      (.op (.bin .lss (.cell 4 6) (.c (.v (.int .i64 0)))) (
      .ite (.x 7)
       (.jump [(.c (.v (.bool true)))])
       (.ite (.cell 4 1)
        (.op (.call F.impl_typeOk [(.agg [(.cell 4 2), (.cell 4 3), (.cell 4 4), (.cell 4 5)])] false) (
        .op (.un .not (.x 8)) (
        .ite (.x 9)
         (.jump [(.c (.v (.bool true)))])
         (.op (.un .not (.cell 4 1)) (
         .ite (.x 10)
          (.op (.call F.impl_emptyType [(.agg [(.cell 4 2), (.cell 4 3), (.cell 4 4), (.cell 4 5)])] false) (
          .op (.un .not (.x 11)) (
          .jump [(.x 12)])))
          (.jump [(.c (.v (.bool false)))]))))))
        (.op (.un .not (.cell 4 1)) (
        .ite (.x 8)
         (.op (.call F.impl_emptyType [(.agg [(.cell 4 2), (.cell 4 3), (.cell 4 4), (.cell 4 5)])] false) (
         .op (.un .not (.x 9)) (
         .jump [(.x 10)])))
         (.jump [(.c (.v (.bool false)))]))))))))) (
    .ite (.x 5)
     (.esc (.esc (.esc (.ret [(.c (.v (.bool false)))]))))
     (.jump [(.cell 4 0), (.cell 4 1), (.cell 4 2), (.cell 4 3), (.cell 4 4), (.cell 4 5), (.cell 4 6)])))))) (
   .op (.bin .add (.x 2) (.c (.v (.int .i64 1)))) (
   .jump [(.x 11)])))
   (.esc (.jump [])))))) (
.bind 1 (
 .op (.call F.impl_lowOk [(.cell 0 0)] false) (
 .ite (.x 1)
  (.op (.bin .geq (.cell 0 3) (.c (.v (.int .i64 0)))) (
  .ite (.x 2)
   (.op (.lenL (.cell 0 2)) (
   .op (.bin .gtr (.x 3) (.c (.v (.int .i64 0)))) (
   .ite (.x 4)
    (.op (.call F.slices_ContainsFunc__string_string [(.cell 0 1), (.c (.fn F.impl_dataOk_1 []))] false) (
    .op (.un .not (.x 5)) (
    .jump [(.x 6)])))
    (.jump [(.c (.v (.bool false)))]))))
   (.jump [(.c (.v (.bool false)))])))
  (.jump [(.c (.v (.bool false)))]))) (
.ret [(.x 1)])))
theorem T.impl_dataOk_l : leftF Tryz.prog CF Tryz.f57 = some (1, T.impl_dataOk) := by kernel_rfl
theorem T.impl_dataOk_con {args : List AV} {res : AV} (hl : args.length = 1) (hn : AV.norefs args = true) (hw : wpT Tryz.prog (fun _ _ _ => False) (fun a => a = res) T.impl_dataOk args []) : PCon Tryz.prog F.impl_dataOk args res :=
  con_auto Tryz.func57 T.impl_dataOk_l hl hn hw
def T.impl_typeForm : T :=
.chk (.cells (.x 0) 4) (
.op (.bin .eql (.cell 0 0) (.c (.v (.int .i64 3)))) (
.ite (.x 2)
 (.op (.elem 4 (.cell 0 3) (.c (.v (.int .i64 0)))) (
 .chk (.cells (.x 3) 4) (
 .op (.call F.impl_typeForm [(.x 3), (.c (.v (.int .i64 1)))] true) (
 .op (.bin .add (.x 4) (.c (.v (.string ⟨#[32, 45, 62, 32]⟩)))) (
 .op (.elem 4 (.cell 0 3) (.c (.v (.int .i64 1)))) (
 .chk (.cells (.x 6) 4) (
 .op (.call F.impl_typeForm [(.x 6), (.c (.v (.int .i64 0)))] true) (
 .op (.bin .add (.x 5) (.x 7)) (
 .op (.call F.impl_bracketed [(.x 8), (.c (.v (.int .i64 0))), (.x 1)] true) (
 .ret [(.x 9)]))))))))))
 (.op (.bin .eql (.cell 0 0) (.c (.v (.int .i64 4)))) (
 .ite (.x 3)
  (.op (.call F.impl_forms_impl_TypeExp [(.cell 0 3), (.c (.v (.int .i64 2))), (.c (.v (.string ⟨#[32, 42, 32]⟩))), (.c (.fn F.impl_typeForm []))] false) (
  .op (.call F.impl_bracketed [(.x 4), (.c (.v (.int .i64 1))), (.x 1)] false) (
  .ret [(.x 5)])))
  (.op (.bin .eql (.cell 0 0) (.c (.v (.int .i64 5)))) (
  .ite (.x 4)
   (.op (.elem 4 (.cell 0 3) (.c (.v (.int .i64 0)))) (
   .chk (.cells (.x 5) 4) (
   .op (.call F.impl_typeForm [(.x 5), (.c (.v (.int .i64 3)))] false) (
   .op (.bin .add (.c (.v (.string ⟨#[114, 101, 102, 32]⟩))) (.x 6)) (
   .op (.call F.impl_bracketed [(.x 7), (.c (.v (.int .i64 2))), (.x 1)] false) (
   .ret [(.x 8)]))))))
   (.op (.bin .eql (.cell 0 0) (.c (.v (.int .i64 2)))) (
   .ite (.x 5)
    (.op (.bin .add (.c (.v (.string ⟨#[39]⟩))) (.cell 0 1)) (
    .ret [(.x 6)]))
    (.op (.lenL (.cell 0 3)) (
    .op (.bin .eql (.x 6) (.c (.v (.int .i64 0)))) (
    .ite (.x 7)
     (.ret [(.cell 0 1)])
     (.op (.bin .add (.cell 0 1) (.c (.v (.string ⟨#[32]⟩)))) (
     .op (.call F.impl_forms_impl_TypeExp [(.cell 0 3), (.c (.v (.int .i64 3))), (.c (.v (.string ⟨#[32]⟩))), (.c (.fn F.impl_typeForm []))] true) (
     .op (.bin .add (.x 8) (.x 9)) (
     .op (.call F.impl_bracketed [(.x 10), (.c (.v (.int .i64 2))), (.x 1)] true) (
     .ret [(.x 11)]))))))))))))))))
theorem T.impl_typeForm_l : leftF Tryz.prog CF Tryz.f58 = some (2, T.impl_typeForm) := by kernel_rfl
theorem T.impl_typeForm_con {args : List AV} {res : AV} (hl : args.length = 2) (hn : AV.norefs args = true) (hw : wpT Tryz.prog (fun _ _ _ => False) (fun a => a = res) T.impl_typeForm args []) : PCon Tryz.prog F.impl_typeForm args res :=
  con_auto Tryz.func58 T.impl_typeForm_l hl hn hw
-- strings_Join: no walk
def T.laws_eqData : T :=
.chk (.cells (.x 0) 4) (
.chk (.cells (.x 1) 4) (
.op (.bin .neq (.cell 0 0) (.cell 1 0)) (
.ite (.x 2)
 (.ret [(.c (.v (.bool false)))])
 (.op (.call F.laws_eqStringS [(.cell 0 1), (.cell 1 1)] false) (
 .op (.un .not (.x 3)) (
 .ite (.x 4)
  (.ret [(.c (.v (.bool false)))])
  (.op (.call F.laws_eqCtorS [(.cell 0 2), (.cell 1 2)] false) (
  .op (.un .not (.x 5)) (
  .ite (.x 6)
   (.ret [(.c (.v (.bool false)))])
   (.op (.bin .neq (.cell 0 3) (.cell 1 3)) (
   .ite (.x 7)
    (.ret [(.c (.v (.bool false)))])
    (.ret [(.c (.v (.bool true)))]))))))))))))
theorem T.laws_eqData_l : leftF Tryz.prog CF Tryz.f60 = some (2, T.laws_eqData) := by kernel_rfl
theorem T.laws_eqData_con {args : List AV} {res : AV} (hl : args.length = 2) (hn : AV.norefs args = true) (hw : wpT Tryz.prog (fun _ _ _ => False) (fun a => a = res) T.laws_eqData args []) : PCon Tryz.prog F.laws_eqData args res :=
  con_auto Tryz.func60 T.laws_eqData_l hl hn hw
def T.laws_szPat : T :=
.chk (.cells (.x 0) 5) (
.op (.lenS (.cell 0 1)) (
.op (.bin .sub (.x 1) (.x 2)) (
.op (.bin .lss (.x 3) (.c (.v (.int .i64 0)))) (
.ite (.x 4)
 (.ret [(.c (.v (.int .i64 (-1))))])
 (.op (.call F.laws_szPatS [(.cell 0 4), (.x 3)] false) (
 .op (.bin .lss (.x 5) (.c (.v (.int .i64 0)))) (
 .ite (.x 6)
  (.ret [(.c (.v (.int .i64 (-1))))])
  (.ret [(.x 5)]))))))))
theorem T.laws_szPat_l : leftF Tryz.prog CF Tryz.f61 = some (2, T.laws_szPat) := by kernel_rfl
theorem T.laws_szPat_con {args : List AV} {res : AV} (hl : args.length = 2) (hn : AV.norefs args = true) (hw : wpT Tryz.prog (fun _ _ _ => False) (fun a => a = res) T.laws_szPat args []) : PCon Tryz.prog F.laws_szPat args res :=
  con_auto Tryz.func61 T.laws_szPat_l hl hn hw
def T.spec_l2Plain : T :=
.chk (.cells (.x 0) 7) (
.bind 3 (
 .loop [(.c (.v (.bool false))), (.c (.v (.bool false))), (.c (.v (.bool false))), (.c (.v (.int .i64 0)))] (
  .op (.lenS (.x 1)) (
  .op (.bin .lss (.x 5) (.x 6)) (
  .ite (.x 7)
   (.bind 3 (
    .bind 1 (
     .ite (.x 2)
      (.jump [(.c (.v (.bool true)))])
      (.op (.idxS (.x 1) (.x 5)) (
      .op (.bin .eql (.x 8) (.c (.v (.int .u8 110)))) (
      .jump [(.x 9)])))) (
    .bind 1 (
     .ite (.x 3)
      (.jump [(.c (.v (.bool true)))])
      (.op (.idxS (.x 1) (.x 5)) (
      .op (.bin .eql (.x 9) (.c (.v (.int .u8 117)))) (
      .jump [(.x 10)])))) (
    .ite (.x 4)
     (.jump [(.x 8), (.x 9), (.c (.v (.bool true)))])
     (.op (.idxS (.x 1) (.x 5)) (
     .op (.bin .eql (.x 10) (.c (.v (.int .u8 116)))) (
     .jump [(.x 8), (.x 9), (.x 11)])))))) (
   .op (.bin .add (.x 5) (.c (.v (.int .i64 1)))) (
   .jump [(.x 8), (.x 9), (.x 10), (.x 11)])))
   (.esc (.jump [(.x 2), (.x 3), (.x 4)])))))) (
.bind 1 (
 .op (.bin .geq (.cell 0 4) (.c (.v (.int .i64 0)))) (
 .ite (.x 5)
  (.ite (.x 2)
   (.ite (.x 3)
    (.ite (.x 4)
     (.op (.bin .eql (.cell 0 0) (.c (.v (.int .i64 13)))) (
     .ite (.x 6)
      (.jump [(.c (.v (.bool true)))])
      (.op (.lenL (.cell 0 6)) (
      .op (.bin .eql (.x 7) (.c (.v (.int .i64 0)))) (
      .jump [(.x 8)])))))
     (.op (.bin .eql (.cell 0 3) (.c (.v (.string ⟨#[]⟩)))) (
     .ite (.x 6)
      (.op (.bin .eql (.cell 0 0) (.c (.v (.int .i64 13)))) (
      .ite (.x 7)
       (.jump [(.c (.v (.bool true)))])
       (.op (.lenL (.cell 0 6)) (
       .op (.bin .eql (.x 8) (.c (.v (.int .i64 0)))) (
       .jump [(.x 9)])))))
      (.jump [(.c (.v (.bool false)))]))))
    (.op (.bin .eql (.cell 0 2) (.c (.v (.int .i64 0)))) (
    .ite (.x 6)
     (.ite (.x 4)
      (.op (.bin .eql (.cell 0 0) (.c (.v (.int .i64 13)))) (
      .ite (.x 7)
       (.jump [(.c (.v (.bool true)))])
       (.op (.lenL (.cell 0 6)) (
       .op (.bin .eql (.x 8) (.c (.v (.int .i64 0)))) (
       .jump [(.x 9)])))))
      (.op (.bin .eql (.cell 0 3) (.c (.v (.string ⟨#[]⟩)))) (
      .ite (.x 7)
       (.op (.bin .eql (.cell 0 0) (.c (.v (.int .i64 13)))) (
       .ite (.x 8)
        (.jump [(.c (.v (.bool true)))])
        (.op (.lenL (.cell 0 6)) (
        .op (.bin .eql (.x 9) (.c (.v (.int .i64 0)))) (
        .jump [(.x 10)])))))
       (.jump [(.c (.v (.bool false)))]))))
     (.jump [(.c (.v (.bool false)))]))))
   (.op (.bin .eql (.cell 0 1) (.c (.v (.string ⟨#[]⟩)))) (
   .ite (.x 6)
    (.ite (.x 3)
     (.ite (.x 4)
      (.op (.bin .eql (.cell 0 0) (.c (.v (.int .i64 13)))) (
      .ite (.x 7)
       (.jump [(.c (.v (.bool true)))])
       (.op (.lenL (.cell 0 6)) (
       .op (.bin .eql (.x 8) (.c (.v (.int .i64 0)))) (
       .jump [(.x 9)])))))
      (.op (.bin .eql (.cell 0 3) (.c (.v (.string ⟨#[]⟩)))) (
      .ite (.x 7)
       (.op (.bin .eql (.cell 0 0) (.c (.v (.int .i64 13)))) (
       .ite (.x 8)
        (.jump [(.c (.v (.bool true)))])
        (.op (.lenL (.cell 0 6)) (
        .op (.bin .eql (.x 9) (.c (.v (.int .i64 0)))) (
        .jump [(.x 10)])))))
       (.jump [(.c (.v (.bool false)))]))))
     (.op (.bin .eql (.cell 0 2) (.c (.v (.int .i64 0)))) (
     .ite (.x 7)
      (.ite (.x 4)
       (.op (.bin .eql (.cell 0 0) (.c (.v (.int .i64 13)))) (
       .ite (.x 8)
        (.jump [(.c (.v (.bool true)))])
        (.op (.lenL (.cell 0 6)) (
        .op (.bin .eql (.x 9) (.c (.v (.int .i64 0)))) (
        .jump [(.x 10)])))))
       (.op (.bin .eql (.cell 0 3) (.c (.v (.string ⟨#[]⟩)))) (
       .ite (.x 8)
        (.op (.bin .eql (.cell 0 0) (.c (.v (.int .i64 13)))) (
        .ite (.x 9)
         (.jump [(.c (.v (.bool true)))])
         (.op (.lenL (.cell 0 6)) (
         .op (.bin .eql (.x 10) (.c (.v (.int .i64 0)))) (
         .jump [(.x 11)])))))
        (.jump [(.c (.v (.bool false)))]))))
      (.jump [(.c (.v (.bool false)))]))))
    (.jump [(.c (.v (.bool false)))]))))
  (.jump [(.c (.v (.bool false)))]))) (
.ret [(.x 5)])))
theorem T.spec_l2Plain_l : leftF Tryz.prog CF Tryz.f62 = some (2, T.spec_l2Plain) := by kernel_rfl
theorem T.spec_l2Plain_con {args : List AV} {res : AV} (hl : args.length = 2) (hn : AV.norefs args = true) (hw : wpT Tryz.prog (fun _ _ _ => False) (fun a => a = res) T.spec_l2Plain args []) : PCon Tryz.prog F.spec_l2Plain args res :=
  con_auto Tryz.func62 T.spec_l2Plain_l hl hn hw
def T.spec_l1Chars : T :=
.bind 0 (
 .loop [(.c (.v (.int .i64 0)))] (
  .op (.lenS (.x 0)) (
  .op (.bin .lss (.x 1) (.x 2)) (
  .ite (.x 3)
   (.bind 0 (
    .bind 1 (
     .op (.idxS (.x 0) (.x 1)) (
     .op (.bin .neq (.x 4) (.c (.v (.int .u8 10)))) (
     .ite (.x 5)
      (.op (.idxS (.x 0) (.x 1)) (
      .op (.conv .i64 (.x 6)) (
      .op (.call F.spec_l1In [(.x 7), (.c (.v (.int .i64 32))), (.c (.v (.int .i64 126)))] false) (
      .op (.un .not (.x 8)) (
      .jump [(.x 9)])))))
      (.jump [(.c (.v (.bool false)))])))) (
    .ite (.x 4)
     (.esc (.esc (.esc (.ret [(.c (.v (.bool false)))]))))
     (.jump []))) (
   .op (.bin .add (.x 1) (.c (.v (.int .i64 1)))) (
   .jump [(.x 4)])))
   (.esc (.jump [])))))) (
.ret [(.c (.v (.bool true)))])
theorem T.spec_l1Chars_l : leftF Tryz.prog CF Tryz.f63 = some (1, T.spec_l1Chars) := by kernel_rfl
theorem T.spec_l1Chars_con {args : List AV} {res : AV} (hl : args.length = 1) (hn : AV.norefs args = true) (hw : wpT Tryz.prog (fun _ _ _ => False) (fun a => a = res) T.spec_l1Chars args []) : PCon Tryz.prog F.spec_l1Chars args res :=
  con_auto Tryz.func63 T.spec_l1Chars_l hl hn hw
def T.spec_l1In : T :=
.bind 1 (
 .op (.bin .geq (.x 0) (.x 1)) (
 .ite (.x 3)
  (.op (.bin .leq (.x 0) (.x 2)) (
  .jump [(.x 4)]))
  (.jump [(.c (.v (.bool false)))]))) (
.ret [(.x 3)])
theorem T.spec_l1In_l : leftF Tryz.prog CF Tryz.f64 = some (3, T.spec_l1In) := by kernel_rfl
theorem T.spec_l1In_con {args : List AV} {res : AV} (hl : args.length = 3) (hn : AV.norefs args = true) (hw : wpT Tryz.prog (fun _ _ _ => False) (fun a => a = res) T.spec_l1In args []) : PCon Tryz.prog F.spec_l1In args res :=
  con_auto Tryz.func64 T.spec_l1In_l hl hn hw
def T.spec_l2Op : T :=
.bind 1 (
 .op (.bin .eql (.x 0) (.c (.v (.string ⟨#[43]⟩)))) (
 .ite (.x 1)
  (.jump [(.c (.v (.bool true)))])
  (.op (.bin .eql (.x 0) (.c (.v (.string ⟨#[45]⟩)))) (
  .ite (.x 2)
   (.jump [(.c (.v (.bool true)))])
   (.op (.bin .eql (.x 0) (.c (.v (.string ⟨#[42]⟩)))) (
   .ite (.x 3)
    (.jump [(.c (.v (.bool true)))])
    (.op (.bin .eql (.x 0) (.c (.v (.string ⟨#[94]⟩)))) (
    .ite (.x 4)
     (.jump [(.c (.v (.bool true)))])
     (.op (.bin .eql (.x 0) (.c (.v (.string ⟨#[61]⟩)))) (
     .ite (.x 5)
      (.jump [(.c (.v (.bool true)))])
      (.op (.bin .eql (.x 0) (.c (.v (.string ⟨#[60]⟩)))) (
      .ite (.x 6)
       (.jump [(.c (.v (.bool true)))])
       (.op (.bin .eql (.x 0) (.c (.v (.string ⟨#[58, 61]⟩)))) (
       .jump [(.x 7)])))))))))))))) (
.ret [(.x 1)])
theorem T.spec_l2Op_l : leftF Tryz.prog CF Tryz.f65 = some (1, T.spec_l2Op) := by kernel_rfl
theorem T.spec_l2Op_con {args : List AV} {res : AV} (hl : args.length = 1) (hn : AV.norefs args = true) (hw : wpT Tryz.prog (fun _ _ _ => False) (fun a => a = res) T.spec_l2Op args []) : PCon Tryz.prog F.spec_l2Op args res :=
  con_auto Tryz.func65 T.spec_l2Op_l hl hn hw
def T.spec_l2Prim : T :=
.bind 1 (
 .op (.bin .eql (.x 0) (.c (.v (.string ⟨#[112, 114, 105, 110, 116]⟩)))) (
 .ite (.x 1)
  (.jump [(.c (.v (.bool true)))])
  (.op (.bin .eql (.x 0) (.c (.v (.string ⟨#[101, 120, 105, 116]⟩)))) (
  .ite (.x 2)
   (.jump [(.c (.v (.bool true)))])
   (.op (.bin .eql (.x 0) (.c (.v (.string ⟨#[115, 105, 122, 101]⟩)))) (
   .ite (.x 3)
    (.jump [(.c (.v (.bool true)))])
    (.op (.bin .eql (.x 0) (.c (.v (.string ⟨#[114, 101, 102]⟩)))) (
    .ite (.x 4)
     (.jump [(.c (.v (.bool true)))])
     (.op (.bin .eql (.x 0) (.c (.v (.string ⟨#[33]⟩)))) (
     .jump [(.x 5)])))))))))) (
.ret [(.x 1)])
theorem T.spec_l2Prim_l : leftF Tryz.prog CF Tryz.f66 = some (1, T.spec_l2Prim) := by kernel_rfl
theorem T.spec_l2Prim_con {args : List AV} {res : AV} (hl : args.length = 1) (hn : AV.norefs args = true) (hw : wpT Tryz.prog (fun _ _ _ => False) (fun a => a = res) T.spec_l2Prim args []) : PCon Tryz.prog F.spec_l2Prim args res :=
  con_auto Tryz.func66 T.spec_l2Prim_l hl hn hw
def T.spec_l1Decimal : T :=
.op (.bin .lss (.x 0) (.c (.v (.int .i64 0)))) (
.ite (.x 1)
 (.op (.bin .add (.x 0) (.c (.v (.int .i64 1)))) (
 .op (.un .neg (.x 2)) (
 .op (.conv .u64 (.x 3)) (
 .op (.bin .add (.x 4) (.c (.v (.int .u64 1)))) (
 .op (.call F.spec_l1Figures [(.x 5)] false) (
 .op (.bin .add (.c (.v (.string ⟨#[45]⟩))) (.x 6)) (
 .ret [(.x 7)])))))))
 (.op (.conv .u64 (.x 0)) (
 .op (.call F.spec_l1Figures [(.x 2)] false) (
 .ret [(.x 3)]))))
theorem T.spec_l1Decimal_l : leftF Tryz.prog CF Tryz.f67 = some (1, T.spec_l1Decimal) := by kernel_rfl
theorem T.spec_l1Decimal_con {args : List AV} {res : AV} (hl : args.length = 1) (hn : AV.norefs args = true) (hw : wpT Tryz.prog (fun _ _ _ => False) (fun a => a = res) T.spec_l1Decimal args []) : PCon Tryz.prog F.spec_l1Decimal args res :=
  con_auto Tryz.func67 T.spec_l1Decimal_l hl hn hw
def T.spec_l1Quoted : T :=
.chk (.one (.c (.v (.int .u8 34)))) (
.op (.mkl (.v (.int .u8 0)) 1 [(0, (.c (.v (.int .u8 34))))]) (
.bind 1 (
 .loop [(.x 1), (.c (.v (.int .i64 0)))] (
  .op (.lenS (.x 0)) (
  .op (.bin .lss (.x 3) (.x 4)) (
  .ite (.x 5)
   (.bind 2 (
    .op (.idxS (.x 0) (.x 3)) (
    .op (.bin .eql (.x 6) (.c (.v (.int .u8 10)))) (
    .ite (.x 7)
     (.chk (.one (.c (.v (.int .u8 92)))) (
     .chk (.one (.c (.v (.int .u8 110)))) (
     .op (.mkl (.v (.int .u8 0)) 2 [(0, (.c (.v (.int .u8 92)))), (1, (.c (.v (.int .u8 110))))]) (
     .op (.app 1 1 (.x 2) (.sl (.x 8))) (
     .jump [(.x 9), (.x 8)])))))
     (.bind 1 (
      .op (.bin .eql (.x 6) (.c (.v (.int .u8 34)))) (
      .ite (.x 8)
       (.jump [(.x 8)])
       (.op (.bin .eql (.x 6) (.c (.v (.int .u8 92)))) (
       .jump [(.x 9)])))) (
     .ite (.x 8)
      (.op (.idxS (.x 0) (.x 3)) (
      .chk (.one (.c (.v (.int .u8 92)))) (
      .chk (.one (.x 9)) (
      .op (.mkl (.v (.int .u8 0)) 2 [(0, (.c (.v (.int .u8 92)))), (1, (.x 9))]) (
      .op (.app 1 1 (.x 2) (.sl (.x 10))) (
      .jump [(.x 11), (.x 10)]))))))
      (.op (.idxS (.x 0) (.x 3)) (
      .chk (.one (.x 9)) (
      .op (.mkl (.v (.int .u8 0)) 1 [(0, (.x 9))]) (
      .op (.app 1 1 (.x 2) (.sl (.x 10))) (
      .jump [(.x 11), (.x 10)])))))))))) (
   .op (.bin .add (.x 3) (.c (.v (.int .i64 1)))) (
   .jump [(.x 6), (.x 8)])))
   (.esc (.jump [(.x 2)])))))) (
.chk (.one (.c (.v (.int .u8 34)))) (
.op (.mkl (.v (.int .u8 0)) 1 [(0, (.c (.v (.int .u8 34))))]) (
.op (.app 1 1 (.x 2) (.sl (.x 3))) (
.op (.pu .b2s [(.sl (.x 4))]) (
.ret [(.x 5)])))))))
theorem T.spec_l1Quoted_l : leftF Tryz.prog CF Tryz.f68 = some (1, T.spec_l1Quoted) := by kernel_rfl
theorem T.spec_l1Quoted_con {args : List AV} {res : AV} (hl : args.length = 1) (hn : AV.norefs args = true) (hw : wpT Tryz.prog (fun _ _ _ => False) (fun a => a = res) T.spec_l1Quoted args []) : PCon Tryz.prog F.spec_l1Quoted args res :=
  con_auto Tryz.func68 T.spec_l1Quoted_l hl hn hw
def T.spec_l2Bool : T :=
.op (.bin .eql (.x 0) (.c (.v (.int .i64 1)))) (
.ite (.x 1)
 (.ret [(.c (.v (.string ⟨#[116, 114, 117, 101]⟩)))])
 (.ret [(.c (.v (.string ⟨#[102, 97, 108, 115, 101]⟩)))]))
theorem T.spec_l2Bool_l : leftF Tryz.prog CF Tryz.f69 = some (1, T.spec_l2Bool) := by kernel_rfl
theorem T.spec_l2Bool_con {args : List AV} {res : AV} (hl : args.length = 1) (hn : AV.norefs args = true) (hw : wpT Tryz.prog (fun _ _ _ => False) (fun a => a = res) T.spec_l2Bool args []) : PCon Tryz.prog F.spec_l2Bool args res :=
  con_auto Tryz.func69 T.spec_l2Bool_l hl hn hw
def T.spec_l2OpLevel : T :=
.bind 0 (
 .op (.bin .eql (.x 0) (.c (.v (.string ⟨#[58, 61]⟩)))) (
 .ite (.x 1)
  (.esc (.ret [(.c (.v (.int .i64 1)))]))
  (.bind 1 (
   .op (.bin .eql (.x 0) (.c (.v (.string ⟨#[61]⟩)))) (
   .ite (.x 2)
    (.jump [(.x 2)])
    (.op (.bin .eql (.x 0) (.c (.v (.string ⟨#[60]⟩)))) (
    .jump [(.x 3)])))) (
  .ite (.x 2)
   (.esc (.ret [(.c (.v (.int .i64 2)))]))
   (.op (.bin .eql (.x 0) (.c (.v (.string ⟨#[42]⟩)))) (
   .ite (.x 3)
    (.esc (.ret [(.c (.v (.int .i64 4)))]))
    (.jump []))))))) (
.ret [(.c (.v (.int .i64 3)))])
theorem T.spec_l2OpLevel_l : leftF Tryz.prog CF Tryz.f70 = some (1, T.spec_l2OpLevel) := by kernel_rfl
theorem T.spec_l2OpLevel_con {args : List AV} {res : AV} (hl : args.length = 1) (hn : AV.norefs args = true) (hw : wpT Tryz.prog (fun _ _ _ => False) (fun a => a = res) T.spec_l2OpLevel args []) : PCon Tryz.prog F.spec_l2OpLevel args res :=
  con_auto Tryz.func70 T.spec_l2OpLevel_l hl hn hw
def T.spec_l2Great : T :=
.chk (.cells (.x 0) 7) (
.op (.bin .eql (.cell 0 0) (.c (.v (.int .i64 10)))) (
.ite (.x 1)
 (.op (.bin .add (.c (.v (.string ⟨#[108, 101, 116, 32]⟩))) (.cell 0 1)) (
 .op (.bin .add (.x 2) (.c (.v (.string ⟨#[32, 61, 32]⟩)))) (
 .op (.elem 7 (.cell 0 5) (.c (.v (.int .i64 0)))) (
 .chk (.cells (.x 4) 7) (
 .op (.call F.spec_l2Text [(.x 4), (.c (.v (.int .i64 0)))] true) (
 .op (.bin .add (.x 3) (.x 5)) (
 .op (.bin .add (.x 6) (.c (.v (.string ⟨#[32, 105, 110, 32]⟩)))) (
 .op (.elem 7 (.cell 0 5) (.c (.v (.int .i64 1)))) (
 .chk (.cells (.x 8) 7) (
 .op (.call F.spec_l2Text [(.x 8), (.c (.v (.int .i64 0)))] true) (
 .op (.bin .add (.x 7) (.x 9)) (
 .ret [(.x 10)]))))))))))))
 (.op (.bin .eql (.cell 0 0) (.c (.v (.int .i64 11)))) (
 .ite (.x 2)
  (.op (.bin .add (.c (.v (.string ⟨#[108, 101, 116, 32, 114, 101, 99, 32]⟩))) (.cell 0 1)) (
  .op (.bin .add (.x 3) (.c (.v (.string ⟨#[32]⟩)))) (
  .op (.bin .add (.x 4) (.cell 0 3)) (
  .op (.bin .add (.x 5) (.c (.v (.string ⟨#[32, 61, 32]⟩)))) (
  .op (.elem 7 (.cell 0 5) (.c (.v (.int .i64 0)))) (
  .chk (.cells (.x 7) 7) (
  .op (.call F.spec_l2Text [(.x 7), (.c (.v (.int .i64 0)))] true) (
  .op (.bin .add (.x 6) (.x 8)) (
  .op (.bin .add (.x 9) (.c (.v (.string ⟨#[32, 105, 110, 32]⟩)))) (
  .op (.elem 7 (.cell 0 5) (.c (.v (.int .i64 1)))) (
  .chk (.cells (.x 11) 7) (
  .op (.call F.spec_l2Text [(.x 11), (.c (.v (.int .i64 0)))] true) (
  .op (.bin .add (.x 10) (.x 12)) (
  .ret [(.x 13)]))))))))))))))
  (.op (.bin .eql (.cell 0 0) (.c (.v (.int .i64 12)))) (
  .ite (.x 3)
   (.op (.elem 7 (.cell 0 5) (.c (.v (.int .i64 0)))) (
   .chk (.cells (.x 4) 7) (
   .op (.call F.spec_l2Text [(.x 4), (.c (.v (.int .i64 0)))] true) (
   .op (.bin .add (.c (.v (.string ⟨#[105, 102, 32]⟩))) (.x 5)) (
   .op (.bin .add (.x 6) (.c (.v (.string ⟨#[32, 116, 104, 101, 110, 32]⟩)))) (
   .op (.elem 7 (.cell 0 5) (.c (.v (.int .i64 1)))) (
   .chk (.cells (.x 8) 7) (
   .op (.call F.spec_l2Text [(.x 8), (.c (.v (.int .i64 0)))] true) (
   .op (.bin .add (.x 7) (.x 9)) (
   .op (.bin .add (.x 10) (.c (.v (.string ⟨#[32, 101, 108, 115, 101, 32]⟩)))) (
   .op (.elem 7 (.cell 0 5) (.c (.v (.int .i64 2)))) (
   .chk (.cells (.x 12) 7) (
   .op (.call F.spec_l2Text [(.x 12), (.c (.v (.int .i64 0)))] true) (
   .op (.bin .add (.x 11) (.x 13)) (
   .ret [(.x 14)])))))))))))))))
   (.op (.elem 7 (.cell 0 5) (.c (.v (.int .i64 0)))) (
   .chk (.cells (.x 4) 7) (
   .op (.call F.spec_l2Text [(.x 4), (.c (.v (.int .i64 0)))] false) (
   .op (.bin .add (.c (.v (.string ⟨#[109, 97, 116, 99, 104, 32]⟩))) (.x 5)) (
   .op (.bin .add (.x 6) (.c (.v (.string ⟨#[32, 119, 105, 116, 104]⟩)))) (
   .bind 1 (
    .loop [(.x 7), (.c (.v (.int .i64 0)))] (
     .op (.lenL (.cell 0 6)) (
     .op (.bin .lss (.x 9) (.x 10)) (
     .ite (.x 11)
      (.op (.bin .add (.x 8) (.c (.v (.string ⟨#[32, 124, 32]⟩)))) (
      .op (.elem 12 (.cell 0 6) (.x 9)) (
      .op (.loadc 0 5 (.x 13)) (
      .op (.call F.spec_l2PatText [(.x 14), (.c (.v (.int .i64 0)))] true) (
      .op (.bin .add (.x 12) (.x 15)) (
      .op (.bin .add (.x 16) (.c (.v (.string ⟨#[32, 45, 62, 32]⟩)))) (
      .op (.elem 12 (.cell 0 6) (.x 9)) (
      .op (.loadc 5 7 (.x 18)) (
      .op (.call F.spec_l2Text [(.x 19), (.c (.v (.int .i64 0)))] true) (
      .op (.bin .add (.x 17) (.x 20)) (
      .op (.bin .add (.x 9) (.c (.v (.int .i64 1)))) (
      .jump [(.x 21), (.x 22)]))))))))))))
      (.esc (.jump [(.x 8)])))))) (
   .op (.bin .add (.x 8) (.c (.v (.string ⟨#[32, 101, 110, 100]⟩)))) (
   .ret [(.x 9)]))))))))))))))
theorem T.spec_l2Great_l : leftF Tryz.prog CF Tryz.f71 = some (1, T.spec_l2Great) := by kernel_rfl
theorem T.spec_l2Great_con {args : List AV} {res : AV} (hl : args.length = 1) (hn : AV.norefs args = true) (hw : wpT Tryz.prog (fun _ _ _ => False) (fun a => a = res) T.spec_l2Great args []) : PCon Tryz.prog F.spec_l2Great args res :=
  con_auto Tryz.func71 T.spec_l2Great_l hl hn hw
def T.laws_toPat : T :=
.chk (.cells (.x 0) 5) (
.chk (.one (.cell 0 0)) (
.chk (.one (.cell 0 1)) (
.chk (.one (.cell 0 2)) (
.chk (.one (.cell 0 3)) (
.op (.call F.laws_toPatS [(.cell 0 4)] false) (
.chk (.one (.x 1)) (
.chk (.cells (.agg [(.cell 0 0), (.cell 0 1), (.cell 0 2), (.cell 0 3), (.x 1)]) 5) (
.ret [(.agg [(.cell 0 0), (.cell 0 1), (.cell 0 2), (.cell 0 3), (.x 1)])]))))))))
theorem T.laws_toPat_l : leftF Tryz.prog CF Tryz.f72 = some (1, T.laws_toPat) := by kernel_rfl
theorem T.laws_toPat_con {args : List AV} {res : AV} (hl : args.length = 1) (hn : AV.norefs args = true) (hw : wpT Tryz.prog (fun _ _ _ => False) (fun a => a = res) T.laws_toPat args []) : PCon Tryz.prog F.laws_toPat args res :=
  con_auto Tryz.func72 T.laws_toPat_l hl hn hw
def T.impl_plain : T :=
.bind 0 (
 .loop [(.c (.v (.int .i64 0)))] (
  .op (.lenS (.x 0)) (
  .op (.bin .lss (.x 1) (.x 2)) (
  .ite (.x 3)
   (.bind 0 (
    .bind 1 (
     .op (.idxS (.x 0) (.x 1)) (
     .op (.conv .i64 (.x 4)) (
     .op (.call F.impl_within [(.x 5), (.c (.v (.int .i64 32))), (.c (.v (.int .i64 126)))] false) (
     .op (.un .not (.x 6)) (
     .ite (.x 7)
      (.op (.idxS (.x 0) (.x 1)) (
      .op (.bin .neq (.x 8) (.c (.v (.int .u8 10)))) (
      .jump [(.x 9)])))
      (.jump [(.c (.v (.bool false)))])))))) (
    .ite (.x 4)
     (.esc (.esc (.esc (.ret [(.c (.v (.bool false)))]))))
     (.jump []))) (
   .op (.bin .add (.x 1) (.c (.v (.int .i64 1)))) (
   .jump [(.x 4)])))
   (.esc (.jump [])))))) (
.ret [(.c (.v (.bool true)))])
theorem T.impl_plain_l : leftF Tryz.prog CF Tryz.f73 = some (1, T.impl_plain) := by kernel_rfl
theorem T.impl_plain_con {args : List AV} {res : AV} (hl : args.length = 1) (hn : AV.norefs args = true) (hw : wpT Tryz.prog (fun _ _ _ => False) (fun a => a = res) T.impl_plain args []) : PCon Tryz.prog F.impl_plain args res :=
  con_auto Tryz.func73 T.impl_plain_l hl hn hw
def T.impl_within : T :=
.bind 1 (
 .op (.bin .geq (.x 0) (.x 1)) (
 .ite (.x 3)
  (.op (.bin .leq (.x 0) (.x 2)) (
  .jump [(.x 4)]))
  (.jump [(.c (.v (.bool false)))]))) (
.ret [(.x 3)])
theorem T.impl_within_l : leftF Tryz.prog CF Tryz.f74 = some (3, T.impl_within) := by kernel_rfl
theorem T.impl_within_con {args : List AV} {res : AV} (hl : args.length = 3) (hn : AV.norefs args = true) (hw : wpT Tryz.prog (fun _ _ _ => False) (fun a => a = res) T.impl_within args []) : PCon Tryz.prog F.impl_within args res :=
  con_auto Tryz.func74 T.impl_within_l hl hn hw
def T.impl_lowOk : T :=
.bind 1 (
 .op (.call F.impl_isName [(.x 0), (.c (.fn F.impl_small []))] false) (
 .ite (.x 1)
  (.op (.call F.impl_isKey [(.x 0)] false) (
  .op (.un .not (.x 2)) (
  .jump [(.x 3)])))
  (.jump [(.c (.v (.bool false)))]))) (
.ret [(.x 1)])
theorem T.impl_lowOk_l : leftF Tryz.prog CF Tryz.f75 = some (1, T.impl_lowOk) := by kernel_rfl
theorem T.impl_lowOk_con {args : List AV} {res : AV} (hl : args.length = 1) (hn : AV.norefs args = true) (hw : wpT Tryz.prog (fun _ _ _ => False) (fun a => a = res) T.impl_lowOk args []) : PCon Tryz.prog F.impl_lowOk args res :=
  con_auto Tryz.func75 T.impl_lowOk_l hl hn hw
def T.impl_upOk : T :=
.op (.call F.impl_isName [(.x 0), (.c (.fn F.impl_great []))] false) (
.ret [(.x 1)])
theorem T.impl_upOk_l : leftF Tryz.prog CF Tryz.f76 = some (1, T.impl_upOk) := by kernel_rfl
theorem T.impl_upOk_con {args : List AV} {res : AV} (hl : args.length = 1) (hn : AV.norefs args = true) (hw : wpT Tryz.prog (fun _ _ _ => False) (fun a => a = res) T.impl_upOk args []) : PCon Tryz.prog F.impl_upOk args res :=
  con_auto Tryz.func76 T.impl_upOk_l hl hn hw
def T.impl_binarySign : T :=
.chk (.one (.c (.v (.string ⟨#[43]⟩)))) (
.chk (.one (.c (.v (.string ⟨#[45]⟩)))) (
.chk (.one (.c (.v (.string ⟨#[42]⟩)))) (
.chk (.one (.c (.v (.string ⟨#[94]⟩)))) (
.chk (.one (.c (.v (.string ⟨#[61]⟩)))) (
.chk (.one (.c (.v (.string ⟨#[60]⟩)))) (
.chk (.one (.c (.v (.string ⟨#[58, 61]⟩)))) (
.op (.mkl (.v (.string ⟨#[]⟩)) 7 [(0, (.c (.v (.string ⟨#[43]⟩)))), (1, (.c (.v (.string ⟨#[45]⟩)))), (2, (.c (.v (.string ⟨#[42]⟩)))), (3, (.c (.v (.string ⟨#[94]⟩)))), (4, (.c (.v (.string ⟨#[61]⟩)))), (5, (.c (.v (.string ⟨#[60]⟩)))), (6, (.c (.v (.string ⟨#[58, 61]⟩))))]) (
.op (.call F.slices_Contains__string_string [(.sl (.x 1)), (.x 0)] true) (
.ret [(.x 2)])))))))))
theorem T.impl_binarySign_l : leftF Tryz.prog CF Tryz.f77 = some (1, T.impl_binarySign) := by kernel_rfl
theorem T.impl_binarySign_con {args : List AV} {res : AV} (hl : args.length = 1) (hn : AV.norefs args = true) (hw : wpT Tryz.prog (fun _ _ _ => False) (fun a => a = res) T.impl_binarySign args []) : PCon Tryz.prog F.impl_binarySign args res :=
  con_auto Tryz.func77 T.impl_binarySign_l hl hn hw
def T.impl_primArity : T :=
.bind 0 (
 .op (.bin .eql (.x 0) (.c (.v (.string ⟨#[114, 101, 97, 100]⟩)))) (
 .ite (.x 1)
  (.esc (.ret [(.c (.v (.int .i64 0)))]))
  (.bind 1 (
   .op (.bin .eql (.x 0) (.c (.v (.string ⟨#[112, 114, 105, 110, 116]⟩)))) (
   .ite (.x 2)
    (.jump [(.x 2)])
    (.op (.bin .eql (.x 0) (.c (.v (.string ⟨#[101, 120, 105, 116]⟩)))) (
    .ite (.x 3)
     (.jump [(.x 3)])
     (.op (.bin .eql (.x 0) (.c (.v (.string ⟨#[115, 105, 122, 101]⟩)))) (
     .ite (.x 4)
      (.jump [(.x 4)])
      (.op (.bin .eql (.x 0) (.c (.v (.string ⟨#[114, 101, 102]⟩)))) (
      .ite (.x 5)
       (.jump [(.x 5)])
       (.op (.bin .eql (.x 0) (.c (.v (.string ⟨#[33]⟩)))) (
       .jump [(.x 6)])))))))))) (
  .ite (.x 2)
   (.esc (.ret [(.c (.v (.int .i64 1)))]))
   (.jump []))))) (
.ret [(.c (.v (.int .i64 (-1))))])
theorem T.impl_primArity_l : leftF Tryz.prog CF Tryz.f78 = some (1, T.impl_primArity) := by kernel_rfl
theorem T.impl_primArity_con {args : List AV} {res : AV} (hl : args.length = 1) (hn : AV.norefs args = true) (hw : wpT Tryz.prog (fun _ _ _ => False) (fun a => a = res) T.impl_primArity args []) : PCon Tryz.prog F.impl_primArity args res :=
  con_auto Tryz.func78 T.impl_primArity_l hl hn hw
def T.slices_ContainsFunc__impl_Pat_impl_Pat : T :=
.op (.call F.slices_IndexFunc__impl_Pat_impl_Pat [(.x 0), (.x 1)] false) (
.op (.bin .geq (.x 2) (.c (.v (.int .i64 0)))) (
.ret [(.x 3)]))
theorem T.slices_ContainsFunc__impl_Pat_impl_Pat_l : leftF Tryz.prog CF Tryz.f79 = some (2, T.slices_ContainsFunc__impl_Pat_impl_Pat) := by kernel_rfl
theorem T.slices_ContainsFunc__impl_Pat_impl_Pat_con {args : List AV} {res : AV} (hl : args.length = 2) (hn : AV.norefs args = true) (hw : wpT Tryz.prog (fun _ _ _ => False) (fun a => a = res) T.slices_ContainsFunc__impl_Pat_impl_Pat args []) : PCon Tryz.prog F.slices_ContainsFunc__impl_Pat_impl_Pat args res :=
  con_auto Tryz.func79 T.slices_ContainsFunc__impl_Pat_impl_Pat_l hl hn hw
def T.impl_patOk_1 : T :=
.chk (.cells (.x 0) 5) (
.chk (.cells (.x 0) 5) (
.op (.call F.impl_patOk [(.x 0)] false) (
.op (.un .not (.x 1)) (
.ret [(.x 2)]))))
theorem T.impl_patOk_1_l : leftF Tryz.prog CF Tryz.f80 = some (1, T.impl_patOk_1) := by kernel_rfl
theorem T.impl_patOk_1_con {args : List AV} {res : AV} (hl : args.length = 1) (hn : AV.norefs args = true) (hw : wpT Tryz.prog (fun _ _ _ => False) (fun a => a = res) T.impl_patOk_1 args []) : PCon Tryz.prog F.impl_patOk_1 args res :=
  con_auto Tryz.func80 T.impl_patOk_1_l hl hn hw
def T.impl_openForm_1 : T :=
.op (.fap 5 (.x 1)) (
.op (.ldp none (.x 2)) (
.op (.elem 7 (.x 3) (.x 0)) (
.chk (.cells (.x 4) 7) (
.op (.call F.impl_expForm [(.x 4), (.c (.v (.int .i64 0)))] false) (
.ret [(.x 5)])))))
theorem T.impl_openForm_1_l : leftF Tryz.prog CF Tryz.f82 = some (2, T.impl_openForm_1) := by kernel_rfl
theorem T.impl_openForm_1_con {args : List AV} {res : AV} (hl : args.length = 2) (hn : AV.norefs args = true) (hw : wpT Tryz.prog (fun _ _ _ => False) (fun a => a = res) T.impl_openForm_1 args []) : PCon Tryz.prog F.impl_openForm_1 args res :=
  con_auto Tryz.func82 T.impl_openForm_1_l hl hn hw
def T.impl_patForm : T :=
.chk (.cells (.x 0) 5) (
.op (.bin .eql (.cell 0 0) (.c (.v (.int .i64 2)))) (
.ite (.x 2)
 (.ret [(.cell 0 1)])
 (.op (.bin .eql (.cell 0 0) (.c (.v (.int .i64 3)))) (
 .ite (.x 3)
  (.op (.call F.strconv_Itoa [(.cell 0 2)] false) (
  .ret [(.x 4)]))
  (.op (.bin .eql (.cell 0 0) (.c (.v (.int .i64 4)))) (
  .ite (.x 4)
   (.op (.call F.impl_boolWord [(.cell 0 2)] false) (
   .ret [(.x 5)]))
   (.op (.bin .eql (.cell 0 0) (.c (.v (.int .i64 5)))) (
   .ite (.x 5)
    (.ret [(.c (.v (.string ⟨#[40, 41]⟩)))])
    (.op (.bin .eql (.cell 0 0) (.c (.v (.int .i64 6)))) (
    .ite (.x 6)
     (.op (.call F.impl_forms_impl_Pat [(.cell 0 4), (.c (.v (.int .i64 0))), (.c (.v (.string ⟨#[44, 32]⟩))), (.c (.fn F.impl_patForm []))] false) (
     .op (.bin .add (.c (.v (.string ⟨#[40]⟩))) (.x 7)) (
     .op (.bin .add (.x 8) (.c (.v (.string ⟨#[41]⟩)))) (
     .ret [(.x 9)]))))
     (.op (.bin .eql (.cell 0 0) (.c (.v (.int .i64 7)))) (
     .ite (.x 7)
      (.op (.lenL (.cell 0 4)) (
      .op (.bin .eql (.x 8) (.c (.v (.int .i64 0)))) (
      .ite (.x 9)
       (.ret [(.cell 0 1)])
       (.op (.bin .add (.cell 0 1) (.c (.v (.string ⟨#[32]⟩)))) (
       .op (.elem 5 (.cell 0 4) (.c (.v (.int .i64 0)))) (
       .chk (.cells (.x 11) 5) (
       .op (.call F.impl_patForm [(.x 11), (.c (.v (.int .i64 1)))] true) (
       .op (.bin .add (.x 10) (.x 12)) (
       .op (.call F.impl_bracketed [(.x 13), (.c (.v (.int .i64 0))), (.x 1)] true) (
       .ret [(.x 14)]))))))))))
      (.ret [(.c (.v (.string ⟨#[95]⟩)))])))))))))))))
theorem T.impl_patForm_l : leftF Tryz.prog CF Tryz.f83 = some (2, T.impl_patForm) := by kernel_rfl
theorem T.impl_patForm_con {args : List AV} {res : AV} (hl : args.length = 2) (hn : AV.norefs args = true) (hw : wpT Tryz.prog (fun _ _ _ => False) (fun a => a = res) T.impl_patForm args []) : PCon Tryz.prog F.impl_patForm args res :=
  con_auto Tryz.func83 T.impl_patForm_l hl hn hw
def T.laws_eqPat : T :=
.chk (.cells (.x 0) 5) (
.chk (.cells (.x 1) 5) (
.op (.bin .neq (.cell 0 0) (.cell 1 0)) (
.ite (.x 2)
 (.ret [(.c (.v (.bool false)))])
 (.op (.bin .neq (.cell 0 1) (.cell 1 1)) (
 .ite (.x 3)
  (.ret [(.c (.v (.bool false)))])
  (.op (.bin .neq (.cell 0 2) (.cell 1 2)) (
  .ite (.x 4)
   (.ret [(.c (.v (.bool false)))])
   (.op (.bin .neq (.cell 0 3) (.cell 1 3)) (
   .ite (.x 5)
    (.ret [(.c (.v (.bool false)))])
    (.op (.call F.laws_eqPatS [(.cell 0 4), (.cell 1 4)] false) (
    .op (.un .not (.x 6)) (
    .ite (.x 7)
     (.ret [(.c (.v (.bool false)))])
     (.ret [(.c (.v (.bool true)))])))))))))))))
theorem T.laws_eqPat_l : leftF Tryz.prog CF Tryz.f84 = some (2, T.laws_eqPat) := by kernel_rfl
theorem T.laws_eqPat_con {args : List AV} {res : AV} (hl : args.length = 2) (hn : AV.norefs args = true) (hw : wpT Tryz.prog (fun _ _ _ => False) (fun a => a = res) T.laws_eqPat args []) : PCon Tryz.prog F.laws_eqPat args res :=
  con_auto Tryz.func84 T.laws_eqPat_l hl hn hw
def T.laws_szStringS : T :=
.op (.lenL (.x 0)) (
.op (.bin .sub (.x 1) (.x 2)) (
.op (.bin .lss (.x 3) (.c (.v (.int .i64 0)))) (
.ite (.x 4)
 (.ret [(.c (.v (.int .i64 (-1))))])
 (.bind 1 (
  .loop [(.x 3), (.c (.v (.int .i64 0)))] (
   .op (.lenL (.x 0)) (
   .op (.bin .lss (.x 6) (.x 7)) (
   .ite (.x 8)
    (.op (.elem 1 (.x 0) (.x 6)) (
    .chk (.lt (.x 9) 0) (
    .op (.lenS (.cell 9 0)) (
    .op (.bin .sub (.x 5) (.x 10)) (
    .op (.bin .lss (.x 11) (.c (.v (.int .i64 0)))) (
    .ite (.x 12)
     (.esc (.esc (.ret [(.c (.v (.int .i64 (-1))))])))
     (.op (.bin .add (.x 6) (.c (.v (.int .i64 1)))) (
     .jump [(.x 11), (.x 13)]))))))))
    (.esc (.jump [(.x 5)])))))) (
 .ret [(.x 5)])))))
theorem T.laws_szStringS_l : leftF Tryz.prog CF Tryz.f85 = some (2, T.laws_szStringS) := by kernel_rfl
theorem T.laws_szStringS_con {args : List AV} {res : AV} (hl : args.length = 2) (hn : AV.norefs args = true) (hw : wpT Tryz.prog (fun _ _ _ => False) (fun a => a = res) T.laws_szStringS args []) : PCon Tryz.prog F.laws_szStringS args res :=
  con_auto Tryz.func85 T.laws_szStringS_l hl hn hw
def T.laws_szCtorS : T :=
.op (.lenL (.x 0)) (
.op (.bin .sub (.x 1) (.x 2)) (
.op (.bin .lss (.x 3) (.c (.v (.int .i64 0)))) (
.ite (.x 4)
 (.ret [(.c (.v (.int .i64 (-1))))])
 (.bind 1 (
  .loop [(.x 3), (.c (.v (.int .i64 0)))] (
   .op (.lenL (.x 0)) (
   .op (.bin .lss (.x 6) (.x 7)) (
   .ite (.x 8)
    (.op (.elem 7 (.x 0) (.x 6)) (
    .chk (.cells (.x 9) 7) (
    .op (.call F.laws_szCtor [(.x 9), (.x 5)] false) (
    .op (.bin .lss (.x 10) (.c (.v (.int .i64 0)))) (
    .ite (.x 11)
     (.esc (.esc (.ret [(.c (.v (.int .i64 (-1))))])))
     (.op (.bin .add (.x 6) (.c (.v (.int .i64 1)))) (
     .jump [(.x 10), (.x 12)])))))))
    (.esc (.jump [(.x 5)])))))) (
 .ret [(.x 5)])))))
theorem T.laws_szCtorS_l : leftF Tryz.prog CF Tryz.f86 = some (2, T.laws_szCtorS) := by kernel_rfl
theorem T.laws_szCtorS_con {args : List AV} {res : AV} (hl : args.length = 2) (hn : AV.norefs args = true) (hw : wpT Tryz.prog (fun _ _ _ => False) (fun a => a = res) T.laws_szCtorS args []) : PCon Tryz.prog F.laws_szCtorS args res :=
  con_auto Tryz.func86 T.laws_szCtorS_l hl hn hw
def T.spec_l1Key : T :=
.chk (.one (.c (.v (.string ⟨#[116, 121, 112, 101]⟩)))) (
.chk (.one (.c (.v (.string ⟨#[111, 102]⟩)))) (
.chk (.one (.c (.v (.string ⟨#[108, 101, 116]⟩)))) (
.chk (.one (.c (.v (.string ⟨#[114, 101, 99]⟩)))) (
.chk (.one (.c (.v (.string ⟨#[105, 110]⟩)))) (
.chk (.one (.c (.v (.string ⟨#[102, 117, 110]⟩)))) (
.chk (.one (.c (.v (.string ⟨#[105, 102]⟩)))) (
.chk (.one (.c (.v (.string ⟨#[116, 104, 101, 110]⟩)))) (
.chk (.one (.c (.v (.string ⟨#[101, 108, 115, 101]⟩)))) (
.chk (.one (.c (.v (.string ⟨#[109, 97, 116, 99, 104]⟩)))) (
.chk (.one (.c (.v (.string ⟨#[119, 105, 116, 104]⟩)))) (
.chk (.one (.c (.v (.string ⟨#[101, 110, 100]⟩)))) (
.chk (.one (.c (.v (.string ⟨#[116, 114, 117, 101]⟩)))) (
.chk (.one (.c (.v (.string ⟨#[102, 97, 108, 115, 101]⟩)))) (
.chk (.one (.c (.v (.string ⟨#[114, 101, 102]⟩)))) (
.chk (.one (.c (.v (.string ⟨#[114, 101, 97, 100]⟩)))) (
.chk (.one (.c (.v (.string ⟨#[112, 114, 105, 110, 116]⟩)))) (
.chk (.one (.c (.v (.string ⟨#[101, 120, 105, 116]⟩)))) (
.chk (.one (.c (.v (.string ⟨#[115, 105, 122, 101]⟩)))) (
.op (.mkl (.v (.string ⟨#[]⟩)) 19 [(0, (.c (.v (.string ⟨#[116, 121, 112, 101]⟩)))), (1, (.c (.v (.string ⟨#[111, 102]⟩)))), (2, (.c (.v (.string ⟨#[108, 101, 116]⟩)))), (3, (.c (.v (.string ⟨#[114, 101, 99]⟩)))), (4, (.c (.v (.string ⟨#[105, 110]⟩)))), (5, (.c (.v (.string ⟨#[102, 117, 110]⟩)))), (6, (.c (.v (.string ⟨#[105, 102]⟩)))), (7, (.c (.v (.string ⟨#[116, 104, 101, 110]⟩)))), (8, (.c (.v (.string ⟨#[101, 108, 115, 101]⟩)))), (9, (.c (.v (.string ⟨#[109, 97, 116, 99, 104]⟩)))), (10, (.c (.v (.string ⟨#[119, 105, 116, 104]⟩)))), (11, (.c (.v (.string ⟨#[101, 110, 100]⟩)))), (12, (.c (.v (.string ⟨#[116, 114, 117, 101]⟩)))), (13, (.c (.v (.string ⟨#[102, 97, 108, 115, 101]⟩)))), (14, (.c (.v (.string ⟨#[114, 101, 102]⟩)))), (15, (.c (.v (.string ⟨#[114, 101, 97, 100]⟩)))), (16, (.c (.v (.string ⟨#[112, 114, 105, 110, 116]⟩)))), (17, (.c (.v (.string ⟨#[101, 120, 105, 116]⟩)))), (18, (.c (.v (.string ⟨#[115, 105, 122, 101]⟩))))]) (
.bind 0 (
 .loop [(.c (.v (.int .i64 0)))] (
  .op (.lenL (.sl (.x 1))) (
  .op (.bin .lss (.x 2) (.x 3)) (
  .ite (.x 4)
   (.chk (.idx (.x 1) (.x 2)) (
   .op (.get (.x 1) (.x 2) 0 none) (
   .op (.bin .eql (.x 5) (.x 0)) (
   .ite (.x 6)
    (.esc (.esc (.ret [(.c (.v (.bool true)))])))
    (.op (.bin .add (.x 2) (.c (.v (.int .i64 1)))) (
    .jump [(.x 7)]))))))
   (.esc (.jump [])))))) (
.ret [(.c (.v (.bool false)))])))))))))))))))))))))
theorem T.spec_l1Key_l : leftF Tryz.prog CF Tryz.f87 = some (1, T.spec_l1Key) := by kernel_rfl
theorem T.spec_l1Key_con {args : List AV} {res : AV} (hl : args.length = 1) (hn : AV.norefs args = true) (hw : wpT Tryz.prog (fun _ _ _ => False) (fun a => a = res) T.spec_l1Key args []) : PCon Tryz.prog F.spec_l1Key args res :=
  con_auto Tryz.func87 T.spec_l1Key_l hl hn hw
def T.spec_l1Upper : T :=
.op (.call F.spec_l1In [(.x 0), (.c (.v (.int .i64 65))), (.c (.v (.int .i64 90)))] false) (
.ret [(.x 1)])
theorem T.spec_l1Upper_l : leftF Tryz.prog CF Tryz.f88 = some (1, T.spec_l1Upper) := by kernel_rfl
theorem T.spec_l1Upper_con {args : List AV} {res : AV} (hl : args.length = 1) (hn : AV.norefs args = true) (hw : wpT Tryz.prog (fun _ _ _ => False) (fun a => a = res) T.spec_l1Upper args []) : PCon Tryz.prog F.spec_l1Upper args res :=
  con_auto Tryz.func88 T.spec_l1Upper_l hl hn hw
def T.spec_l1Lower : T :=
.op (.call F.spec_l1In [(.x 0), (.c (.v (.int .i64 97))), (.c (.v (.int .i64 122)))] false) (
.ret [(.x 1)])
theorem T.spec_l1Lower_l : leftF Tryz.prog CF Tryz.f89 = some (1, T.spec_l1Lower) := by kernel_rfl
theorem T.spec_l1Lower_con {args : List AV} {res : AV} (hl : args.length = 1) (hn : AV.norefs args = true) (hw : wpT Tryz.prog (fun _ _ _ => False) (fun a => a = res) T.spec_l1Lower args []) : PCon Tryz.prog F.spec_l1Lower args res :=
  con_auto Tryz.func89 T.spec_l1Lower_l hl hn hw
def T.spec_l1NameByte : T :=
.bind 1 (
 .op (.call F.spec_l1Lower [(.x 0)] false) (
 .ite (.x 1)
  (.jump [(.c (.v (.bool true)))])
  (.op (.call F.spec_l1Upper [(.x 0)] false) (
  .ite (.x 2)
   (.jump [(.c (.v (.bool true)))])
   (.op (.call F.spec_l1Num [(.x 0)] false) (
   .ite (.x 3)
    (.jump [(.c (.v (.bool true)))])
    (.op (.bin .eql (.x 0) (.c (.v (.int .i64 95)))) (
    .jump [(.x 4)])))))))) (
.ret [(.x 1)])
theorem T.spec_l1NameByte_l : leftF Tryz.prog CF Tryz.f90 = some (1, T.spec_l1NameByte) := by kernel_rfl
theorem T.spec_l1NameByte_con {args : List AV} {res : AV} (hl : args.length = 1) (hn : AV.norefs args = true) (hw : wpT Tryz.prog (fun _ _ _ => False) (fun a => a = res) T.spec_l1NameByte args []) : PCon Tryz.prog F.spec_l1NameByte args res :=
  con_auto Tryz.func90 T.spec_l1NameByte_l hl hn hw
def T.laws_toStringS : T :=
.op (.lenL (.x 0)) (
.op (.rep 16 (.v (.string ⟨#[]⟩)) (.x 1) (.x 1)) (
.bind 1 (
 .loop [(.x 2), (.c (.v (.int .i64 0)))] (
  .op (.lenL (.x 0)) (
  .op (.bin .lss (.x 4) (.x 5)) (
  .ite (.x 6)
   (.op (.elem 1 (.x 0) (.x 4)) (
   .chk (.lt (.x 7) 0) (
   .chk (.idx (.x 3) (.x 4)) (
   .chk (.one (.cell 7 0)) (
   .op (.set (.x 3) (.x 4) 0 1 (.cell 7 0)) (
   .op (.bin .add (.x 4) (.c (.v (.int .i64 1)))) (
   .jump [(.x 8), (.x 9)])))))))
   (.esc (.jump [(.x 3)])))))) (
.ret [(.sl (.x 3))])))
theorem T.laws_toStringS_l : leftF Tryz.prog CF Tryz.f91 = some (1, T.laws_toStringS) := by kernel_rfl
theorem T.laws_toStringS_con {args : List AV} {res : AV} (hl : args.length = 1) (hn : AV.norefs args = true) (hw : wpT Tryz.prog (fun _ _ _ => False) (fun a => a = res) T.laws_toStringS args []) : PCon Tryz.prog F.laws_toStringS args res :=
  con_auto Tryz.func91 T.laws_toStringS_l hl hn hw
def T.laws_toCtorS : T :=
.op (.lenL (.x 0)) (
.op (.rep 88 (.agg [(.v (.string ⟨#[]⟩)), (.v (.bool false)), (.v (.int .i64 0)), (.v (.string ⟨#[]⟩)), (.v (.int .i64 0)), .nils, (.v (.int .i64 0))]) (.x 1) (.x 1)) (
.bind 1 (
 .loop [(.x 2), (.c (.v (.int .i64 0)))] (
  .op (.lenL (.x 0)) (
  .op (.bin .lss (.x 4) (.x 5)) (
  .ite (.x 6)
   (.op (.elem 7 (.x 0) (.x 4)) (
   .chk (.cells (.x 7) 7) (
   .op (.call F.laws_toCtor [(.x 7)] false) (
   .chk (.idx (.x 3) (.x 4)) (
   .chk (.cells (.x 8) 7) (
   .op (.set (.x 3) (.x 4) 0 7 (.x 8)) (
   .op (.bin .add (.x 4) (.c (.v (.int .i64 1)))) (
   .jump [(.x 9), (.x 10)]))))))))
   (.esc (.jump [(.x 3)])))))) (
.ret [(.sl (.x 3))])))
theorem T.laws_toCtorS_l : leftF Tryz.prog CF Tryz.f92 = some (1, T.laws_toCtorS) := by kernel_rfl
theorem T.laws_toCtorS_con {args : List AV} {res : AV} (hl : args.length = 1) (hn : AV.norefs args = true) (hw : wpT Tryz.prog (fun _ _ _ => False) (fun a => a = res) T.laws_toCtorS args []) : PCon Tryz.prog F.laws_toCtorS args res :=
  con_auto Tryz.func92 T.laws_toCtorS_l hl hn hw
def T.slices_IndexFunc__impl_Data_impl_Data : T :=
.bind 0 (
 .op (.lenL (.x 0)) (
 .loop [(.c (.v (.int .i64 0)))] (
  .op (.bin .lss (.x 3) (.x 2)) (
  .ite (.x 4)
   (.op (.elem 4 (.x 0) (.x 3)) (
   .chk (.cells (.x 5) 4) (
   .op (.callv (.x 1) [(.x 5)] false) (
   .ite (.x 6)
    (.esc (.esc (.ret [(.x 3)])))
    (.op (.bin .add (.x 3) (.c (.v (.int .i64 1)))) (
    .jump [(.x 7)]))))))
   (.esc (.jump [])))))) (
.ret [(.c (.v (.int .i64 (-1))))])
theorem T.slices_IndexFunc__impl_Data_impl_Data_l : leftF Tryz.prog CF Tryz.f93 = some (2, T.slices_IndexFunc__impl_Data_impl_Data) := by kernel_rfl
theorem T.slices_IndexFunc__impl_Data_impl_Data_con {args : List AV} {res : AV} (hl : args.length = 2) (hn : AV.norefs args = true) (hw : wpT Tryz.prog (fun _ _ _ => False) (fun a => a = res) T.slices_IndexFunc__impl_Data_impl_Data args []) : PCon Tryz.prog F.slices_IndexFunc__impl_Data_impl_Data args res :=
  con_auto Tryz.func93 T.slices_IndexFunc__impl_Data_impl_Data_l hl hn hw
def T.impl_typeOk : T :=
.chk (.cells (.x 0) 4) (
.op (.bin .eql (.cell 0 1) (.c (.v (.string ⟨#[]⟩)))) (
.bind 2 (
 .op (.bin .eql (.cell 0 0) (.c (.v (.int .i64 1)))) (
 .ite (.x 2)
  (.op (.call F.impl_lowOk [(.cell 0 1)] false) (
  .jump [(.c (.v (.bool true))), (.x 3)]))
  (.op (.bin .eql (.cell 0 0) (.c (.v (.int .i64 2)))) (
  .ite (.x 3)
   (.op (.lenL (.cell 0 3)) (
   .op (.bin .eql (.x 4) (.c (.v (.int .i64 0)))) (
   .op (.call F.impl_isName [(.cell 0 1), (.c (.fn F.impl_small []))] true) (
   .jump [(.x 5), (.x 6)]))))
   (.op (.bin .eql (.cell 0 0) (.c (.v (.int .i64 3)))) (
   .ite (.x 4)
    (.op (.lenL (.cell 0 3)) (
    .op (.bin .eql (.x 5) (.c (.v (.int .i64 2)))) (
    .jump [(.x 6), (.x 1)])))
    (.op (.bin .eql (.cell 0 0) (.c (.v (.int .i64 4)))) (
    .ite (.x 5)
     (.op (.lenL (.cell 0 3)) (
     .op (.bin .geq (.x 6) (.c (.v (.int .i64 2)))) (
     .jump [(.x 7), (.x 1)])))
     (.op (.bin .eql (.cell 0 0) (.c (.v (.int .i64 5)))) (
     .ite (.x 6)
      (.op (.lenL (.cell 0 3)) (
      .op (.bin .eql (.x 7) (.c (.v (.int .i64 1)))) (
      .jump [(.x 8), (.x 1)])))
      (.jump [(.c (.v (.bool false))), (.x 1)]))))))))))) (
.bind 1 (
 .ite (.x 2)
  (.ite (.x 3)
   (.op (.bin .geq (.cell 0 2) (.c (.v (.int .i64 0)))) (
   .ite (.x 4)
    (.op (.call F.slices_ContainsFunc__impl_TypeExp_impl_TypeExp [(.cell 0 3), (.c (.fn F.impl_typeOk_1 []))] false) (
    .op (.un .not (.x 5)) (
    .jump [(.x 6)])))
    (.jump [(.c (.v (.bool false)))])))
   (.jump [(.c (.v (.bool false)))]))
  (.jump [(.c (.v (.bool false)))])) (
.ret [(.x 4)]))))
theorem T.impl_typeOk_l : leftF Tryz.prog CF Tryz.f94 = some (1, T.impl_typeOk) := by kernel_rfl
theorem T.impl_typeOk_con {args : List AV} {res : AV} (hl : args.length = 1) (hn : AV.norefs args = true) (hw : wpT Tryz.prog (fun _ _ _ => False) (fun a => a = res) T.impl_typeOk args []) : PCon Tryz.prog F.impl_typeOk args res :=
  con_auto Tryz.func94 T.impl_typeOk_l hl hn hw
def T.impl_emptyType : T :=
.chk (.cells (.x 0) 4) (
.bind 1 (
 .op (.bin .eql (.cell 0 0) (.c (.v (.int .i64 0)))) (
 .ite (.x 1)
  (.op (.bin .eql (.cell 0 1) (.c (.v (.string ⟨#[]⟩)))) (
  .ite (.x 2)
   (.op (.bin .eql (.cell 0 2) (.c (.v (.int .i64 0)))) (
   .ite (.x 3)
    (.op (.lenL (.cell 0 3)) (
    .op (.bin .eql (.x 4) (.c (.v (.int .i64 0)))) (
    .jump [(.x 5)])))
    (.jump [(.c (.v (.bool false)))])))
   (.jump [(.c (.v (.bool false)))])))
  (.jump [(.c (.v (.bool false)))]))) (
.ret [(.x 1)]))
theorem T.impl_emptyType_l : leftF Tryz.prog CF Tryz.f95 = some (1, T.impl_emptyType) := by kernel_rfl
theorem T.impl_emptyType_con {args : List AV} {res : AV} (hl : args.length = 1) (hn : AV.norefs args = true) (hw : wpT Tryz.prog (fun _ _ _ => False) (fun a => a = res) T.impl_emptyType args []) : PCon Tryz.prog F.impl_emptyType args res :=
  con_auto Tryz.func95 T.impl_emptyType_l hl hn hw
def T.slices_ContainsFunc__string_string : T :=
.op (.call F.slices_IndexFunc__string_string [(.x 0), (.x 1)] false) (
.op (.bin .geq (.x 2) (.c (.v (.int .i64 0)))) (
.ret [(.x 3)]))
theorem T.slices_ContainsFunc__string_string_l : leftF Tryz.prog CF Tryz.f96 = some (2, T.slices_ContainsFunc__string_string) := by kernel_rfl
theorem T.slices_ContainsFunc__string_string_con {args : List AV} {res : AV} (hl : args.length = 2) (hn : AV.norefs args = true) (hw : wpT Tryz.prog (fun _ _ _ => False) (fun a => a = res) T.slices_ContainsFunc__string_string args []) : PCon Tryz.prog F.slices_ContainsFunc__string_string args res :=
  con_auto Tryz.func96 T.slices_ContainsFunc__string_string_l hl hn hw
def T.impl_dataOk_1 : T :=
.op (.call F.impl_isName [(.x 0), (.c (.fn F.impl_small []))] false) (
.op (.un .not (.x 1)) (
.ret [(.x 2)]))
theorem T.impl_dataOk_1_l : leftF Tryz.prog CF Tryz.f97 = some (1, T.impl_dataOk_1) := by kernel_rfl
theorem T.impl_dataOk_1_con {args : List AV} {res : AV} (hl : args.length = 1) (hn : AV.norefs args = true) (hw : wpT Tryz.prog (fun _ _ _ => False) (fun a => a = res) T.impl_dataOk_1 args []) : PCon Tryz.prog F.impl_dataOk_1 args res :=
  con_auto Tryz.func97 T.impl_dataOk_1_l hl hn hw
def T.impl_isName : T :=
.bind 1 (
 .op (.lenS (.x 0)) (
 .op (.call F.impl_within [(.x 2), (.c (.v (.int .i64 1))), (.c (.v (.int .i64 12)))] false) (
 .ite (.x 3)
  (.op (.idxS (.x 0) (.c (.v (.int .i64 0)))) (
  .op (.callv (.x 1) [(.x 4)] false) (
  .ite (.x 5)
   (.op (.call F.impl_run [(.x 0), (.c (.v (.int .i64 0))), (.c (.fn F.impl_nameByte []))] false) (
   .op (.lenS (.x 0)) (
   .op (.bin .eql (.x 6) (.x 7)) (
   .jump [(.x 8)]))))
   (.jump [(.c (.v (.bool false)))]))))
  (.jump [(.c (.v (.bool false)))])))) (
.ret [(.x 2)])
theorem T.impl_isName_l : leftF Tryz.prog CF Tryz.f98 = some (2, T.impl_isName) := by kernel_rfl
theorem T.impl_isName_con {args : List AV} {res : AV} (hl : args.length = 2) (hn : AV.norefs args = true) (hw : wpT Tryz.prog (fun _ _ _ => False) (fun a => a = res) T.impl_isName args []) : PCon Tryz.prog F.impl_isName args res :=
  con_auto Tryz.func98 T.impl_isName_l hl hn hw
def T.impl_small : T :=
.bind 1 (
 .op (.bin .geq (.x 0) (.c (.v (.int .u8 97)))) (
 .ite (.x 1)
  (.op (.bin .leq (.x 0) (.c (.v (.int .u8 122)))) (
  .jump [(.x 2)]))
  (.jump [(.c (.v (.bool false)))]))) (
.ret [(.x 1)])
theorem T.impl_small_l : leftF Tryz.prog CF Tryz.f99 = some (1, T.impl_small) := by kernel_rfl
theorem T.impl_small_con {args : List AV} {res : AV} (hl : args.length = 1) (hn : AV.norefs args = true) (hw : wpT Tryz.prog (fun _ _ _ => False) (fun a => a = res) T.impl_small args []) : PCon Tryz.prog F.impl_small args res :=
  con_auto Tryz.func99 T.impl_small_l hl hn hw
def T.impl_forms_impl_TypeExp : T :=
.bind 1 (
 .op (.lenL (.x 0)) (
 .loop [(.c (.sl [])), (.c (.v (.int .i64 0)))] (
  .op (.bin .lss (.x 6) (.x 4)) (
  .ite (.x 7)
   (.op (.elem 4 (.x 0) (.x 6)) (
   .chk (.cells (.x 8) 4) (
   .chk (.cells (.x 8) 4) (
   .chk (.cells (.x 8) 4) (
   .op (.callv (.x 3) [(.x 8), (.x 1)] false) (
   .chk (.one (.x 9)) (
   .op (.mkl (.v (.string ⟨#[]⟩)) 1 [(0, (.x 9))]) (
   .op (.app 1 16 (.x 5) (.sl (.x 10))) (
   .op (.bin .add (.x 6) (.c (.v (.int .i64 1)))) (
   .jump [(.x 11), (.x 12)]))))))))))
   (.esc (.jump [(.x 5)])))))) (
.op (.call F.strings_Join [(.sl (.x 4)), (.x 2)] true) (
.ret [(.x 5)]))
theorem T.impl_forms_impl_TypeExp_l : leftF Tryz.prog CF Tryz.f100 = some (4, T.impl_forms_impl_TypeExp) := by kernel_rfl
theorem T.impl_forms_impl_TypeExp_con {args : List AV} {res : AV} (hl : args.length = 4) (hn : AV.norefs args = true) (hw : wpT Tryz.prog (fun _ _ _ => False) (fun a => a = res) T.impl_forms_impl_TypeExp args []) : PCon Tryz.prog F.impl_forms_impl_TypeExp args res :=
  con_auto Tryz.func100 T.impl_forms_impl_TypeExp_l hl hn hw
-- strings_Builder_Grow: no walk
-- strings_Builder_WriteString: no walk
def T.laws_eqStringS : T :=
.op (.lenL (.x 0)) (
.op (.lenL (.x 1)) (
.op (.bin .neq (.x 2) (.x 3)) (
.ite (.x 4)
 (.ret [(.c (.v (.bool false)))])
 (.bind 0 (
  .loop [(.c (.v (.int .i64 0)))] (
   .op (.lenL (.x 0)) (
   .op (.bin .lss (.x 5) (.x 6)) (
   .ite (.x 7)
    (.op (.elem 1 (.x 0) (.x 5)) (
    .chk (.lt (.x 8) 0) (
    .op (.elem 1 (.x 1) (.x 5)) (
    .chk (.lt (.x 9) 0) (
    .op (.bin .neq (.cell 8 0) (.cell 9 0)) (
    .ite (.x 10)
     (.esc (.esc (.ret [(.c (.v (.bool false)))])))
     (.op (.bin .add (.x 5) (.c (.v (.int .i64 1)))) (
     .jump [(.x 11)]))))))))
    (.esc (.jump [])))))) (
 .ret [(.c (.v (.bool true)))])))))
theorem T.laws_eqStringS_l : leftF Tryz.prog CF Tryz.f104 = some (2, T.laws_eqStringS) := by kernel_rfl
theorem T.laws_eqStringS_con {args : List AV} {res : AV} (hl : args.length = 2) (hn : AV.norefs args = true) (hw : wpT Tryz.prog (fun _ _ _ => False) (fun a => a = res) T.laws_eqStringS args []) : PCon Tryz.prog F.laws_eqStringS args res :=
  con_auto Tryz.func104 T.laws_eqStringS_l hl hn hw
def T.laws_eqCtorS : T :=
.op (.lenL (.x 0)) (
.op (.lenL (.x 1)) (
.op (.bin .neq (.x 2) (.x 3)) (
.ite (.x 4)
 (.ret [(.c (.v (.bool false)))])
 (.bind 0 (
  .loop [(.c (.v (.int .i64 0)))] (
   .op (.lenL (.x 0)) (
   .op (.bin .lss (.x 5) (.x 6)) (
   .ite (.x 7)
    (.op (.elem 7 (.x 0) (.x 5)) (
    .chk (.cells (.x 8) 7) (
    .op (.elem 7 (.x 1) (.x 5)) (
    .chk (.cells (.x 9) 7) (
    .op (.call F.laws_eqCtor [(.x 8), (.x 9)] true) (
    .op (.un .not (.x 10)) (
    .ite (.x 11)
     (.esc (.esc (.ret [(.c (.v (.bool false)))])))
     (.op (.bin .add (.x 5) (.c (.v (.int .i64 1)))) (
     .jump [(.x 12)])))))))))
    (.esc (.jump [])))))) (
 .ret [(.c (.v (.bool true)))])))))
theorem T.laws_eqCtorS_l : leftF Tryz.prog CF Tryz.f105 = some (2, T.laws_eqCtorS) := by kernel_rfl
theorem T.laws_eqCtorS_con {args : List AV} {res : AV} (hl : args.length = 2) (hn : AV.norefs args = true) (hw : wpT Tryz.prog (fun _ _ _ => False) (fun a => a = res) T.laws_eqCtorS args []) : PCon Tryz.prog F.laws_eqCtorS args res :=
  con_auto Tryz.func105 T.laws_eqCtorS_l hl hn hw
def T.laws_szPatS : T :=
.op (.lenL (.x 0)) (
.op (.bin .sub (.x 1) (.x 2)) (
.op (.bin .lss (.x 3) (.c (.v (.int .i64 0)))) (
.ite (.x 4)
 (.ret [(.c (.v (.int .i64 (-1))))])
 (.bind 1 (
  .loop [(.x 3), (.c (.v (.int .i64 0)))] (
   .op (.lenL (.x 0)) (
   .op (.bin .lss (.x 6) (.x 7)) (
   .ite (.x 8)
    (.op (.elem 5 (.x 0) (.x 6)) (
    .chk (.cells (.x 9) 5) (
    .op (.call F.laws_szPat [(.x 9), (.x 5)] false) (
    .op (.bin .lss (.x 10) (.c (.v (.int .i64 0)))) (
    .ite (.x 11)
     (.esc (.esc (.ret [(.c (.v (.int .i64 (-1))))])))
     (.op (.bin .add (.x 6) (.c (.v (.int .i64 1)))) (
     .jump [(.x 10), (.x 12)])))))))
    (.esc (.jump [(.x 5)])))))) (
 .ret [(.x 5)])))))
theorem T.laws_szPatS_l : leftF Tryz.prog CF Tryz.f106 = some (2, T.laws_szPatS) := by kernel_rfl
theorem T.laws_szPatS_con {args : List AV} {res : AV} (hl : args.length = 2) (hn : AV.norefs args = true) (hw : wpT Tryz.prog (fun _ _ _ => False) (fun a => a = res) T.laws_szPatS args []) : PCon Tryz.prog F.laws_szPatS args res :=
  con_auto Tryz.func106 T.laws_szPatS_l hl hn hw
def T.spec_l1Figures : T :=
.op (.bin .lss (.x 0) (.c (.v (.int .u64 10)))) (
.ite (.x 1)
 (.op (.bin .add (.c (.v (.int .u64 48))) (.x 0)) (
 .op (.conv .u8 (.x 2)) (
 .chk (.one (.x 3)) (
 .op (.mkl (.v (.int .u8 0)) 1 [(0, (.x 3))]) (
 .op (.pu .b2s [(.sl (.x 4))]) (
 .ret [(.x 5)]))))))
 (.op (.bin .quo (.x 0) (.c (.v (.int .u64 10)))) (
 .op (.call F.spec_l1Figures [(.x 2)] true) (
 .op (.bin .rem (.x 0) (.c (.v (.int .u64 10)))) (
 .op (.bin .add (.c (.v (.int .u64 48))) (.x 4)) (
 .op (.conv .u8 (.x 5)) (
 .chk (.one (.x 6)) (
 .op (.mkl (.v (.int .u8 0)) 1 [(0, (.x 6))]) (
 .op (.pu .b2s [(.x 7)]) (
 .op (.bin .add (.x 3) (.x 8)) (
 .ret [(.x 9)])))))))))))
theorem T.spec_l1Figures_l : leftF Tryz.prog CF Tryz.f107 = some (1, T.spec_l1Figures) := by kernel_rfl
theorem T.spec_l1Figures_con {args : List AV} {res : AV} (hl : args.length = 1) (hn : AV.norefs args = true) (hw : wpT Tryz.prog (fun _ _ _ => False) (fun a => a = res) T.spec_l1Figures args []) : PCon Tryz.prog F.spec_l1Figures args res :=
  con_auto Tryz.func107 T.spec_l1Figures_l hl hn hw
def T.spec_l2PatText : T :=
.chk (.cells (.x 0) 5) (
.bind 2 (
 .op (.bin .eql (.cell 0 0) (.c (.v (.int .i64 1)))) (
 .ite (.x 2)
  (.jump [(.c (.v (.string ⟨#[95]⟩))), (.c (.v (.int .i64 1)))])
  (.op (.bin .eql (.cell 0 0) (.c (.v (.int .i64 3)))) (
  .ite (.x 3)
   (.op (.call F.spec_l1Decimal [(.cell 0 2)] false) (
   .jump [(.x 4), (.c (.v (.int .i64 1)))]))
   (.op (.bin .eql (.cell 0 0) (.c (.v (.int .i64 4)))) (
   .ite (.x 4)
    (.op (.call F.spec_l2Bool [(.cell 0 2)] false) (
    .jump [(.x 5), (.c (.v (.int .i64 1)))]))
    (.op (.bin .eql (.cell 0 0) (.c (.v (.int .i64 5)))) (
    .ite (.x 5)
     (.jump [(.c (.v (.string ⟨#[40, 41]⟩))), (.c (.v (.int .i64 1)))])
     (.op (.bin .eql (.cell 0 0) (.c (.v (.int .i64 6)))) (
     .ite (.x 6)
      (.bind 1 (
       .loop [(.c (.v (.string ⟨#[40]⟩))), (.c (.v (.int .i64 0)))] (
        .op (.lenL (.cell 0 4)) (
        .op (.bin .lss (.x 8) (.x 9)) (
        .ite (.x 10)
         (.bind 1 (
          .bind 1 (
           .op (.bin .gtr (.x 8) (.c (.v (.int .i64 0)))) (
           .ite (.x 11)
            (.op (.bin .add (.x 7) (.c (.v (.string ⟨#[44, 32]⟩)))) (
            .jump [(.x 12)]))
            (.jump [(.x 7)]))) (
          .op (.elem 5 (.cell 0 4) (.x 8)) (
          .chk (.cells (.x 12) 5) (
          .op (.call F.spec_l2PatText [(.x 12), (.c (.v (.int .i64 0)))] false) (
          .op (.bin .add (.x 11) (.x 13)) (
          .jump [(.x 14)])))))) (
         .op (.bin .add (.x 8) (.c (.v (.int .i64 1)))) (
         .jump [(.x 11), (.x 12)])))
         (.esc (.jump [(.x 7)])))))) (
      .op (.bin .add (.x 7) (.c (.v (.string ⟨#[41]⟩)))) (
      .jump [(.x 8), (.c (.v (.int .i64 1)))])))
      (.op (.bin .eql (.cell 0 0) (.c (.v (.int .i64 7)))) (
      .ite (.x 7)
       (.op (.lenL (.cell 0 4)) (
       .op (.bin .eql (.x 8) (.c (.v (.int .i64 1)))) (
       .ite (.x 9)
        (.op (.bin .add (.cell 0 1) (.c (.v (.string ⟨#[32]⟩)))) (
        .op (.elem 5 (.cell 0 4) (.c (.v (.int .i64 0)))) (
        .chk (.cells (.x 11) 5) (
        .op (.call F.spec_l2PatText [(.x 11), (.c (.v (.int .i64 1)))] false) (
        .op (.bin .add (.x 10) (.x 12)) (
        .jump [(.x 13), (.c (.v (.int .i64 0)))]))))))
        (.jump [(.cell 0 1), (.c (.v (.int .i64 1)))]))))
       (.jump [(.cell 0 1), (.c (.v (.int .i64 1)))]))))))))))))) (
.op (.call F.spec_l2Round [(.x 2), (.x 3), (.x 1)] false) (
.ret [(.x 4)])))
theorem T.spec_l2PatText_l : leftF Tryz.prog CF Tryz.f108 = some (2, T.spec_l2PatText) := by kernel_rfl
theorem T.spec_l2PatText_con {args : List AV} {res : AV} (hl : args.length = 2) (hn : AV.norefs args = true) (hw : wpT Tryz.prog (fun _ _ _ => False) (fun a => a = res) T.spec_l2PatText args []) : PCon Tryz.prog F.spec_l2PatText args res :=
  con_auto Tryz.func108 T.spec_l2PatText_l hl hn hw
def T.laws_toPatS : T :=
.op (.lenL (.x 0)) (
.op (.rep 64 (.agg [(.v (.int .i64 0)), (.v (.string ⟨#[]⟩)), (.v (.int .i64 0)), (.v (.int .i64 0)), .nils]) (.x 1) (.x 1)) (
.bind 1 (
 .loop [(.x 2), (.c (.v (.int .i64 0)))] (
  .op (.lenL (.x 0)) (
  .op (.bin .lss (.x 4) (.x 5)) (
  .ite (.x 6)
   (.op (.elem 5 (.x 0) (.x 4)) (
   .chk (.cells (.x 7) 5) (
   .op (.call F.laws_toPat [(.x 7)] false) (
   .chk (.idx (.x 3) (.x 4)) (
   .chk (.cells (.x 8) 5) (
   .op (.set (.x 3) (.x 4) 0 5 (.x 8)) (
   .op (.bin .add (.x 4) (.c (.v (.int .i64 1)))) (
   .jump [(.x 9), (.x 10)]))))))))
   (.esc (.jump [(.x 3)])))))) (
.ret [(.sl (.x 3))])))
theorem T.laws_toPatS_l : leftF Tryz.prog CF Tryz.f109 = some (1, T.laws_toPatS) := by kernel_rfl
theorem T.laws_toPatS_con {args : List AV} {res : AV} (hl : args.length = 1) (hn : AV.norefs args = true) (hw : wpT Tryz.prog (fun _ _ _ => False) (fun a => a = res) T.laws_toPatS args []) : PCon Tryz.prog F.laws_toPatS args res :=
  con_auto Tryz.func109 T.laws_toPatS_l hl hn hw
def T.impl_isKey : T :=
.chk (.one (.c (.v (.string ⟨#[116, 121, 112, 101]⟩)))) (
.chk (.one (.c (.v (.string ⟨#[111, 102]⟩)))) (
.chk (.one (.c (.v (.string ⟨#[108, 101, 116]⟩)))) (
.chk (.one (.c (.v (.string ⟨#[114, 101, 99]⟩)))) (
.chk (.one (.c (.v (.string ⟨#[105, 110]⟩)))) (
.chk (.one (.c (.v (.string ⟨#[102, 117, 110]⟩)))) (
.chk (.one (.c (.v (.string ⟨#[105, 102]⟩)))) (
.chk (.one (.c (.v (.string ⟨#[116, 104, 101, 110]⟩)))) (
.chk (.one (.c (.v (.string ⟨#[101, 108, 115, 101]⟩)))) (
.chk (.one (.c (.v (.string ⟨#[109, 97, 116, 99, 104]⟩)))) (
.chk (.one (.c (.v (.string ⟨#[119, 105, 116, 104]⟩)))) (
.chk (.one (.c (.v (.string ⟨#[101, 110, 100]⟩)))) (
.chk (.one (.c (.v (.string ⟨#[116, 114, 117, 101]⟩)))) (
.chk (.one (.c (.v (.string ⟨#[102, 97, 108, 115, 101]⟩)))) (
.chk (.one (.c (.v (.string ⟨#[114, 101, 102]⟩)))) (
.chk (.one (.c (.v (.string ⟨#[114, 101, 97, 100]⟩)))) (
.chk (.one (.c (.v (.string ⟨#[112, 114, 105, 110, 116]⟩)))) (
.chk (.one (.c (.v (.string ⟨#[101, 120, 105, 116]⟩)))) (
.chk (.one (.c (.v (.string ⟨#[115, 105, 122, 101]⟩)))) (
.op (.mkl (.v (.string ⟨#[]⟩)) 19 [(0, (.c (.v (.string ⟨#[116, 121, 112, 101]⟩)))), (1, (.c (.v (.string ⟨#[111, 102]⟩)))), (2, (.c (.v (.string ⟨#[108, 101, 116]⟩)))), (3, (.c (.v (.string ⟨#[114, 101, 99]⟩)))), (4, (.c (.v (.string ⟨#[105, 110]⟩)))), (5, (.c (.v (.string ⟨#[102, 117, 110]⟩)))), (6, (.c (.v (.string ⟨#[105, 102]⟩)))), (7, (.c (.v (.string ⟨#[116, 104, 101, 110]⟩)))), (8, (.c (.v (.string ⟨#[101, 108, 115, 101]⟩)))), (9, (.c (.v (.string ⟨#[109, 97, 116, 99, 104]⟩)))), (10, (.c (.v (.string ⟨#[119, 105, 116, 104]⟩)))), (11, (.c (.v (.string ⟨#[101, 110, 100]⟩)))), (12, (.c (.v (.string ⟨#[116, 114, 117, 101]⟩)))), (13, (.c (.v (.string ⟨#[102, 97, 108, 115, 101]⟩)))), (14, (.c (.v (.string ⟨#[114, 101, 102]⟩)))), (15, (.c (.v (.string ⟨#[114, 101, 97, 100]⟩)))), (16, (.c (.v (.string ⟨#[112, 114, 105, 110, 116]⟩)))), (17, (.c (.v (.string ⟨#[101, 120, 105, 116]⟩)))), (18, (.c (.v (.string ⟨#[115, 105, 122, 101]⟩))))]) (
.op (.call F.slices_Contains__string_string [(.sl (.x 1)), (.x 0)] true) (
.ret [(.x 2)])))))))))))))))))))))
theorem T.impl_isKey_l : leftF Tryz.prog CF Tryz.f110 = some (1, T.impl_isKey) := by kernel_rfl
theorem T.impl_isKey_con {args : List AV} {res : AV} (hl : args.length = 1) (hn : AV.norefs args = true) (hw : wpT Tryz.prog (fun _ _ _ => False) (fun a => a = res) T.impl_isKey args []) : PCon Tryz.prog F.impl_isKey args res :=
  con_auto Tryz.func110 T.impl_isKey_l hl hn hw
def T.impl_great : T :=
.bind 1 (
 .op (.bin .geq (.x 0) (.c (.v (.int .u8 65)))) (
 .ite (.x 1)
  (.op (.bin .leq (.x 0) (.c (.v (.int .u8 90)))) (
  .jump [(.x 2)]))
  (.jump [(.c (.v (.bool false)))]))) (
.ret [(.x 1)])
theorem T.impl_great_l : leftF Tryz.prog CF Tryz.f111 = some (1, T.impl_great) := by kernel_rfl
theorem T.impl_great_con {args : List AV} {res : AV} (hl : args.length = 1) (hn : AV.norefs args = true) (hw : wpT Tryz.prog (fun _ _ _ => False) (fun a => a = res) T.impl_great args []) : PCon Tryz.prog F.impl_great args res :=
  con_auto Tryz.func111 T.impl_great_l hl hn hw
def T.slices_Contains__string_string : T :=
.op (.call F.slices_Index__string_string [(.x 0), (.x 1)] false) (
.op (.bin .geq (.x 2) (.c (.v (.int .i64 0)))) (
.ret [(.x 3)]))
theorem T.slices_Contains__string_string_l : leftF Tryz.prog CF Tryz.f112 = some (2, T.slices_Contains__string_string) := by kernel_rfl
theorem T.slices_Contains__string_string_con {args : List AV} {res : AV} (hl : args.length = 2) (hn : AV.norefs args = true) (hw : wpT Tryz.prog (fun _ _ _ => False) (fun a => a = res) T.slices_Contains__string_string args []) : PCon Tryz.prog F.slices_Contains__string_string args res :=
  con_auto Tryz.func112 T.slices_Contains__string_string_l hl hn hw
def T.slices_IndexFunc__impl_Pat_impl_Pat : T :=
.bind 0 (
 .op (.lenL (.x 0)) (
 .loop [(.c (.v (.int .i64 0)))] (
  .op (.bin .lss (.x 3) (.x 2)) (
  .ite (.x 4)
   (.op (.elem 5 (.x 0) (.x 3)) (
   .chk (.cells (.x 5) 5) (
   .op (.callv (.x 1) [(.x 5)] false) (
   .ite (.x 6)
    (.esc (.esc (.ret [(.x 3)])))
    (.op (.bin .add (.x 3) (.c (.v (.int .i64 1)))) (
    .jump [(.x 7)]))))))
   (.esc (.jump [])))))) (
.ret [(.c (.v (.int .i64 (-1))))])
theorem T.slices_IndexFunc__impl_Pat_impl_Pat_l : leftF Tryz.prog CF Tryz.f113 = some (2, T.slices_IndexFunc__impl_Pat_impl_Pat) := by kernel_rfl
theorem T.slices_IndexFunc__impl_Pat_impl_Pat_con {args : List AV} {res : AV} (hl : args.length = 2) (hn : AV.norefs args = true) (hw : wpT Tryz.prog (fun _ _ _ => False) (fun a => a = res) T.slices_IndexFunc__impl_Pat_impl_Pat args []) : PCon Tryz.prog F.slices_IndexFunc__impl_Pat_impl_Pat args res :=
  con_auto Tryz.func113 T.slices_IndexFunc__impl_Pat_impl_Pat_l hl hn hw
-- internalstrconv_FormatInt: no walk
def T.impl_forms_impl_Pat : T :=
.bind 1 (
 .op (.lenL (.x 0)) (
 .loop [(.c (.sl [])), (.c (.v (.int .i64 0)))] (
  .op (.bin .lss (.x 6) (.x 4)) (
  .ite (.x 7)
   (.op (.elem 5 (.x 0) (.x 6)) (
   .chk (.cells (.x 8) 5) (
   .chk (.cells (.x 8) 5) (
   .chk (.cells (.x 8) 5) (
   .op (.callv (.x 3) [(.x 8), (.x 1)] false) (
   .chk (.one (.x 9)) (
   .op (.mkl (.v (.string ⟨#[]⟩)) 1 [(0, (.x 9))]) (
   .op (.app 1 16 (.x 5) (.sl (.x 10))) (
   .op (.bin .add (.x 6) (.c (.v (.int .i64 1)))) (
   .jump [(.x 11), (.x 12)]))))))))))
   (.esc (.jump [(.x 5)])))))) (
.op (.call F.strings_Join [(.sl (.x 4)), (.x 2)] true) (
.ret [(.x 5)]))
theorem T.impl_forms_impl_Pat_l : leftF Tryz.prog CF Tryz.f115 = some (4, T.impl_forms_impl_Pat) := by kernel_rfl
theorem T.impl_forms_impl_Pat_con {args : List AV} {res : AV} (hl : args.length = 4) (hn : AV.norefs args = true) (hw : wpT Tryz.prog (fun _ _ _ => False) (fun a => a = res) T.impl_forms_impl_Pat args []) : PCon Tryz.prog F.impl_forms_impl_Pat args res :=
  con_auto Tryz.func115 T.impl_forms_impl_Pat_l hl hn hw
def T.laws_eqPatS : T :=
.op (.lenL (.x 0)) (
.op (.lenL (.x 1)) (
.op (.bin .neq (.x 2) (.x 3)) (
.ite (.x 4)
 (.ret [(.c (.v (.bool false)))])
 (.bind 0 (
  .loop [(.c (.v (.int .i64 0)))] (
   .op (.lenL (.x 0)) (
   .op (.bin .lss (.x 5) (.x 6)) (
   .ite (.x 7)
    (.op (.elem 5 (.x 0) (.x 5)) (
    .chk (.cells (.x 8) 5) (
    .op (.elem 5 (.x 1) (.x 5)) (
    .chk (.cells (.x 9) 5) (
    .op (.call F.laws_eqPat [(.x 8), (.x 9)] true) (
    .op (.un .not (.x 10)) (
    .ite (.x 11)
     (.esc (.esc (.ret [(.c (.v (.bool false)))])))
     (.op (.bin .add (.x 5) (.c (.v (.int .i64 1)))) (
     .jump [(.x 12)])))))))))
    (.esc (.jump [])))))) (
 .ret [(.c (.v (.bool true)))])))))
theorem T.laws_eqPatS_l : leftF Tryz.prog CF Tryz.f116 = some (2, T.laws_eqPatS) := by kernel_rfl
theorem T.laws_eqPatS_con {args : List AV} {res : AV} (hl : args.length = 2) (hn : AV.norefs args = true) (hw : wpT Tryz.prog (fun _ _ _ => False) (fun a => a = res) T.laws_eqPatS args []) : PCon Tryz.prog F.laws_eqPatS args res :=
  con_auto Tryz.func116 T.laws_eqPatS_l hl hn hw
def T.laws_szCtor : T :=
.chk (.cells (.x 0) 7) (
.op (.lenS (.cell 0 0)) (
.op (.bin .sub (.x 1) (.x 2)) (
.op (.bin .lss (.x 3) (.c (.v (.int .i64 0)))) (
.ite (.x 4)
 (.ret [(.c (.v (.int .i64 (-1))))])
 (.op (.call F.laws_szTypeExp [(.agg [(.cell 0 2), (.cell 0 3), (.cell 0 4), (.cell 0 5)]), (.x 3)] false) (
 .op (.bin .lss (.x 5) (.c (.v (.int .i64 0)))) (
 .ite (.x 6)
  (.ret [(.c (.v (.int .i64 (-1))))])
  (.ret [(.x 5)]))))))))
theorem T.laws_szCtor_l : leftF Tryz.prog CF Tryz.f117 = some (2, T.laws_szCtor) := by kernel_rfl
theorem T.laws_szCtor_con {args : List AV} {res : AV} (hl : args.length = 2) (hn : AV.norefs args = true) (hw : wpT Tryz.prog (fun _ _ _ => False) (fun a => a = res) T.laws_szCtor args []) : PCon Tryz.prog F.laws_szCtor args res :=
  con_auto Tryz.func117 T.laws_szCtor_l hl hn hw
def T.spec_l1Num : T :=
.op (.call F.spec_l1In [(.x 0), (.c (.v (.int .i64 48))), (.c (.v (.int .i64 57)))] false) (
.ret [(.x 1)])
theorem T.spec_l1Num_l : leftF Tryz.prog CF Tryz.f118 = some (1, T.spec_l1Num) := by kernel_rfl
theorem T.spec_l1Num_con {args : List AV} {res : AV} (hl : args.length = 1) (hn : AV.norefs args = true) (hw : wpT Tryz.prog (fun _ _ _ => False) (fun a => a = res) T.spec_l1Num args []) : PCon Tryz.prog F.spec_l1Num args res :=
  con_auto Tryz.func118 T.spec_l1Num_l hl hn hw
def T.laws_toCtor : T :=
.chk (.cells (.x 0) 7) (
.chk (.one (.cell 0 0)) (
.chk (.one (.cell 0 1)) (
.op (.call F.laws_toTypeExp [(.agg [(.cell 0 2), (.cell 0 3), (.cell 0 4), (.cell 0 5)])] false) (
.chk (.cells (.x 1) 4) (
.chk (.one (.cell 0 6)) (
.chk (.cells (.agg [(.cell 0 0), (.cell 0 1), (.cell 1 0), (.cell 1 1), (.cell 1 2), (.cell 1 3), (.cell 0 6)]) 7) (
.ret [(.agg [(.cell 0 0), (.cell 0 1), (.cell 1 0), (.cell 1 1), (.cell 1 2), (.cell 1 3), (.cell 0 6)])])))))))
theorem T.laws_toCtor_l : leftF Tryz.prog CF Tryz.f119 = some (1, T.laws_toCtor) := by kernel_rfl
theorem T.laws_toCtor_con {args : List AV} {res : AV} (hl : args.length = 1) (hn : AV.norefs args = true) (hw : wpT Tryz.prog (fun _ _ _ => False) (fun a => a = res) T.laws_toCtor args []) : PCon Tryz.prog F.laws_toCtor args res :=
  con_auto Tryz.func119 T.laws_toCtor_l hl hn hw
def T.slices_ContainsFunc__impl_TypeExp_impl_TypeExp : T :=
.op (.call F.slices_IndexFunc__impl_TypeExp_impl_TypeExp [(.x 0), (.x 1)] false) (
.op (.bin .geq (.x 2) (.c (.v (.int .i64 0)))) (
.ret [(.x 3)]))
theorem T.slices_ContainsFunc__impl_TypeExp_impl_TypeExp_l : leftF Tryz.prog CF Tryz.f120 = some (2, T.slices_ContainsFunc__impl_TypeExp_impl_TypeExp) := by kernel_rfl
theorem T.slices_ContainsFunc__impl_TypeExp_impl_TypeExp_con {args : List AV} {res : AV} (hl : args.length = 2) (hn : AV.norefs args = true) (hw : wpT Tryz.prog (fun _ _ _ => False) (fun a => a = res) T.slices_ContainsFunc__impl_TypeExp_impl_TypeExp args []) : PCon Tryz.prog F.slices_ContainsFunc__impl_TypeExp_impl_TypeExp args res :=
  con_auto Tryz.func120 T.slices_ContainsFunc__impl_TypeExp_impl_TypeExp_l hl hn hw
def T.impl_typeOk_1 : T :=
.chk (.cells (.x 0) 4) (
.chk (.cells (.x 0) 4) (
.op (.call F.impl_typeOk [(.x 0)] false) (
.op (.un .not (.x 1)) (
.ret [(.x 2)]))))
theorem T.impl_typeOk_1_l : leftF Tryz.prog CF Tryz.f121 = some (1, T.impl_typeOk_1) := by kernel_rfl
theorem T.impl_typeOk_1_con {args : List AV} {res : AV} (hl : args.length = 1) (hn : AV.norefs args = true) (hw : wpT Tryz.prog (fun _ _ _ => False) (fun a => a = res) T.impl_typeOk_1 args []) : PCon Tryz.prog F.impl_typeOk_1 args res :=
  con_auto Tryz.func121 T.impl_typeOk_1_l hl hn hw
def T.slices_IndexFunc__string_string : T :=
.bind 0 (
 .op (.lenL (.x 0)) (
 .loop [(.c (.v (.int .i64 0)))] (
  .op (.bin .lss (.x 3) (.x 2)) (
  .ite (.x 4)
   (.op (.elem 1 (.x 0) (.x 3)) (
   .chk (.lt (.x 5) 0) (
   .op (.callv (.x 1) [(.cell 5 0)] false) (
   .ite (.x 6)
    (.esc (.esc (.ret [(.x 3)])))
    (.op (.bin .add (.x 3) (.c (.v (.int .i64 1)))) (
    .jump [(.x 7)]))))))
   (.esc (.jump [])))))) (
.ret [(.c (.v (.int .i64 (-1))))])
theorem T.slices_IndexFunc__string_string_l : leftF Tryz.prog CF Tryz.f122 = some (2, T.slices_IndexFunc__string_string) := by kernel_rfl
theorem T.slices_IndexFunc__string_string_con {args : List AV} {res : AV} (hl : args.length = 2) (hn : AV.norefs args = true) (hw : wpT Tryz.prog (fun _ _ _ => False) (fun a => a = res) T.slices_IndexFunc__string_string args []) : PCon Tryz.prog F.slices_IndexFunc__string_string args res :=
  con_auto Tryz.func122 T.slices_IndexFunc__string_string_l hl hn hw
def T.impl_run : T :=
.bind 1 (
 .loop [(.x 1)] (
  .bind 0 (
   .bind 1 (
    .op (.lenS (.x 0)) (
    .op (.bin .lss (.x 3) (.x 4)) (
    .ite (.x 5)
     (.op (.idxS (.x 0) (.x 3)) (
     .op (.callv (.x 2) [(.x 6)] false) (
     .jump [(.x 7)])))
     (.jump [(.c (.v (.bool false)))])))) (
   .ite (.x 4)
    (.jump [])
    (.esc (.esc (.jump [(.x 3)]))))) (
  .op (.bin .add (.x 3) (.c (.v (.int .i64 1)))) (
  .jump [(.x 4)])))) (
.ret [(.x 3)])
theorem T.impl_run_l : leftF Tryz.prog CF Tryz.f123 = some (3, T.impl_run) := by kernel_rfl
theorem T.impl_run_con {args : List AV} {res : AV} (hl : args.length = 3) (hn : AV.norefs args = true) (hw : wpT Tryz.prog (fun _ _ _ => False) (fun a => a = res) T.impl_run args []) : PCon Tryz.prog F.impl_run args res :=
  con_auto Tryz.func123 T.impl_run_l hl hn hw
def T.impl_nameByte : T :=
.bind 1 (
 .op (.call F.impl_small [(.x 0)] false) (
 .ite (.x 1)
  (.jump [(.c (.v (.bool true)))])
  (.op (.call F.impl_great [(.x 0)] false) (
  .ite (.x 2)
   (.jump [(.c (.v (.bool true)))])
   (.op (.call F.impl_digit [(.x 0)] false) (
   .ite (.x 3)
    (.jump [(.c (.v (.bool true)))])
    (.op (.bin .eql (.x 0) (.c (.v (.int .u8 95)))) (
    .jump [(.x 4)])))))))) (
.ret [(.x 1)])
theorem T.impl_nameByte_l : leftF Tryz.prog CF Tryz.f124 = some (1, T.impl_nameByte) := by kernel_rfl
theorem T.impl_nameByte_con {args : List AV} {res : AV} (hl : args.length = 1) (hn : AV.norefs args = true) (hw : wpT Tryz.prog (fun _ _ _ => False) (fun a => a = res) T.impl_nameByte args []) : PCon Tryz.prog F.impl_nameByte args res :=
  con_auto Tryz.func124 T.impl_nameByte_l hl hn hw
-- strings_Builder_copyCheck: code not covered
-- strings_Builder_grow: no walk
def T.laws_eqCtor : T :=
.chk (.cells (.x 0) 7) (
.chk (.cells (.x 1) 7) (
.op (.bin .neq (.cell 0 0) (.cell 1 0)) (
.ite (.x 2)
 (.ret [(.c (.v (.bool false)))])
 (.op (.beq true (.cell 0 1) (.cell 1 1)) (
 .ite (.x 3)
  (.ret [(.c (.v (.bool false)))])
  (.op (.call F.laws_eqTypeExp [(.agg [(.cell 0 2), (.cell 0 3), (.cell 0 4), (.cell 0 5)]), (.agg [(.cell 1 2), (.cell 1 3), (.cell 1 4), (.cell 1 5)])] false) (
  .op (.un .not (.x 4)) (
  .ite (.x 5)
   (.ret [(.c (.v (.bool false)))])
   (.op (.bin .neq (.cell 0 6) (.cell 1 6)) (
   .ite (.x 6)
    (.ret [(.c (.v (.bool false)))])
    (.ret [(.c (.v (.bool true)))])))))))))))
theorem T.laws_eqCtor_l : leftF Tryz.prog CF Tryz.f127 = some (2, T.laws_eqCtor) := by kernel_rfl
theorem T.laws_eqCtor_con {args : List AV} {res : AV} (hl : args.length = 2) (hn : AV.norefs args = true) (hw : wpT Tryz.prog (fun _ _ _ => False) (fun a => a = res) T.laws_eqCtor args []) : PCon Tryz.prog F.laws_eqCtor args res :=
  con_auto Tryz.func127 T.laws_eqCtor_l hl hn hw
def T.slices_Index__string_string : T :=
.bind 0 (
 .op (.lenL (.x 0)) (
 .loop [(.c (.v (.int .i64 0)))] (
  .op (.bin .lss (.x 3) (.x 2)) (
  .ite (.x 4)
   (.op (.elem 1 (.x 0) (.x 3)) (
   .chk (.lt (.x 5) 0) (
   .op (.bin .eql (.x 1) (.cell 5 0)) (
   .ite (.x 6)
    (.esc (.esc (.ret [(.x 3)])))
    (.op (.bin .add (.x 3) (.c (.v (.int .i64 1)))) (
    .jump [(.x 7)]))))))
   (.esc (.jump [])))))) (
.ret [(.c (.v (.int .i64 (-1))))])
theorem T.slices_Index__string_string_l : leftF Tryz.prog CF Tryz.f128 = some (2, T.slices_Index__string_string) := by kernel_rfl
theorem T.slices_Index__string_string_con {args : List AV} {res : AV} (hl : args.length = 2) (hn : AV.norefs args = true) (hw : wpT Tryz.prog (fun _ _ _ => False) (fun a => a = res) T.slices_Index__string_string args []) : PCon Tryz.prog F.slices_Index__string_string args res :=
  con_auto Tryz.func128 T.slices_Index__string_string_l hl hn hw
def T.laws_szTypeExp : T :=
.chk (.cells (.x 0) 4) (
.op (.lenS (.cell 0 1)) (
.op (.bin .sub (.x 1) (.x 2)) (
.op (.bin .lss (.x 3) (.c (.v (.int .i64 0)))) (
.ite (.x 4)
 (.ret [(.c (.v (.int .i64 (-1))))])
 (.op (.call F.laws_szTypeExpS [(.cell 0 3), (.x 3)] false) (
 .op (.bin .lss (.x 5) (.c (.v (.int .i64 0)))) (
 .ite (.x 6)
  (.ret [(.c (.v (.int .i64 (-1))))])
  (.ret [(.x 5)]))))))))
theorem T.laws_szTypeExp_l : leftF Tryz.prog CF Tryz.f133 = some (2, T.laws_szTypeExp) := by kernel_rfl
theorem T.laws_szTypeExp_con {args : List AV} {res : AV} (hl : args.length = 2) (hn : AV.norefs args = true) (hw : wpT Tryz.prog (fun _ _ _ => False) (fun a => a = res) T.laws_szTypeExp args []) : PCon Tryz.prog F.laws_szTypeExp args res :=
  con_auto Tryz.func133 T.laws_szTypeExp_l hl hn hw
def T.laws_toTypeExp : T :=
.chk (.cells (.x 0) 4) (
.chk (.one (.cell 0 0)) (
.chk (.one (.cell 0 1)) (
.chk (.one (.cell 0 2)) (
.op (.call F.laws_toTypeExpS [(.cell 0 3)] false) (
.chk (.one (.x 1)) (
.chk (.cells (.agg [(.cell 0 0), (.cell 0 1), (.cell 0 2), (.x 1)]) 4) (
.ret [(.agg [(.cell 0 0), (.cell 0 1), (.cell 0 2), (.x 1)])])))))))
theorem T.laws_toTypeExp_l : leftF Tryz.prog CF Tryz.f134 = some (1, T.laws_toTypeExp) := by kernel_rfl
theorem T.laws_toTypeExp_con {args : List AV} {res : AV} (hl : args.length = 1) (hn : AV.norefs args = true) (hw : wpT Tryz.prog (fun _ _ _ => False) (fun a => a = res) T.laws_toTypeExp args []) : PCon Tryz.prog F.laws_toTypeExp args res :=
  con_auto Tryz.func134 T.laws_toTypeExp_l hl hn hw
def T.slices_IndexFunc__impl_TypeExp_impl_TypeExp : T :=
.bind 0 (
 .op (.lenL (.x 0)) (
 .loop [(.c (.v (.int .i64 0)))] (
  .op (.bin .lss (.x 3) (.x 2)) (
  .ite (.x 4)
   (.op (.elem 4 (.x 0) (.x 3)) (
   .chk (.cells (.x 5) 4) (
   .op (.callv (.x 1) [(.x 5)] false) (
   .ite (.x 6)
    (.esc (.esc (.ret [(.x 3)])))
    (.op (.bin .add (.x 3) (.c (.v (.int .i64 1)))) (
    .jump [(.x 7)]))))))
   (.esc (.jump [])))))) (
.ret [(.c (.v (.int .i64 (-1))))])
theorem T.slices_IndexFunc__impl_TypeExp_impl_TypeExp_l : leftF Tryz.prog CF Tryz.f135 = some (2, T.slices_IndexFunc__impl_TypeExp_impl_TypeExp) := by kernel_rfl
theorem T.slices_IndexFunc__impl_TypeExp_impl_TypeExp_con {args : List AV} {res : AV} (hl : args.length = 2) (hn : AV.norefs args = true) (hw : wpT Tryz.prog (fun _ _ _ => False) (fun a => a = res) T.slices_IndexFunc__impl_TypeExp_impl_TypeExp args []) : PCon Tryz.prog F.slices_IndexFunc__impl_TypeExp_impl_TypeExp args res :=
  con_auto Tryz.func135 T.slices_IndexFunc__impl_TypeExp_impl_TypeExp_l hl hn hw
def T.impl_digit : T :=
.bind 1 (
 .op (.bin .geq (.x 0) (.c (.v (.int .u8 48)))) (
 .ite (.x 1)
  (.op (.bin .leq (.x 0) (.c (.v (.int .u8 57)))) (
  .jump [(.x 2)]))
  (.jump [(.c (.v (.bool false)))]))) (
.ret [(.x 1)])
theorem T.impl_digit_l : leftF Tryz.prog CF Tryz.f136 = some (1, T.impl_digit) := by kernel_rfl
theorem T.impl_digit_con {args : List AV} {res : AV} (hl : args.length = 1) (hn : AV.norefs args = true) (hw : wpT Tryz.prog (fun _ _ _ => False) (fun a => a = res) T.impl_digit args []) : PCon Tryz.prog F.impl_digit args res :=
  con_auto Tryz.func136 T.impl_digit_l hl hn hw
def T.laws_eqTypeExp : T :=
.chk (.cells (.x 0) 4) (
.chk (.cells (.x 1) 4) (
.op (.bin .neq (.cell 0 0) (.cell 1 0)) (
.ite (.x 2)
 (.ret [(.c (.v (.bool false)))])
 (.op (.bin .neq (.cell 0 1) (.cell 1 1)) (
 .ite (.x 3)
  (.ret [(.c (.v (.bool false)))])
  (.op (.bin .neq (.cell 0 2) (.cell 1 2)) (
  .ite (.x 4)
   (.ret [(.c (.v (.bool false)))])
   (.op (.call F.laws_eqTypeExpS [(.cell 0 3), (.cell 1 3)] false) (
   .op (.un .not (.x 5)) (
   .ite (.x 6)
    (.ret [(.c (.v (.bool false)))])
    (.ret [(.c (.v (.bool true)))])))))))))))
theorem T.laws_eqTypeExp_l : leftF Tryz.prog CF Tryz.f139 = some (2, T.laws_eqTypeExp) := by kernel_rfl
theorem T.laws_eqTypeExp_con {args : List AV} {res : AV} (hl : args.length = 2) (hn : AV.norefs args = true) (hw : wpT Tryz.prog (fun _ _ _ => False) (fun a => a = res) T.laws_eqTypeExp args []) : PCon Tryz.prog F.laws_eqTypeExp args res :=
  con_auto Tryz.func139 T.laws_eqTypeExp_l hl hn hw
def T.laws_szTypeExpS : T :=
.op (.lenL (.x 0)) (
.op (.bin .sub (.x 1) (.x 2)) (
.op (.bin .lss (.x 3) (.c (.v (.int .i64 0)))) (
.ite (.x 4)
 (.ret [(.c (.v (.int .i64 (-1))))])
 (.bind 1 (
  .loop [(.x 3), (.c (.v (.int .i64 0)))] (
   .op (.lenL (.x 0)) (
   .op (.bin .lss (.x 6) (.x 7)) (
   .ite (.x 8)
    (.op (.elem 4 (.x 0) (.x 6)) (
    .chk (.cells (.x 9) 4) (
    .op (.call F.laws_szTypeExp [(.x 9), (.x 5)] false) (
    .op (.bin .lss (.x 10) (.c (.v (.int .i64 0)))) (
    .ite (.x 11)
     (.esc (.esc (.ret [(.c (.v (.int .i64 (-1))))])))
     (.op (.bin .add (.x 6) (.c (.v (.int .i64 1)))) (
     .jump [(.x 10), (.x 12)])))))))
    (.esc (.jump [(.x 5)])))))) (
 .ret [(.x 5)])))))
theorem T.laws_szTypeExpS_l : leftF Tryz.prog CF Tryz.f145 = some (2, T.laws_szTypeExpS) := by kernel_rfl
theorem T.laws_szTypeExpS_con {args : List AV} {res : AV} (hl : args.length = 2) (hn : AV.norefs args = true) (hw : wpT Tryz.prog (fun _ _ _ => False) (fun a => a = res) T.laws_szTypeExpS args []) : PCon Tryz.prog F.laws_szTypeExpS args res :=
  con_auto Tryz.func145 T.laws_szTypeExpS_l hl hn hw
def T.laws_toTypeExpS : T :=
.op (.lenL (.x 0)) (
.op (.rep 56 (.agg [(.v (.int .i64 0)), (.v (.string ⟨#[]⟩)), (.v (.int .i64 0)), .nils]) (.x 1) (.x 1)) (
.bind 1 (
 .loop [(.x 2), (.c (.v (.int .i64 0)))] (
  .op (.lenL (.x 0)) (
  .op (.bin .lss (.x 4) (.x 5)) (
  .ite (.x 6)
   (.op (.elem 4 (.x 0) (.x 4)) (
   .chk (.cells (.x 7) 4) (
   .op (.call F.laws_toTypeExp [(.x 7)] false) (
   .chk (.idx (.x 3) (.x 4)) (
   .chk (.cells (.x 8) 4) (
   .op (.set (.x 3) (.x 4) 0 4 (.x 8)) (
   .op (.bin .add (.x 4) (.c (.v (.int .i64 1)))) (
   .jump [(.x 9), (.x 10)]))))))))
   (.esc (.jump [(.x 3)])))))) (
.ret [(.sl (.x 3))])))
theorem T.laws_toTypeExpS_l : leftF Tryz.prog CF Tryz.f146 = some (1, T.laws_toTypeExpS) := by kernel_rfl
theorem T.laws_toTypeExpS_con {args : List AV} {res : AV} (hl : args.length = 1) (hn : AV.norefs args = true) (hw : wpT Tryz.prog (fun _ _ _ => False) (fun a => a = res) T.laws_toTypeExpS args []) : PCon Tryz.prog F.laws_toTypeExpS args res :=
  con_auto Tryz.func146 T.laws_toTypeExpS_l hl hn hw
def T.laws_eqTypeExpS : T :=
.op (.lenL (.x 0)) (
.op (.lenL (.x 1)) (
.op (.bin .neq (.x 2) (.x 3)) (
.ite (.x 4)
 (.ret [(.c (.v (.bool false)))])
 (.bind 0 (
  .loop [(.c (.v (.int .i64 0)))] (
   .op (.lenL (.x 0)) (
   .op (.bin .lss (.x 5) (.x 6)) (
   .ite (.x 7)
    (.op (.elem 4 (.x 0) (.x 5)) (
    .chk (.cells (.x 8) 4) (
    .op (.elem 4 (.x 1) (.x 5)) (
    .chk (.cells (.x 9) 4) (
    .op (.call F.laws_eqTypeExp [(.x 8), (.x 9)] true) (
    .op (.un .not (.x 10)) (
    .ite (.x 11)
     (.esc (.esc (.ret [(.c (.v (.bool false)))])))
     (.op (.bin .add (.x 5) (.c (.v (.int .i64 1)))) (
     .jump [(.x 12)])))))))))
    (.esc (.jump [])))))) (
 .ret [(.c (.v (.bool true)))])))))
theorem T.laws_eqTypeExpS_l : leftF Tryz.prog CF Tryz.f147 = some (2, T.laws_eqTypeExpS) := by kernel_rfl
theorem T.laws_eqTypeExpS_con {args : List AV} {res : AV} (hl : args.length = 2) (hn : AV.norefs args = true) (hw : wpT Tryz.prog (fun _ _ _ => False) (fun a => a = res) T.laws_eqTypeExpS args []) : PCon Tryz.prog F.laws_eqTypeExpS args res :=
  con_auto Tryz.func147 T.laws_eqTypeExpS_l hl hn hw
end Go.Proofs.Ab
