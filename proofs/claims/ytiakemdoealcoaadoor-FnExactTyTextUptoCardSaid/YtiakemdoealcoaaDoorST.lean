/-
  WHAT IS LEFT of this seat's functions, printed by a program of ours (wip/tool/Gen2.lean) from the translation; each with the theorem that it is what is left of that function.
-/
import Derived.Test.YtiakemdoealcoaaDoorChecked
import Derived.KernelRfl
import Derived.Test.YtiakemdoealcoaaDoorAbM4
set_option linter.unusedVariables false
set_option linter.unusedSimpArgs false
set_option linter.defProp false
namespace Go.Proofs.Ab
open Go.Ab
set_option maxRecDepth 100000
namespace F
abbrev laws_FnExactTyText : FuncId := 5
abbrev laws_szTy : FuncId := 16
abbrev spec_TyText : FuncId := 17
abbrev laws_toTy : FuncId := 18
abbrev impl_TyText : FuncId := 19
abbrev laws_eqTy : FuncId := 20
abbrev spec_l1Decimal : FuncId := 27
abbrev strconv_Itoa : FuncId := 30
abbrev strings_Join : FuncId := 32
abbrev laws_szTyS : FuncId := 34
abbrev spec_TyOk : FuncId := 35
abbrev spec_l2TypeText : FuncId := 36
abbrev spec_l4Exp : FuncId := 37
abbrev laws_toTyS : FuncId := 38
abbrev impl_TyOk : FuncId := 39
abbrev impl_typeForm : FuncId := 40
abbrev impl_typeExpOf : FuncId := 41
abbrev laws_eqTyS : FuncId := 42
abbrev spec_l1Low : FuncId := 54
abbrev spec_l1Name : FuncId := 55
abbrev spec_l1Key : FuncId := 56
abbrev spec_l1Figures : FuncId := 58
abbrev impl_lowOk : FuncId := 60
abbrev impl_isName : FuncId := 62
abbrev impl_small : FuncId := 63
abbrev impl_isKey : FuncId := 64
abbrev slices_Contains__string_string : FuncId := 65
abbrev internalstrconv_Itoa : FuncId := 67
abbrev spec_l4Node : FuncId := 71
abbrev spec_l2Round : FuncId := 72
abbrev impl_tyHeadOk : FuncId := 73
abbrev slices_ContainsFunc__impl_Ty_impl_Ty : FuncId := 74
abbrev impl_TyOk_1 : FuncId := 75
abbrev impl_bracketed : FuncId := 76
abbrev impl_forms_impl_TypeExp : FuncId := 77
abbrev spec_l1In : FuncId := 79
abbrev impl_within : FuncId := 85
abbrev spec_l1Upper : FuncId := 93
abbrev spec_l1Lower : FuncId := 94
abbrev spec_l1NameByte : FuncId := 95
abbrev impl_great : FuncId := 97
abbrev impl_run : FuncId := 98
abbrev impl_nameByte : FuncId := 99
abbrev slices_Index__string_string : FuncId := 100
abbrev internalstrconv_FormatInt : FuncId := 101
abbrev strings_Builder_copyCheck : FuncId := 102
abbrev strings_Builder_grow : FuncId := 103
abbrev slices_IndexFunc__impl_Ty_impl_Ty : FuncId := 104
abbrev spec_l1Num : FuncId := 115
abbrev impl_digit : FuncId := 116
end F
def FL : List Nat := [3, 4, 5, 6, 7, 8, 10, 11, 12, 14, 15, 16, 17, 19, 20, 21, 22, 24, 25, 26, 27, 28, 29, 30, 31, 32, 33, 34, 35, 36, 39, 40, 42, 43, 44, 45, 46, 49, 50, 51, 52, 53, 54, 55, 56, 57, 58, 59, 60, 61, 62, 63, 64, 65, 67, 70, 71, 72, 73, 74, 75, 76, 77, 78, 79, 80, 81, 82, 83, 85, 86, 87, 88, 89, 90, 92, 93, 94, 95, 97, 98, 99, 100, 101, 104, 105, 106, 107, 108, 109, 110, 111, 112, 113, 114, 115, 116, 117, 118, 123, 124, 125, 126, 127, 128, 129, 130, 131, 132, 134, 135, 137]
def FR : List (Nat × Bool × Nat × Nat) := []
def SG : List (Nat × List Sig) := []
abbrev CF : Cfg := ⟨FL, FR, SG, false⟩
def T.laws_FnExactTyText : T :=
.chk (.cells (.x 0) 4) (
.chk (.cells (.x 0) 4) (
.op (.call F.laws_szTy [(.x 0), (.c (.v (.int .i64 1048576)))] false) (
.op (.bin .lss (.x 1) (.c (.v (.int .i64 0)))) (
.ite (.x 2)
 (.ret [(.c (.v (.bool true)))])
 (.chk (.cells (.x 0) 4) (
 .op (.call F.laws_toTy [(.x 0)] false) (
 .op (.call F.spec_TyText [(.x 3)] false) (
 .chk (.cells (.x 0) 4) (
 .op (.call F.laws_toTy [(.x 0)] false) (
 .chk (.cells (.x 5) 4) (
 .chk (.cells (.x 5) 4) (
 .op (.call F.impl_TyText [(.x 5)] false) (
 .op (.bin .neq (.x 6) (.x 4)) (
 .ite (.x 7)
  (.ret [(.c (.v (.bool false)))])
  (.chk (.cells (.x 5) 4) (
  .chk (.cells (.x 0) 4) (
  .op (.call F.laws_toTy [(.x 0)] false) (
  .op (.call F.laws_eqTy [(.x 5), (.x 8)] true) (
  .op (.un .not (.x 9)) (
  .ite (.x 10)
   (.ret [(.c (.v (.bool false)))])
   (.ret [(.c (.v (.bool true)))])))))))))))))))))))))
theorem T.laws_FnExactTyText_l : leftF Tryd.prog CF Tryd.f5 = some (1, T.laws_FnExactTyText) := by kernel_rfl
theorem T.laws_FnExactTyText_con {args : List AV} {res : AV} (hl : args.length = 1) (hn : AV.norefs args = true) (hw : wpT Tryd.prog (fun _ _ _ => False) (fun a => a = res) T.laws_FnExactTyText args []) : PCon Tryd.prog F.laws_FnExactTyText args res :=
  con_auto Tryd.func5 T.laws_FnExactTyText_l hl hn hw
def T.laws_szTy : T :=
.chk (.cells (.x 0) 4) (
.op (.lenS (.cell 0 2)) (
.op (.bin .sub (.x 1) (.x 2)) (
.op (.bin .lss (.x 3) (.c (.v (.int .i64 0)))) (
.ite (.x 4)
 (.ret [(.c (.v (.int .i64 (-1))))])
 (.op (.call F.laws_szTyS [(.cell 0 3), (.x 3)] false) (
 .op (.bin .lss (.x 5) (.c (.v (.int .i64 0)))) (
 .ite (.x 6)
  (.ret [(.c (.v (.int .i64 (-1))))])
  (.ret [(.x 5)]))))))))
theorem T.laws_szTy_l : leftF Tryd.prog CF Tryd.f16 = some (2, T.laws_szTy) := by kernel_rfl
theorem T.laws_szTy_con {args : List AV} {res : AV} (hl : args.length = 2) (hn : AV.norefs args = true) (hw : wpT Tryd.prog (fun _ _ _ => False) (fun a => a = res) T.laws_szTy args []) : PCon Tryd.prog F.laws_szTy args res :=
  con_auto Tryd.func16 T.laws_szTy_l hl hn hw
def T.spec_TyText : T :=
.chk (.cells (.x 0) 4) (
.chk (.cells (.x 0) 4) (
.op (.call F.spec_TyOk [(.x 0)] false) (
.op (.un .not (.x 1)) (
.ite (.x 2)
 (.ret [(.c (.v (.string ⟨#[]⟩)))])
 (.chk (.cells (.x 0) 4) (
 .op (.call F.spec_l4Exp [(.x 0)] false) (
 .op (.call F.spec_l2TypeText [(.x 3), (.c (.v (.int .i64 0)))] false) (
 .ret [(.x 4)]))))))))
theorem T.spec_TyText_l : leftF Tryd.prog CF Tryd.f17 = some (1, T.spec_TyText) := by kernel_rfl
theorem T.spec_TyText_con {args : List AV} {res : AV} (hl : args.length = 1) (hn : AV.norefs args = true) (hw : wpT Tryd.prog (fun _ _ _ => False) (fun a => a = res) T.spec_TyText args []) : PCon Tryd.prog F.spec_TyText args res :=
  con_auto Tryd.func17 T.spec_TyText_l hl hn hw
def T.laws_toTy : T :=
.chk (.cells (.x 0) 4) (
.chk (.one (.cell 0 0)) (
.chk (.one (.cell 0 1)) (
.chk (.one (.cell 0 2)) (
.op (.call F.laws_toTyS [(.cell 0 3)] false) (
.chk (.one (.x 1)) (
.chk (.cells (.agg [(.cell 0 0), (.cell 0 1), (.cell 0 2), (.x 1)]) 4) (
.ret [(.agg [(.cell 0 0), (.cell 0 1), (.cell 0 2), (.x 1)])])))))))
theorem T.laws_toTy_l : leftF Tryd.prog CF Tryd.f18 = some (1, T.laws_toTy) := by kernel_rfl
theorem T.laws_toTy_con {args : List AV} {res : AV} (hl : args.length = 1) (hn : AV.norefs args = true) (hw : wpT Tryd.prog (fun _ _ _ => False) (fun a => a = res) T.laws_toTy args []) : PCon Tryd.prog F.laws_toTy args res :=
  con_auto Tryd.func18 T.laws_toTy_l hl hn hw
def T.impl_TyText : T :=
.chk (.cells (.x 0) 4) (
.chk (.cells (.x 0) 4) (
.op (.call F.impl_TyOk [(.x 0)] false) (
.op (.un .not (.x 1)) (
.ite (.x 2)
 (.ret [(.c (.v (.string ⟨#[]⟩)))])
 (.chk (.cells (.x 0) 4) (
 .op (.call F.impl_typeExpOf [(.x 0)] false) (
 .op (.call F.impl_typeForm [(.x 3), (.c (.v (.int .i64 0)))] false) (
 .ret [(.x 4)]))))))))
theorem T.impl_TyText_l : leftF Tryd.prog CF Tryd.f19 = some (1, T.impl_TyText) := by kernel_rfl
theorem T.impl_TyText_con {args : List AV} {res : AV} (hl : args.length = 1) (hn : AV.norefs args = true) (hw : wpT Tryd.prog (fun _ _ _ => False) (fun a => a = res) T.impl_TyText args []) : PCon Tryd.prog F.impl_TyText args res :=
  con_auto Tryd.func19 T.impl_TyText_l hl hn hw
def T.laws_eqTy : T :=
.chk (.cells (.x 0) 4) (
.chk (.cells (.x 1) 4) (
.op (.bin .neq (.cell 0 0) (.cell 1 0)) (
.ite (.x 2)
 (.ret [(.c (.v (.bool false)))])
 (.op (.bin .neq (.cell 0 1) (.cell 1 1)) (
 .ite (.x 3)
  (.ret [(.c (.v (.bool false)))])
  (.op (.bin .neq (.cell 0 2) (.cell 1 2)) (
  .ite (.x 4)
   (.ret [(.c (.v (.bool false)))])
   (.op (.call F.laws_eqTyS [(.cell 0 3), (.cell 1 3)] false) (
   .op (.un .not (.x 5)) (
   .ite (.x 6)
    (.ret [(.c (.v (.bool false)))])
    (.ret [(.c (.v (.bool true)))])))))))))))
theorem T.laws_eqTy_l : leftF Tryd.prog CF Tryd.f20 = some (2, T.laws_eqTy) := by kernel_rfl
theorem T.laws_eqTy_con {args : List AV} {res : AV} (hl : args.length = 2) (hn : AV.norefs args = true) (hw : wpT Tryd.prog (fun _ _ _ => False) (fun a => a = res) T.laws_eqTy args []) : PCon Tryd.prog F.laws_eqTy args res :=
  con_auto Tryd.func20 T.laws_eqTy_l hl hn hw
def T.spec_l1Decimal : T :=
.op (.bin .lss (.x 0) (.c (.v (.int .i64 0)))) (
.ite (.x 1)
 (.op (.bin .add (.x 0) (.c (.v (.int .i64 1)))) (
 .op (.un .neg (.x 2)) (
 .op (.conv .u64 (.x 3)) (
 .op (.bin .add (.x 4) (.c (.v (.int .u64 1)))) (
 .op (.call F.spec_l1Figures [(.x 5)] false) (
 .op (.bin .add (.c (.v (.string ⟨#[45]⟩))) (.x 6)) (
 .ret [(.x 7)])))))))
 (.op (.conv .u64 (.x 0)) (
 .op (.call F.spec_l1Figures [(.x 2)] false) (
 .ret [(.x 3)]))))
theorem T.spec_l1Decimal_l : leftF Tryd.prog CF Tryd.f27 = some (1, T.spec_l1Decimal) := by kernel_rfl
theorem T.spec_l1Decimal_con {args : List AV} {res : AV} (hl : args.length = 1) (hn : AV.norefs args = true) (hw : wpT Tryd.prog (fun _ _ _ => False) (fun a => a = res) T.spec_l1Decimal args []) : PCon Tryd.prog F.spec_l1Decimal args res :=
  con_auto Tryd.func27 T.spec_l1Decimal_l hl hn hw
def T.strconv_Itoa : T :=
.op (.call F.internalstrconv_Itoa [(.x 0)] false) (
.ret [(.x 1)])
def T.laws_szTyS : T :=
.op (.lenL (.x 0)) (
.op (.bin .sub (.x 1) (.x 2)) (
.op (.bin .lss (.x 3) (.c (.v (.int .i64 0)))) (
.ite (.x 4)
 (.ret [(.c (.v (.int .i64 (-1))))])
 (.bind 1 (
  .loop [(.x 3), (.c (.v (.int .i64 0)))] (
   .op (.lenL (.x 0)) (
   .op (.bin .lss (.x 6) (.x 7)) (
   .ite (.x 8)
    (.op (.elem 4 (.x 0) (.x 6)) (
    .chk (.cells (.x 9) 4) (
    .op (.call F.laws_szTy [(.x 9), (.x 5)] false) (
    .op (.bin .lss (.x 10) (.c (.v (.int .i64 0)))) (
    .ite (.x 11)
     (.esc (.esc (.ret [(.c (.v (.int .i64 (-1))))])))
     (.op (.bin .add (.x 6) (.c (.v (.int .i64 1)))) (
     .jump [(.x 10), (.x 12)])))))))
    (.esc (.jump [(.x 5)])))))) (
 .ret [(.x 5)])))))
theorem T.laws_szTyS_l : leftF Tryd.prog CF Tryd.f34 = some (2, T.laws_szTyS) := by kernel_rfl
theorem T.laws_szTyS_con {args : List AV} {res : AV} (hl : args.length = 2) (hn : AV.norefs args = true) (hw : wpT Tryd.prog (fun _ _ _ => False) (fun a => a = res) T.laws_szTyS args []) : PCon Tryd.prog F.laws_szTyS args res :=
  con_auto Tryd.func34 T.laws_szTyS_l hl hn hw
def T.spec_TyOk : T :=
.chk (.cells (.x 0) 4) (
.chk (.cells (.x 0) 4) (
.op (.call F.spec_l4Node [(.x 0)] false) (
.op (.un .not (.x 1)) (
.ite (.x 2)
 (.ret [(.c (.v (.bool false)))])
 (.bind 0 (
  .loop [(.c (.v (.int .i64 0)))] (
   .op (.lenL (.cell 0 3)) (
   .op (.bin .lss (.x 3) (.x 4)) (
   .ite (.x 5)
    (.op (.elem 4 (.cell 0 3) (.x 3)) (
    .chk (.cells (.x 6) 4) (
    .op (.call F.spec_TyOk [(.x 6)] false) (
    .op (.un .not (.x 7)) (
    .ite (.x 8)
     (.esc (.esc (.ret [(.c (.v (.bool false)))])))
     (.op (.bin .add (.x 3) (.c (.v (.int .i64 1)))) (
     .jump [(.x 9)])))))))
    (.esc (.jump [])))))) (
 .ret [(.c (.v (.bool true)))]))))))
theorem T.spec_TyOk_l : leftF Tryd.prog CF Tryd.f35 = some (1, T.spec_TyOk) := by kernel_rfl
theorem T.spec_TyOk_con {args : List AV} {res : AV} (hl : args.length = 1) (hn : AV.norefs args = true) (hw : wpT Tryd.prog (fun _ _ _ => False) (fun a => a = res) T.spec_TyOk args []) : PCon Tryd.prog F.spec_TyOk args res :=
  con_auto Tryd.func35 T.spec_TyOk_l hl hn hw
def T.spec_l2TypeText : T :=
.chk (.cells (.x 0) 4) (
.bind 2 (
 .op (.bin .eql (.cell 0 0) (.c (.v (.int .i64 3)))) (
 .ite (.x 2)
  (.op (.elem 4 (.cell 0 3) (.c (.v (.int .i64 0)))) (
  .chk (.cells (.x 3) 4) (
  .op (.call F.spec_l2TypeText [(.x 3), (.c (.v (.int .i64 1)))] true) (
  .op (.bin .add (.x 4) (.c (.v (.string ⟨#[32, 45, 62, 32]⟩)))) (
  .op (.elem 4 (.cell 0 3) (.c (.v (.int .i64 1)))) (
  .chk (.cells (.x 6) 4) (
  .op (.call F.spec_l2TypeText [(.x 6), (.c (.v (.int .i64 0)))] true) (
  .op (.bin .add (.x 5) (.x 7)) (
  .jump [(.x 8), (.c (.v (.int .i64 0)))])))))))))
  (.op (.bin .eql (.cell 0 0) (.c (.v (.int .i64 4)))) (
  .ite (.x 3)
   (.loop [(.c (.v (.string ⟨#[]⟩))), (.c (.v (.int .i64 0)))] (
    .op (.lenL (.cell 0 3)) (
    .op (.bin .lss (.x 5) (.x 6)) (
    .ite (.x 7)
     (.bind 1 (
      .bind 1 (
       .op (.bin .gtr (.x 5) (.c (.v (.int .i64 0)))) (
       .ite (.x 8)
        (.op (.bin .add (.x 4) (.c (.v (.string ⟨#[32, 42, 32]⟩)))) (
        .jump [(.x 9)]))
        (.jump [(.x 4)]))) (
      .op (.elem 4 (.cell 0 3) (.x 5)) (
      .chk (.cells (.x 9) 4) (
      .op (.call F.spec_l2TypeText [(.x 9), (.c (.v (.int .i64 2)))] false) (
      .op (.bin .add (.x 8) (.x 10)) (
      .jump [(.x 11)])))))) (
     .op (.bin .add (.x 5) (.c (.v (.int .i64 1)))) (
     .jump [(.x 8), (.x 9)])))
     (.esc (.jump [(.x 4), (.c (.v (.int .i64 1)))]))))))
   (.op (.bin .eql (.cell 0 0) (.c (.v (.int .i64 2)))) (
   .ite (.x 4)
    (.op (.bin .add (.c (.v (.string ⟨#[39]⟩))) (.cell 0 1)) (
    .jump [(.x 5), (.c (.v (.int .i64 3)))]))
    (.bind 1 (
     .op (.bin .eql (.cell 0 0) (.c (.v (.int .i64 5)))) (
     .ite (.x 5)
      (.jump [(.c (.v (.string ⟨#[114, 101, 102]⟩)))])
      (.jump [(.cell 0 1)]))) (
    .loop [(.x 5), (.c (.v (.int .i64 3))), (.c (.v (.int .i64 0)))] (
     .op (.lenL (.cell 0 3)) (
     .op (.bin .lss (.x 8) (.x 9)) (
     .ite (.x 10)
      (.op (.bin .add (.x 6) (.c (.v (.string ⟨#[32]⟩)))) (
      .op (.elem 4 (.cell 0 3) (.x 8)) (
      .chk (.cells (.x 12) 4) (
      .op (.call F.spec_l2TypeText [(.x 12), (.c (.v (.int .i64 3)))] false) (
      .op (.bin .add (.x 11) (.x 13)) (
      .op (.bin .add (.x 8) (.c (.v (.int .i64 1)))) (
      .jump [(.x 14), (.c (.v (.int .i64 2))), (.x 15)])))))))
      (.esc (.jump [(.x 6), (.x 7)]))))))))))))) (
.op (.call F.spec_l2Round [(.x 2), (.x 3), (.x 1)] false) (
.ret [(.x 4)])))
theorem T.spec_l2TypeText_l : leftF Tryd.prog CF Tryd.f36 = some (2, T.spec_l2TypeText) := by kernel_rfl
theorem T.spec_l2TypeText_con {args : List AV} {res : AV} (hl : args.length = 2) (hn : AV.norefs args = true) (hw : wpT Tryd.prog (fun _ _ _ => False) (fun a => a = res) T.spec_l2TypeText args []) : PCon Tryd.prog F.spec_l2TypeText args res :=
  con_auto Tryd.func36 T.spec_l2TypeText_l hl hn hw
def T.spec_l4Exp : T :=
.chk (.cells (.x 0) 4) (
.chk (.one (.c (.v (.int .i64 1)))) (
.chk (.one (.cell 0 2)) (
.chk (.cells (.agg [(.c (.v (.int .i64 1))), (.cell 0 2), (.c (.v (.int .i64 0))), (.c .nils)]) 4) (
.bind 2 (
 .op (.bin .eql (.cell 0 0) (.c (.v (.int .i64 1)))) (
 .ite (.x 1)
  (.chk (.one (.c (.v (.string ⟨#[105, 110, 116]⟩)))) (
  .jump [(.c (.v (.int .i64 1))), (.c (.v (.string ⟨#[105, 110, 116]⟩)))]))
  (.op (.bin .eql (.cell 0 0) (.c (.v (.int .i64 2)))) (
  .ite (.x 2)
   (.chk (.one (.c (.v (.string ⟨#[98, 111, 111, 108]⟩)))) (
   .jump [(.c (.v (.int .i64 1))), (.c (.v (.string ⟨#[98, 111, 111, 108]⟩)))]))
   (.op (.bin .eql (.cell 0 0) (.c (.v (.int .i64 3)))) (
   .ite (.x 3)
    (.chk (.one (.c (.v (.string ⟨#[117, 110, 105, 116]⟩)))) (
    .jump [(.c (.v (.int .i64 1))), (.c (.v (.string ⟨#[117, 110, 105, 116]⟩)))]))
    (.op (.bin .eql (.cell 0 0) (.c (.v (.int .i64 4)))) (
    .ite (.x 4)
     (.chk (.one (.c (.v (.string ⟨#[115, 116, 114]⟩)))) (
     .jump [(.c (.v (.int .i64 1))), (.c (.v (.string ⟨#[115, 116, 114]⟩)))]))
     (.op (.bin .eql (.cell 0 0) (.c (.v (.int .i64 5)))) (
     .ite (.x 5)
      (.chk (.one (.c (.v (.int .i64 3)))) (
      .jump [(.c (.v (.int .i64 3))), (.cell 0 2)]))
      (.op (.bin .eql (.cell 0 0) (.c (.v (.int .i64 6)))) (
      .ite (.x 6)
       (.chk (.one (.c (.v (.int .i64 4)))) (
       .jump [(.c (.v (.int .i64 4))), (.cell 0 2)]))
       (.op (.bin .eql (.cell 0 0) (.c (.v (.int .i64 8)))) (
       .ite (.x 7)
        (.chk (.one (.c (.v (.int .i64 5)))) (
        .jump [(.c (.v (.int .i64 5))), (.cell 0 2)]))
        (.op (.bin .eql (.cell 0 0) (.c (.v (.int .i64 9)))) (
        .ite (.x 8)
         (.op (.call F.spec_l1Decimal [(.cell 0 1)] false) (
         .op (.bin .add (.c (.v (.string ⟨#[118]⟩))) (.x 9)) (
         .chk (.one (.c (.v (.int .i64 2)))) (
         .chk (.one (.x 10)) (
         .chk (.cells (.agg [(.c (.v (.int .i64 2))), (.x 10), (.c (.v (.int .i64 0))), (.c .nils)]) 4) (
         .esc (.ret [(.agg [(.c (.v (.int .i64 2))), (.x 10), (.c (.v (.int .i64 0))), (.c .nils)])])))))))
         (.op (.bin .eql (.cell 0 0) (.c (.v (.int .i64 10)))) (
         .ite (.x 9)
          (.op (.call F.spec_l1Decimal [(.cell 0 1)] false) (
          .op (.bin .add (.c (.v (.string ⟨#[103]⟩))) (.x 10)) (
          .chk (.one (.c (.v (.int .i64 2)))) (
          .chk (.one (.x 11)) (
          .chk (.cells (.agg [(.c (.v (.int .i64 2))), (.x 11), (.c (.v (.int .i64 0))), (.c .nils)]) 4) (
          .esc (.ret [(.agg [(.c (.v (.int .i64 2))), (.x 11), (.c (.v (.int .i64 0))), (.c .nils)])])))))))
          (.op (.bin .eql (.cell 0 0) (.c (.v (.int .i64 11)))) (
          .ite (.x 10)
           (.op (.call F.spec_l1Decimal [(.cell 0 1)] false) (
           .op (.bin .add (.c (.v (.string ⟨#[109]⟩))) (.x 11)) (
           .chk (.one (.c (.v (.int .i64 2)))) (
           .chk (.one (.x 12)) (
           .chk (.cells (.agg [(.c (.v (.int .i64 2))), (.x 12), (.c (.v (.int .i64 0))), (.c .nils)]) 4) (
           .esc (.ret [(.agg [(.c (.v (.int .i64 2))), (.x 12), (.c (.v (.int .i64 0))), (.c .nils)])])))))))
           (.jump [(.c (.v (.int .i64 1))), (.cell 0 2)]))))))))))))))))))))) (
.bind 1 (
 .loop [(.c (.sl [])), (.c (.v (.int .i64 0)))] (
  .op (.lenL (.cell 0 3)) (
  .op (.bin .lss (.x 4) (.x 5)) (
  .ite (.x 6)
   (.op (.elem 4 (.cell 0 3) (.x 4)) (
   .chk (.cells (.x 7) 4) (
   .op (.call F.spec_l4Exp [(.x 7)] false) (
   .chk (.cells (.x 8) 4) (
   .op (.mkl (.agg [(.v (.int .i64 0)), (.v (.string ⟨#[]⟩)), (.v (.int .i64 0)), .nils]) 1 [(0, (.x 8))]) (
   .op (.app 4 56 (.x 3) (.x 9)) (
   .op (.bin .add (.x 4) (.c (.v (.int .i64 1)))) (
   .jump [(.x 10), (.x 11)]))))))))
   (.esc (.jump [(.x 3)])))))) (
.chk (.one (.x 1)) (
.chk (.one (.x 2)) (
.chk (.one (.c (.v (.int .i64 0)))) (
.ret [(.agg [(.x 1), (.x 2), (.c (.v (.int .i64 0))), (.sl (.x 3))])])))))))))
theorem T.spec_l4Exp_l : leftF Tryd.prog CF Tryd.f37 = some (1, T.spec_l4Exp) := by kernel_rfl
theorem T.spec_l4Exp_con {args : List AV} {res : AV} (hl : args.length = 1) (hn : AV.norefs args = true) (hw : wpT Tryd.prog (fun _ _ _ => False) (fun a => a = res) T.spec_l4Exp args []) : PCon Tryd.prog F.spec_l4Exp args res :=
  con_auto Tryd.func37 T.spec_l4Exp_l hl hn hw
def T.laws_toTyS : T :=
.op (.lenL (.x 0)) (
.op (.rep 56 (.agg [(.v (.int .i64 0)), (.v (.int .i64 0)), (.v (.string ⟨#[]⟩)), .nils]) (.x 1) (.x 1)) (
.bind 1 (
 .loop [(.x 2), (.c (.v (.int .i64 0)))] (
  .op (.lenL (.x 0)) (
  .op (.bin .lss (.x 4) (.x 5)) (
  .ite (.x 6)
   (.op (.elem 4 (.x 0) (.x 4)) (
   .chk (.cells (.x 7) 4) (
   .op (.call F.laws_toTy [(.x 7)] false) (
   .chk (.idx (.x 3) (.x 4)) (
   .chk (.cells (.x 8) 4) (
   .op (.set (.x 3) (.x 4) 0 4 (.x 8)) (
   .op (.bin .add (.x 4) (.c (.v (.int .i64 1)))) (
   .jump [(.x 9), (.x 10)]))))))))
   (.esc (.jump [(.x 3)])))))) (
.ret [(.sl (.x 3))])))
theorem T.laws_toTyS_l : leftF Tryd.prog CF Tryd.f38 = some (1, T.laws_toTyS) := by kernel_rfl
theorem T.laws_toTyS_con {args : List AV} {res : AV} (hl : args.length = 1) (hn : AV.norefs args = true) (hw : wpT Tryd.prog (fun _ _ _ => False) (fun a => a = res) T.laws_toTyS args []) : PCon Tryd.prog F.laws_toTyS args res :=
  con_auto Tryd.func38 T.laws_toTyS_l hl hn hw
def T.impl_TyOk : T :=
.chk (.cells (.x 0) 4) (
.bind 1 (
 .chk (.cells (.x 0) 4) (
 .op (.call F.impl_tyHeadOk [(.x 0)] false) (
 .ite (.x 1)
  (.op (.call F.slices_ContainsFunc__impl_Ty_impl_Ty [(.cell 0 3), (.c (.fn F.impl_TyOk_1 []))] false) (
  .op (.un .not (.x 2)) (
  .jump [(.x 3)])))
  (.jump [(.c (.v (.bool false)))])))) (
.ret [(.x 1)]))
theorem T.impl_TyOk_l : leftF Tryd.prog CF Tryd.f39 = some (1, T.impl_TyOk) := by kernel_rfl
theorem T.impl_TyOk_con {args : List AV} {res : AV} (hl : args.length = 1) (hn : AV.norefs args = true) (hw : wpT Tryd.prog (fun _ _ _ => False) (fun a => a = res) T.impl_TyOk args []) : PCon Tryd.prog F.impl_TyOk args res :=
  con_auto Tryd.func39 T.impl_TyOk_l hl hn hw
def T.impl_typeForm : T :=
.chk (.cells (.x 0) 4) (
.op (.bin .eql (.cell 0 0) (.c (.v (.int .i64 3)))) (
.ite (.x 2)
 (.op (.elem 4 (.cell 0 3) (.c (.v (.int .i64 0)))) (
 .chk (.cells (.x 3) 4) (
 .op (.call F.impl_typeForm [(.x 3), (.c (.v (.int .i64 1)))] true) (
 .op (.bin .add (.x 4) (.c (.v (.string ⟨#[32, 45, 62, 32]⟩)))) (
 .op (.elem 4 (.cell 0 3) (.c (.v (.int .i64 1)))) (
 .chk (.cells (.x 6) 4) (
 .op (.call F.impl_typeForm [(.x 6), (.c (.v (.int .i64 0)))] true) (
 .op (.bin .add (.x 5) (.x 7)) (
 .op (.call F.impl_bracketed [(.x 8), (.c (.v (.int .i64 0))), (.x 1)] true) (
 .ret [(.x 9)]))))))))))
 (.op (.bin .eql (.cell 0 0) (.c (.v (.int .i64 4)))) (
 .ite (.x 3)
  (.op (.call F.impl_forms_impl_TypeExp [(.cell 0 3), (.c (.v (.int .i64 2))), (.c (.v (.string ⟨#[32, 42, 32]⟩))), (.c (.fn F.impl_typeForm []))] false) (
  .op (.call F.impl_bracketed [(.x 4), (.c (.v (.int .i64 1))), (.x 1)] false) (
  .ret [(.x 5)])))
  (.op (.bin .eql (.cell 0 0) (.c (.v (.int .i64 5)))) (
  .ite (.x 4)
   (.op (.elem 4 (.cell 0 3) (.c (.v (.int .i64 0)))) (
   .chk (.cells (.x 5) 4) (
   .op (.call F.impl_typeForm [(.x 5), (.c (.v (.int .i64 3)))] false) (
   .op (.bin .add (.c (.v (.string ⟨#[114, 101, 102, 32]⟩))) (.x 6)) (
   .op (.call F.impl_bracketed [(.x 7), (.c (.v (.int .i64 2))), (.x 1)] false) (
   .ret [(.x 8)]))))))
   (.op (.bin .eql (.cell 0 0) (.c (.v (.int .i64 2)))) (
   .ite (.x 5)
    (.op (.bin .add (.c (.v (.string ⟨#[39]⟩))) (.cell 0 1)) (
    .ret [(.x 6)]))
    (.op (.lenL (.cell 0 3)) (
    .op (.bin .eql (.x 6) (.c (.v (.int .i64 0)))) (
    .ite (.x 7)
     (.ret [(.cell 0 1)])
     (.op (.bin .add (.cell 0 1) (.c (.v (.string ⟨#[32]⟩)))) (
     .op (.call F.impl_forms_impl_TypeExp [(.cell 0 3), (.c (.v (.int .i64 3))), (.c (.v (.string ⟨#[32]⟩))), (.c (.fn F.impl_typeForm []))] true) (
     .op (.bin .add (.x 8) (.x 9)) (
     .op (.call F.impl_bracketed [(.x 10), (.c (.v (.int .i64 2))), (.x 1)] true) (
     .ret [(.x 11)]))))))))))))))))
theorem T.impl_typeForm_l : leftF Tryd.prog CF Tryd.f40 = some (2, T.impl_typeForm) := by kernel_rfl
theorem T.impl_typeForm_con {args : List AV} {res : AV} (hl : args.length = 2) (hn : AV.norefs args = true) (hw : wpT Tryd.prog (fun _ _ _ => False) (fun a => a = res) T.impl_typeForm args []) : PCon Tryd.prog F.impl_typeForm args res :=
  con_auto Tryd.func40 T.impl_typeForm_l hl hn hw
def T.impl_typeExpOf : T :=
.chk (.cells (.x 0) 4) (
.chk (.one (.c (.v (.int .i64 1)))) (
.chk (.one (.cell 0 2)) (
.chk (.cells (.agg [(.c (.v (.int .i64 1))), (.cell 0 2), (.c (.v (.int .i64 0))), (.c .nils)]) 4) (
.bind 1 (
 .op (.lenL (.cell 0 3)) (
 .loop [(.c (.sl [])), (.c (.v (.int .i64 0)))] (
  .op (.bin .lss (.x 3) (.x 1)) (
  .ite (.x 4)
   (.op (.elem 4 (.cell 0 3) (.x 3)) (
   .chk (.cells (.x 5) 4) (
   .chk (.cells (.x 5) 4) (
   .chk (.cells (.x 5) 4) (
   .op (.call F.impl_typeExpOf [(.x 5)] false) (
   .chk (.cells (.x 6) 4) (
   .op (.mkl (.agg [(.v (.int .i64 0)), (.v (.string ⟨#[]⟩)), (.v (.int .i64 0)), .nils]) 1 [(0, (.x 6))]) (
   .op (.app 4 56 (.x 2) (.x 7)) (
   .op (.bin .add (.x 3) (.c (.v (.int .i64 1)))) (
   .jump [(.x 8), (.x 9)]))))))))))
   (.esc (.jump [(.x 2)])))))) (
.bind 2 (
 .op (.bin .eql (.cell 0 0) (.c (.v (.int .i64 5)))) (
 .ite (.x 2)
  (.chk (.one (.c (.v (.int .i64 3)))) (
  .jump [(.c (.v (.int .i64 3))), (.cell 0 2)]))
  (.op (.bin .eql (.cell 0 0) (.c (.v (.int .i64 6)))) (
  .ite (.x 3)
   (.chk (.one (.c (.v (.int .i64 4)))) (
   .jump [(.c (.v (.int .i64 4))), (.cell 0 2)]))
   (.op (.bin .eql (.cell 0 0) (.c (.v (.int .i64 8)))) (
   .ite (.x 4)
    (.chk (.one (.c (.v (.int .i64 5)))) (
    .jump [(.c (.v (.int .i64 5))), (.cell 0 2)]))
    (.bind 1 (
     .op (.bin .eql (.cell 0 0) (.c (.v (.int .i64 9)))) (
     .ite (.x 5)
      (.jump [(.x 5)])
      (.op (.bin .eql (.cell 0 0) (.c (.v (.int .i64 10)))) (
      .ite (.x 6)
       (.jump [(.x 6)])
       (.op (.bin .eql (.cell 0 0) (.c (.v (.int .i64 11)))) (
       .jump [(.x 7)])))))) (
    .ite (.x 5)
     (.chk (.one (.c (.v (.int .i64 2)))) (
     .chk (.one (.c (.v (.string ⟨#[118]⟩)))) (
     .chk (.one (.c (.v (.string ⟨#[103]⟩)))) (
     .chk (.one (.c (.v (.string ⟨#[109]⟩)))) (
     .op (.mkl (.v (.string ⟨#[]⟩)) 3 [(0, (.c (.v (.string ⟨#[118]⟩)))), (1, (.c (.v (.string ⟨#[103]⟩)))), (2, (.c (.v (.string ⟨#[109]⟩))))]) (
     .op (.bin .sub (.cell 0 0) (.c (.v (.int .i64 9)))) (
     .op (.elem 1 (.x 6) (.x 7)) (
     .chk (.lt (.x 8) 0) (
     .op (.call F.strconv_Itoa [(.cell 0 1)] true) (
     .op (.bin .add (.cell 8 0) (.x 9)) (
     .chk (.one (.x 10)) (
     .jump [(.c (.v (.int .i64 2))), (.x 10)]))))))))))))
     (.bind 1 (
      .op (.bin .eql (.cell 0 0) (.c (.v (.int .i64 1)))) (
      .ite (.x 6)
       (.jump [(.x 6)])
       (.op (.bin .eql (.cell 0 0) (.c (.v (.int .i64 2)))) (
       .ite (.x 7)
        (.jump [(.x 7)])
        (.op (.bin .eql (.cell 0 0) (.c (.v (.int .i64 3)))) (
        .ite (.x 8)
         (.jump [(.x 8)])
         (.op (.bin .eql (.cell 0 0) (.c (.v (.int .i64 4)))) (
         .jump [(.x 9)])))))))) (
     .ite (.x 6)
      (.chk (.one (.c (.v (.string ⟨#[105, 110, 116]⟩)))) (
      .chk (.one (.c (.v (.string ⟨#[98, 111, 111, 108]⟩)))) (
      .chk (.one (.c (.v (.string ⟨#[117, 110, 105, 116]⟩)))) (
      .chk (.one (.c (.v (.string ⟨#[115, 116, 114]⟩)))) (
      .op (.mkl (.v (.string ⟨#[]⟩)) 4 [(0, (.c (.v (.string ⟨#[105, 110, 116]⟩)))), (1, (.c (.v (.string ⟨#[98, 111, 111, 108]⟩)))), (2, (.c (.v (.string ⟨#[117, 110, 105, 116]⟩)))), (3, (.c (.v (.string ⟨#[115, 116, 114]⟩))))]) (
      .op (.bin .sub (.cell 0 0) (.c (.v (.int .i64 1)))) (
      .chk (.idx (.x 7) (.x 8)) (
      .op (.get (.x 7) (.x 8) 0 none) (
      .chk (.one (.x 9)) (
      .jump [(.c (.v (.int .i64 1))), (.x 9)]))))))))))
      (.jump [(.c (.v (.int .i64 1))), (.cell 0 2)]))))))))))) (
.chk (.one (.x 2)) (
.chk (.one (.x 3)) (
.chk (.one (.c (.v (.int .i64 0)))) (
.ret [(.agg [(.x 2), (.x 3), (.c (.v (.int .i64 0))), (.sl (.x 1))])])))))))))
theorem T.impl_typeExpOf_l : leftF Tryd.prog CF Tryd.f41 = some (1, T.impl_typeExpOf) := by kernel_rfl
theorem T.impl_typeExpOf_con {args : List AV} {res : AV} (hl : args.length = 1) (hn : AV.norefs args = true) (hw : wpT Tryd.prog (fun _ _ _ => False) (fun a => a = res) T.impl_typeExpOf args []) : PCon Tryd.prog F.impl_typeExpOf args res :=
  con_auto Tryd.func41 T.impl_typeExpOf_l hl hn hw
def T.laws_eqTyS : T :=
.op (.lenL (.x 0)) (
.op (.lenL (.x 1)) (
.op (.bin .neq (.x 2) (.x 3)) (
.ite (.x 4)
 (.ret [(.c (.v (.bool false)))])
 (.bind 0 (
  .loop [(.c (.v (.int .i64 0)))] (
   .op (.lenL (.x 0)) (
   .op (.bin .lss (.x 5) (.x 6)) (
   .ite (.x 7)
    (.op (.elem 4 (.x 0) (.x 5)) (
    .chk (.cells (.x 8) 4) (
    .op (.elem 4 (.x 1) (.x 5)) (
    .chk (.cells (.x 9) 4) (
    .op (.call F.laws_eqTy [(.x 8), (.x 9)] true) (
    .op (.un .not (.x 10)) (
    .ite (.x 11)
     (.esc (.esc (.ret [(.c (.v (.bool false)))])))
     (.op (.bin .add (.x 5) (.c (.v (.int .i64 1)))) (
     .jump [(.x 12)])))))))))
    (.esc (.jump [])))))) (
 .ret [(.c (.v (.bool true)))])))))
theorem T.laws_eqTyS_l : leftF Tryd.prog CF Tryd.f42 = some (2, T.laws_eqTyS) := by kernel_rfl
theorem T.laws_eqTyS_con {args : List AV} {res : AV} (hl : args.length = 2) (hn : AV.norefs args = true) (hw : wpT Tryd.prog (fun _ _ _ => False) (fun a => a = res) T.laws_eqTyS args []) : PCon Tryd.prog F.laws_eqTyS args res :=
  con_auto Tryd.func42 T.laws_eqTyS_l hl hn hw
def T.spec_l1Low : T :=
.bind 1 (
 .op (.call F.spec_l1Name [(.x 0), (.c (.v (.bool false)))] false) (
 .ite (.x 1)
  (.op (.call F.spec_l1Key [(.x 0)] false) (
  .op (.un .not (.x 2)) (
  .jump [(.x 3)])))
  (.jump [(.c (.v (.bool false)))]))) (
.ret [(.x 1)])
theorem T.spec_l1Low_l : leftF Tryd.prog CF Tryd.f54 = some (1, T.spec_l1Low) := by kernel_rfl
theorem T.spec_l1Low_con {args : List AV} {res : AV} (hl : args.length = 1) (hn : AV.norefs args = true) (hw : wpT Tryd.prog (fun _ _ _ => False) (fun a => a = res) T.spec_l1Low args []) : PCon Tryd.prog F.spec_l1Low args res :=
  con_auto Tryd.func54 T.spec_l1Low_l hl hn hw
def T.spec_l1Name : T :=
.bind 0 (
 .bind 1 (
  .op (.lenS (.x 0)) (
  .op (.call F.spec_l1In [(.x 2), (.c (.v (.int .i64 1))), (.c (.v (.int .i64 12)))] false) (
  .op (.un .not (.x 3)) (
  .ite (.x 4)
   (.jump [(.c (.v (.bool true)))])
   (.op (.idxS (.x 0) (.c (.v (.int .i64 0)))) (
   .op (.conv .i64 (.x 5)) (
   .op (.call F.spec_l1Upper [(.x 6)] false) (
   .op (.beq true (.x 1) (.x 7)) (
   .ite (.x 8)
    (.jump [(.c (.v (.bool true)))])
    (.op (.un .not (.x 1)) (
    .ite (.x 9)
     (.op (.idxS (.x 0) (.c (.v (.int .i64 0)))) (
     .op (.conv .i64 (.x 10)) (
     .op (.call F.spec_l1Lower [(.x 11)] false) (
     .op (.un .not (.x 12)) (
     .jump [(.x 13)])))))
     (.jump [(.c (.v (.bool false)))])))))))))))) (
 .ite (.x 2)
  (.esc (.ret [(.c (.v (.bool false)))]))
  (.jump []))) (
.bind 0 (
 .loop [(.c (.v (.int .i64 0)))] (
  .op (.lenS (.x 0)) (
  .op (.bin .lss (.x 2) (.x 3)) (
  .ite (.x 4)
   (.op (.idxS (.x 0) (.x 2)) (
   .op (.conv .i64 (.x 5)) (
   .op (.call F.spec_l1NameByte [(.x 6)] false) (
   .op (.un .not (.x 7)) (
   .ite (.x 8)
    (.esc (.esc (.ret [(.c (.v (.bool false)))])))
    (.op (.bin .add (.x 2) (.c (.v (.int .i64 1)))) (
    .jump [(.x 9)])))))))
   (.esc (.jump [])))))) (
.ret [(.c (.v (.bool true)))]))
theorem T.spec_l1Name_l : leftF Tryd.prog CF Tryd.f55 = some (2, T.spec_l1Name) := by kernel_rfl
theorem T.spec_l1Name_con {args : List AV} {res : AV} (hl : args.length = 2) (hn : AV.norefs args = true) (hw : wpT Tryd.prog (fun _ _ _ => False) (fun a => a = res) T.spec_l1Name args []) : PCon Tryd.prog F.spec_l1Name args res :=
  con_auto Tryd.func55 T.spec_l1Name_l hl hn hw
def T.spec_l1Key : T :=
.chk (.one (.c (.v (.string ⟨#[116, 121, 112, 101]⟩)))) (
.chk (.one (.c (.v (.string ⟨#[111, 102]⟩)))) (
.chk (.one (.c (.v (.string ⟨#[108, 101, 116]⟩)))) (
.chk (.one (.c (.v (.string ⟨#[114, 101, 99]⟩)))) (
.chk (.one (.c (.v (.string ⟨#[105, 110]⟩)))) (
.chk (.one (.c (.v (.string ⟨#[102, 117, 110]⟩)))) (
.chk (.one (.c (.v (.string ⟨#[105, 102]⟩)))) (
.chk (.one (.c (.v (.string ⟨#[116, 104, 101, 110]⟩)))) (
.chk (.one (.c (.v (.string ⟨#[101, 108, 115, 101]⟩)))) (
.chk (.one (.c (.v (.string ⟨#[109, 97, 116, 99, 104]⟩)))) (
.chk (.one (.c (.v (.string ⟨#[119, 105, 116, 104]⟩)))) (
.chk (.one (.c (.v (.string ⟨#[101, 110, 100]⟩)))) (
.chk (.one (.c (.v (.string ⟨#[116, 114, 117, 101]⟩)))) (
.chk (.one (.c (.v (.string ⟨#[102, 97, 108, 115, 101]⟩)))) (
.chk (.one (.c (.v (.string ⟨#[114, 101, 102]⟩)))) (
.chk (.one (.c (.v (.string ⟨#[114, 101, 97, 100]⟩)))) (
.chk (.one (.c (.v (.string ⟨#[112, 114, 105, 110, 116]⟩)))) (
.chk (.one (.c (.v (.string ⟨#[101, 120, 105, 116]⟩)))) (
.chk (.one (.c (.v (.string ⟨#[115, 105, 122, 101]⟩)))) (
.op (.mkl (.v (.string ⟨#[]⟩)) 19 [(0, (.c (.v (.string ⟨#[116, 121, 112, 101]⟩)))), (1, (.c (.v (.string ⟨#[111, 102]⟩)))), (2, (.c (.v (.string ⟨#[108, 101, 116]⟩)))), (3, (.c (.v (.string ⟨#[114, 101, 99]⟩)))), (4, (.c (.v (.string ⟨#[105, 110]⟩)))), (5, (.c (.v (.string ⟨#[102, 117, 110]⟩)))), (6, (.c (.v (.string ⟨#[105, 102]⟩)))), (7, (.c (.v (.string ⟨#[116, 104, 101, 110]⟩)))), (8, (.c (.v (.string ⟨#[101, 108, 115, 101]⟩)))), (9, (.c (.v (.string ⟨#[109, 97, 116, 99, 104]⟩)))), (10, (.c (.v (.string ⟨#[119, 105, 116, 104]⟩)))), (11, (.c (.v (.string ⟨#[101, 110, 100]⟩)))), (12, (.c (.v (.string ⟨#[116, 114, 117, 101]⟩)))), (13, (.c (.v (.string ⟨#[102, 97, 108, 115, 101]⟩)))), (14, (.c (.v (.string ⟨#[114, 101, 102]⟩)))), (15, (.c (.v (.string ⟨#[114, 101, 97, 100]⟩)))), (16, (.c (.v (.string ⟨#[112, 114, 105, 110, 116]⟩)))), (17, (.c (.v (.string ⟨#[101, 120, 105, 116]⟩)))), (18, (.c (.v (.string ⟨#[115, 105, 122, 101]⟩))))]) (
.bind 0 (
 .loop [(.c (.v (.int .i64 0)))] (
  .op (.lenL (.sl (.x 1))) (
  .op (.bin .lss (.x 2) (.x 3)) (
  .ite (.x 4)
   (.chk (.idx (.x 1) (.x 2)) (
   .op (.get (.x 1) (.x 2) 0 none) (
   .op (.bin .eql (.x 5) (.x 0)) (
   .ite (.x 6)
    (.esc (.esc (.ret [(.c (.v (.bool true)))])))
    (.op (.bin .add (.x 2) (.c (.v (.int .i64 1)))) (
    .jump [(.x 7)]))))))
   (.esc (.jump [])))))) (
.ret [(.c (.v (.bool false)))])))))))))))))))))))))
theorem T.spec_l1Key_l : leftF Tryd.prog CF Tryd.f56 = some (1, T.spec_l1Key) := by kernel_rfl
theorem T.spec_l1Key_con {args : List AV} {res : AV} (hl : args.length = 1) (hn : AV.norefs args = true) (hw : wpT Tryd.prog (fun _ _ _ => False) (fun a => a = res) T.spec_l1Key args []) : PCon Tryd.prog F.spec_l1Key args res :=
  con_auto Tryd.func56 T.spec_l1Key_l hl hn hw
def T.spec_l1Figures : T :=
.op (.bin .lss (.x 0) (.c (.v (.int .u64 10)))) (
.ite (.x 1)
 (.op (.bin .add (.c (.v (.int .u64 48))) (.x 0)) (
 .op (.conv .u8 (.x 2)) (
 .chk (.one (.x 3)) (
 .op (.mkl (.v (.int .u8 0)) 1 [(0, (.x 3))]) (
 .op (.pu .b2s [(.sl (.x 4))]) (
 .ret [(.x 5)]))))))
 (.op (.bin .quo (.x 0) (.c (.v (.int .u64 10)))) (
 .op (.call F.spec_l1Figures [(.x 2)] true) (
 .op (.bin .rem (.x 0) (.c (.v (.int .u64 10)))) (
 .op (.bin .add (.c (.v (.int .u64 48))) (.x 4)) (
 .op (.conv .u8 (.x 5)) (
 .chk (.one (.x 6)) (
 .op (.mkl (.v (.int .u8 0)) 1 [(0, (.x 6))]) (
 .op (.pu .b2s [(.x 7)]) (
 .op (.bin .add (.x 3) (.x 8)) (
 .ret [(.x 9)])))))))))))
theorem T.spec_l1Figures_l : leftF Tryd.prog CF Tryd.f58 = some (1, T.spec_l1Figures) := by kernel_rfl
theorem T.spec_l1Figures_con {args : List AV} {res : AV} (hl : args.length = 1) (hn : AV.norefs args = true) (hw : wpT Tryd.prog (fun _ _ _ => False) (fun a => a = res) T.spec_l1Figures args []) : PCon Tryd.prog F.spec_l1Figures args res :=
  con_auto Tryd.func58 T.spec_l1Figures_l hl hn hw
def T.impl_lowOk : T :=
.bind 1 (
 .op (.call F.impl_isName [(.x 0), (.c (.fn F.impl_small []))] false) (
 .ite (.x 1)
  (.op (.call F.impl_isKey [(.x 0)] false) (
  .op (.un .not (.x 2)) (
  .jump [(.x 3)])))
  (.jump [(.c (.v (.bool false)))]))) (
.ret [(.x 1)])
theorem T.impl_lowOk_l : leftF Tryd.prog CF Tryd.f60 = some (1, T.impl_lowOk) := by kernel_rfl
theorem T.impl_lowOk_con {args : List AV} {res : AV} (hl : args.length = 1) (hn : AV.norefs args = true) (hw : wpT Tryd.prog (fun _ _ _ => False) (fun a => a = res) T.impl_lowOk args []) : PCon Tryd.prog F.impl_lowOk args res :=
  con_auto Tryd.func60 T.impl_lowOk_l hl hn hw
def T.impl_isName : T :=
.bind 1 (
 .op (.lenS (.x 0)) (
 .op (.call F.impl_within [(.x 2), (.c (.v (.int .i64 1))), (.c (.v (.int .i64 12)))] false) (
 .ite (.x 3)
  (.op (.idxS (.x 0) (.c (.v (.int .i64 0)))) (
  .op (.callv (.x 1) [(.x 4)] false) (
  .ite (.x 5)
   (.op (.call F.impl_run [(.x 0), (.c (.v (.int .i64 0))), (.c (.fn F.impl_nameByte []))] false) (
   .op (.lenS (.x 0)) (
   .op (.bin .eql (.x 6) (.x 7)) (
   .jump [(.x 8)]))))
   (.jump [(.c (.v (.bool false)))]))))
  (.jump [(.c (.v (.bool false)))])))) (
.ret [(.x 2)])
theorem T.impl_isName_l : leftF Tryd.prog CF Tryd.f62 = some (2, T.impl_isName) := by kernel_rfl
theorem T.impl_isName_con {args : List AV} {res : AV} (hl : args.length = 2) (hn : AV.norefs args = true) (hw : wpT Tryd.prog (fun _ _ _ => False) (fun a => a = res) T.impl_isName args []) : PCon Tryd.prog F.impl_isName args res :=
  con_auto Tryd.func62 T.impl_isName_l hl hn hw
def T.impl_small : T :=
.bind 1 (
 .op (.bin .geq (.x 0) (.c (.v (.int .u8 97)))) (
 .ite (.x 1)
  (.op (.bin .leq (.x 0) (.c (.v (.int .u8 122)))) (
  .jump [(.x 2)]))
  (.jump [(.c (.v (.bool false)))]))) (
.ret [(.x 1)])
theorem T.impl_small_l : leftF Tryd.prog CF Tryd.f63 = some (1, T.impl_small) := by kernel_rfl
theorem T.impl_small_con {args : List AV} {res : AV} (hl : args.length = 1) (hn : AV.norefs args = true) (hw : wpT Tryd.prog (fun _ _ _ => False) (fun a => a = res) T.impl_small args []) : PCon Tryd.prog F.impl_small args res :=
  con_auto Tryd.func63 T.impl_small_l hl hn hw
def T.impl_isKey : T :=
.chk (.one (.c (.v (.string ⟨#[116, 121, 112, 101]⟩)))) (
.chk (.one (.c (.v (.string ⟨#[111, 102]⟩)))) (
.chk (.one (.c (.v (.string ⟨#[108, 101, 116]⟩)))) (
.chk (.one (.c (.v (.string ⟨#[114, 101, 99]⟩)))) (
.chk (.one (.c (.v (.string ⟨#[105, 110]⟩)))) (
.chk (.one (.c (.v (.string ⟨#[102, 117, 110]⟩)))) (
.chk (.one (.c (.v (.string ⟨#[105, 102]⟩)))) (
.chk (.one (.c (.v (.string ⟨#[116, 104, 101, 110]⟩)))) (
.chk (.one (.c (.v (.string ⟨#[101, 108, 115, 101]⟩)))) (
.chk (.one (.c (.v (.string ⟨#[109, 97, 116, 99, 104]⟩)))) (
.chk (.one (.c (.v (.string ⟨#[119, 105, 116, 104]⟩)))) (
.chk (.one (.c (.v (.string ⟨#[101, 110, 100]⟩)))) (
.chk (.one (.c (.v (.string ⟨#[116, 114, 117, 101]⟩)))) (
.chk (.one (.c (.v (.string ⟨#[102, 97, 108, 115, 101]⟩)))) (
.chk (.one (.c (.v (.string ⟨#[114, 101, 102]⟩)))) (
.chk (.one (.c (.v (.string ⟨#[114, 101, 97, 100]⟩)))) (
.chk (.one (.c (.v (.string ⟨#[112, 114, 105, 110, 116]⟩)))) (
.chk (.one (.c (.v (.string ⟨#[101, 120, 105, 116]⟩)))) (
.chk (.one (.c (.v (.string ⟨#[115, 105, 122, 101]⟩)))) (
.op (.mkl (.v (.string ⟨#[]⟩)) 19 [(0, (.c (.v (.string ⟨#[116, 121, 112, 101]⟩)))), (1, (.c (.v (.string ⟨#[111, 102]⟩)))), (2, (.c (.v (.string ⟨#[108, 101, 116]⟩)))), (3, (.c (.v (.string ⟨#[114, 101, 99]⟩)))), (4, (.c (.v (.string ⟨#[105, 110]⟩)))), (5, (.c (.v (.string ⟨#[102, 117, 110]⟩)))), (6, (.c (.v (.string ⟨#[105, 102]⟩)))), (7, (.c (.v (.string ⟨#[116, 104, 101, 110]⟩)))), (8, (.c (.v (.string ⟨#[101, 108, 115, 101]⟩)))), (9, (.c (.v (.string ⟨#[109, 97, 116, 99, 104]⟩)))), (10, (.c (.v (.string ⟨#[119, 105, 116, 104]⟩)))), (11, (.c (.v (.string ⟨#[101, 110, 100]⟩)))), (12, (.c (.v (.string ⟨#[116, 114, 117, 101]⟩)))), (13, (.c (.v (.string ⟨#[102, 97, 108, 115, 101]⟩)))), (14, (.c (.v (.string ⟨#[114, 101, 102]⟩)))), (15, (.c (.v (.string ⟨#[114, 101, 97, 100]⟩)))), (16, (.c (.v (.string ⟨#[112, 114, 105, 110, 116]⟩)))), (17, (.c (.v (.string ⟨#[101, 120, 105, 116]⟩)))), (18, (.c (.v (.string ⟨#[115, 105, 122, 101]⟩))))]) (
.op (.call F.slices_Contains__string_string [(.sl (.x 1)), (.x 0)] true) (
.ret [(.x 2)])))))))))))))))))))))
theorem T.impl_isKey_l : leftF Tryd.prog CF Tryd.f64 = some (1, T.impl_isKey) := by kernel_rfl
theorem T.impl_isKey_con {args : List AV} {res : AV} (hl : args.length = 1) (hn : AV.norefs args = true) (hw : wpT Tryd.prog (fun _ _ _ => False) (fun a => a = res) T.impl_isKey args []) : PCon Tryd.prog F.impl_isKey args res :=
  con_auto Tryd.func64 T.impl_isKey_l hl hn hw
def T.slices_Contains__string_string : T :=
.op (.call F.slices_Index__string_string [(.x 0), (.x 1)] false) (
.op (.bin .geq (.x 2) (.c (.v (.int .i64 0)))) (
.ret [(.x 3)]))
theorem T.slices_Contains__string_string_l : leftF Tryd.prog CF Tryd.f65 = some (2, T.slices_Contains__string_string) := by kernel_rfl
theorem T.slices_Contains__string_string_con {args : List AV} {res : AV} (hl : args.length = 2) (hn : AV.norefs args = true) (hw : wpT Tryd.prog (fun _ _ _ => False) (fun a => a = res) T.slices_Contains__string_string args []) : PCon Tryd.prog F.slices_Contains__string_string args res :=
  con_auto Tryd.func65 T.slices_Contains__string_string_l hl hn hw
def T.internalstrconv_Itoa : T :=
.op (.call F.internalstrconv_FormatInt [(.x 0), (.c (.v (.int .i64 10)))] false) (
.ret [(.x 1)])
def T.spec_l4Node : T :=
.chk (.cells (.x 0) 4) (
.op (.lenL (.cell 0 3)) (
.bind 0 (
 .bind 1 (
  .op (.bin .neq (.cell 0 0) (.c (.v (.int .i64 7)))) (
  .ite (.x 2)
   (.op (.bin .neq (.cell 0 2) (.c (.v (.string ⟨#[]⟩)))) (
   .ite (.x 3)
    (.jump [(.c (.v (.bool true)))])
    (.op (.bin .lss (.cell 0 0) (.c (.v (.int .i64 9)))) (
    .ite (.x 4)
     (.op (.bin .neq (.cell 0 1) (.c (.v (.int .i64 0)))) (
     .jump [(.x 5)]))
     (.jump [(.c (.v (.bool false)))])))))
   (.op (.bin .lss (.cell 0 0) (.c (.v (.int .i64 9)))) (
   .ite (.x 3)
    (.op (.bin .neq (.cell 0 1) (.c (.v (.int .i64 0)))) (
    .jump [(.x 4)]))
    (.jump [(.c (.v (.bool false)))]))))) (
 .ite (.x 2)
  (.esc (.ret [(.c (.v (.bool false)))]))
  (.jump []))) (
.bind 0 (
 .bind 1 (
  .op (.bin .eql (.cell 0 0) (.c (.v (.int .i64 1)))) (
  .ite (.x 2)
   (.jump [(.x 2)])
   (.op (.bin .eql (.cell 0 0) (.c (.v (.int .i64 2)))) (
   .ite (.x 3)
    (.jump [(.x 3)])
    (.op (.bin .eql (.cell 0 0) (.c (.v (.int .i64 3)))) (
    .ite (.x 4)
     (.jump [(.x 4)])
     (.op (.bin .eql (.cell 0 0) (.c (.v (.int .i64 4)))) (
     .jump [(.x 5)])))))))) (
 .ite (.x 2)
  (.op (.bin .eql (.x 1) (.c (.v (.int .i64 0)))) (
  .esc (.ret [(.x 3)])))
  (.op (.bin .eql (.cell 0 0) (.c (.v (.int .i64 5)))) (
  .ite (.x 3)
   (.op (.bin .eql (.x 1) (.c (.v (.int .i64 2)))) (
   .esc (.ret [(.x 4)])))
   (.op (.bin .eql (.cell 0 0) (.c (.v (.int .i64 6)))) (
   .ite (.x 4)
    (.op (.bin .geq (.x 1) (.c (.v (.int .i64 2)))) (
    .esc (.ret [(.x 5)])))
    (.op (.bin .eql (.cell 0 0) (.c (.v (.int .i64 7)))) (
    .ite (.x 5)
     (.op (.call F.spec_l1Low [(.cell 0 2)] false) (
     .esc (.ret [(.x 6)])))
     (.op (.bin .eql (.cell 0 0) (.c (.v (.int .i64 8)))) (
     .ite (.x 6)
      (.op (.bin .eql (.x 1) (.c (.v (.int .i64 1)))) (
      .esc (.ret [(.x 7)])))
      (.bind 1 (
       .op (.bin .eql (.cell 0 0) (.c (.v (.int .i64 9)))) (
       .ite (.x 7)
        (.jump [(.x 7)])
        (.op (.bin .eql (.cell 0 0) (.c (.v (.int .i64 10)))) (
        .ite (.x 8)
         (.jump [(.x 8)])
         (.op (.bin .eql (.cell 0 0) (.c (.v (.int .i64 11)))) (
         .jump [(.x 9)])))))) (
      .ite (.x 7)
       (.bind 1 (
        .op (.bin .eql (.x 1) (.c (.v (.int .i64 0)))) (
        .ite (.x 8)
         (.op (.bin .geq (.cell 0 1) (.c (.v (.int .i64 0)))) (
         .jump [(.x 9)]))
         (.jump [(.c (.v (.bool false)))]))) (
       .esc (.ret [(.x 8)])))
       (.jump []))))))))))))) (
.ret [(.c (.v (.bool false)))]))))
theorem T.spec_l4Node_l : leftF Tryd.prog CF Tryd.f71 = some (1, T.spec_l4Node) := by kernel_rfl
theorem T.spec_l4Node_con {args : List AV} {res : AV} (hl : args.length = 1) (hn : AV.norefs args = true) (hw : wpT Tryd.prog (fun _ _ _ => False) (fun a => a = res) T.spec_l4Node args []) : PCon Tryd.prog F.spec_l4Node args res :=
  con_auto Tryd.func71 T.spec_l4Node_l hl hn hw
def T.spec_l2Round : T :=
.op (.bin .lss (.x 1) (.x 2)) (
.ite (.x 3)
 (.op (.bin .add (.c (.v (.string ⟨#[40]⟩))) (.x 0)) (
 .op (.bin .add (.x 4) (.c (.v (.string ⟨#[41]⟩)))) (
 .ret [(.x 5)])))
 (.ret [(.x 0)]))
theorem T.spec_l2Round_l : leftF Tryd.prog CF Tryd.f72 = some (3, T.spec_l2Round) := by kernel_rfl
theorem T.spec_l2Round_con {args : List AV} {res : AV} (hl : args.length = 3) (hn : AV.norefs args = true) (hw : wpT Tryd.prog (fun _ _ _ => False) (fun a => a = res) T.spec_l2Round args []) : PCon Tryd.prog F.spec_l2Round args res :=
  con_auto Tryd.func72 T.spec_l2Round_l hl hn hw
def T.impl_tyHeadOk : T :=
.chk (.cells (.x 0) 4) (
.op (.lenL (.cell 0 3)) (
.op (.bin .eql (.x 1) (.c (.v (.int .i64 0)))) (
.op (.bin .eql (.cell 0 2) (.c (.v (.string ⟨#[]⟩)))) (
.op (.bin .eql (.cell 0 1) (.c (.v (.int .i64 0)))) (
.bind 3 (
 .bind 1 (
  .op (.bin .eql (.cell 0 0) (.c (.v (.int .i64 1)))) (
  .ite (.x 5)
   (.jump [(.x 5)])
   (.op (.bin .eql (.cell 0 0) (.c (.v (.int .i64 2)))) (
   .ite (.x 6)
    (.jump [(.x 6)])
    (.op (.bin .eql (.cell 0 0) (.c (.v (.int .i64 3)))) (
    .ite (.x 7)
     (.jump [(.x 7)])
     (.op (.bin .eql (.cell 0 0) (.c (.v (.int .i64 4)))) (
     .jump [(.x 8)])))))))) (
 .ite (.x 5)
  (.jump [(.x 2), (.x 3), (.x 4)])
  (.op (.bin .eql (.cell 0 0) (.c (.v (.int .i64 5)))) (
  .ite (.x 6)
   (.op (.lenL (.cell 0 3)) (
   .op (.bin .eql (.x 7) (.c (.v (.int .i64 2)))) (
   .jump [(.x 8), (.x 3), (.x 4)])))
   (.op (.bin .eql (.cell 0 0) (.c (.v (.int .i64 6)))) (
   .ite (.x 7)
    (.op (.lenL (.cell 0 3)) (
    .op (.bin .geq (.x 8) (.c (.v (.int .i64 2)))) (
    .jump [(.x 9), (.x 3), (.x 4)])))
    (.op (.bin .eql (.cell 0 0) (.c (.v (.int .i64 7)))) (
    .ite (.x 8)
     (.op (.call F.impl_lowOk [(.cell 0 2)] false) (
     .jump [(.c (.v (.bool true))), (.x 9), (.x 4)]))
     (.op (.bin .eql (.cell 0 0) (.c (.v (.int .i64 8)))) (
     .ite (.x 9)
      (.op (.lenL (.cell 0 3)) (
      .op (.bin .eql (.x 10) (.c (.v (.int .i64 1)))) (
      .jump [(.x 11), (.x 3), (.x 4)])))
      (.bind 1 (
       .op (.bin .eql (.cell 0 0) (.c (.v (.int .i64 9)))) (
       .ite (.x 10)
        (.jump [(.x 10)])
        (.op (.bin .eql (.cell 0 0) (.c (.v (.int .i64 10)))) (
        .ite (.x 11)
         (.jump [(.x 11)])
         (.op (.bin .eql (.cell 0 0) (.c (.v (.int .i64 11)))) (
         .jump [(.x 12)])))))) (
      .ite (.x 10)
       (.op (.bin .geq (.cell 0 1) (.c (.v (.int .i64 0)))) (
       .jump [(.x 2), (.x 3), (.x 11)]))
       (.esc (.ret [(.c (.v (.bool false)))])))))))))))))) (
.bind 1 (
 .ite (.x 5)
  (.ite (.x 6)
   (.jump [(.x 7)])
   (.jump [(.c (.v (.bool false)))]))
  (.jump [(.c (.v (.bool false)))])) (
.ret [(.x 8)])))))))
theorem T.impl_tyHeadOk_l : leftF Tryd.prog CF Tryd.f73 = some (1, T.impl_tyHeadOk) := by kernel_rfl
theorem T.impl_tyHeadOk_con {args : List AV} {res : AV} (hl : args.length = 1) (hn : AV.norefs args = true) (hw : wpT Tryd.prog (fun _ _ _ => False) (fun a => a = res) T.impl_tyHeadOk args []) : PCon Tryd.prog F.impl_tyHeadOk args res :=
  con_auto Tryd.func73 T.impl_tyHeadOk_l hl hn hw
def T.slices_ContainsFunc__impl_Ty_impl_Ty : T :=
.op (.call F.slices_IndexFunc__impl_Ty_impl_Ty [(.x 0), (.x 1)] false) (
.op (.bin .geq (.x 2) (.c (.v (.int .i64 0)))) (
.ret [(.x 3)]))
theorem T.slices_ContainsFunc__impl_Ty_impl_Ty_l : leftF Tryd.prog CF Tryd.f74 = some (2, T.slices_ContainsFunc__impl_Ty_impl_Ty) := by kernel_rfl
theorem T.slices_ContainsFunc__impl_Ty_impl_Ty_con {args : List AV} {res : AV} (hl : args.length = 2) (hn : AV.norefs args = true) (hw : wpT Tryd.prog (fun _ _ _ => False) (fun a => a = res) T.slices_ContainsFunc__impl_Ty_impl_Ty args []) : PCon Tryd.prog F.slices_ContainsFunc__impl_Ty_impl_Ty args res :=
  con_auto Tryd.func74 T.slices_ContainsFunc__impl_Ty_impl_Ty_l hl hn hw
def T.impl_TyOk_1 : T :=
.chk (.cells (.x 0) 4) (
.chk (.cells (.x 0) 4) (
.op (.call F.impl_TyOk [(.x 0)] false) (
.op (.un .not (.x 1)) (
.ret [(.x 2)]))))
theorem T.impl_TyOk_1_l : leftF Tryd.prog CF Tryd.f75 = some (1, T.impl_TyOk_1) := by kernel_rfl
theorem T.impl_TyOk_1_con {args : List AV} {res : AV} (hl : args.length = 1) (hn : AV.norefs args = true) (hw : wpT Tryd.prog (fun _ _ _ => False) (fun a => a = res) T.impl_TyOk_1 args []) : PCon Tryd.prog F.impl_TyOk_1 args res :=
  con_auto Tryd.func75 T.impl_TyOk_1_l hl hn hw
def T.impl_bracketed : T :=
.op (.bin .lss (.x 1) (.x 2)) (
.ite (.x 3)
 (.op (.bin .add (.c (.v (.string ⟨#[40]⟩))) (.x 0)) (
 .op (.bin .add (.x 4) (.c (.v (.string ⟨#[41]⟩)))) (
 .ret [(.x 5)])))
 (.ret [(.x 0)]))
theorem T.impl_bracketed_l : leftF Tryd.prog CF Tryd.f76 = some (3, T.impl_bracketed) := by kernel_rfl
theorem T.impl_bracketed_con {args : List AV} {res : AV} (hl : args.length = 3) (hn : AV.norefs args = true) (hw : wpT Tryd.prog (fun _ _ _ => False) (fun a => a = res) T.impl_bracketed args []) : PCon Tryd.prog F.impl_bracketed args res :=
  con_auto Tryd.func76 T.impl_bracketed_l hl hn hw
def T.impl_forms_impl_TypeExp : T :=
.bind 1 (
 .op (.lenL (.x 0)) (
 .loop [(.c (.sl [])), (.c (.v (.int .i64 0)))] (
  .op (.bin .lss (.x 6) (.x 4)) (
  .ite (.x 7)
   (.op (.elem 4 (.x 0) (.x 6)) (
   .chk (.cells (.x 8) 4) (
   .chk (.cells (.x 8) 4) (
   .chk (.cells (.x 8) 4) (
   .op (.callv (.x 3) [(.x 8), (.x 1)] false) (
   .chk (.one (.x 9)) (
   .op (.mkl (.v (.string ⟨#[]⟩)) 1 [(0, (.x 9))]) (
   .op (.app 1 16 (.x 5) (.sl (.x 10))) (
   .op (.bin .add (.x 6) (.c (.v (.int .i64 1)))) (
   .jump [(.x 11), (.x 12)]))))))))))
   (.esc (.jump [(.x 5)])))))) (
.op (.call F.strings_Join [(.sl (.x 4)), (.x 2)] true) (
.ret [(.x 5)]))
theorem T.impl_forms_impl_TypeExp_l : leftF Tryd.prog CF Tryd.f77 = some (4, T.impl_forms_impl_TypeExp) := by kernel_rfl
theorem T.impl_forms_impl_TypeExp_con {args : List AV} {res : AV} (hl : args.length = 4) (hn : AV.norefs args = true) (hw : wpT Tryd.prog (fun _ _ _ => False) (fun a => a = res) T.impl_forms_impl_TypeExp args []) : PCon Tryd.prog F.impl_forms_impl_TypeExp args res :=
  con_auto Tryd.func77 T.impl_forms_impl_TypeExp_l hl hn hw
def T.spec_l1In : T :=
.bind 1 (
 .op (.bin .geq (.x 0) (.x 1)) (
 .ite (.x 3)
  (.op (.bin .leq (.x 0) (.x 2)) (
  .jump [(.x 4)]))
  (.jump [(.c (.v (.bool false)))]))) (
.ret [(.x 3)])
theorem T.spec_l1In_l : leftF Tryd.prog CF Tryd.f79 = some (3, T.spec_l1In) := by kernel_rfl
theorem T.spec_l1In_con {args : List AV} {res : AV} (hl : args.length = 3) (hn : AV.norefs args = true) (hw : wpT Tryd.prog (fun _ _ _ => False) (fun a => a = res) T.spec_l1In args []) : PCon Tryd.prog F.spec_l1In args res :=
  con_auto Tryd.func79 T.spec_l1In_l hl hn hw
def T.impl_within : T :=
.bind 1 (
 .op (.bin .geq (.x 0) (.x 1)) (
 .ite (.x 3)
  (.op (.bin .leq (.x 0) (.x 2)) (
  .jump [(.x 4)]))
  (.jump [(.c (.v (.bool false)))]))) (
.ret [(.x 3)])
theorem T.impl_within_l : leftF Tryd.prog CF Tryd.f85 = some (3, T.impl_within) := by kernel_rfl
theorem T.impl_within_con {args : List AV} {res : AV} (hl : args.length = 3) (hn : AV.norefs args = true) (hw : wpT Tryd.prog (fun _ _ _ => False) (fun a => a = res) T.impl_within args []) : PCon Tryd.prog F.impl_within args res :=
  con_auto Tryd.func85 T.impl_within_l hl hn hw
def T.spec_l1Upper : T :=
.op (.call F.spec_l1In [(.x 0), (.c (.v (.int .i64 65))), (.c (.v (.int .i64 90)))] false) (
.ret [(.x 1)])
theorem T.spec_l1Upper_l : leftF Tryd.prog CF Tryd.f93 = some (1, T.spec_l1Upper) := by kernel_rfl
theorem T.spec_l1Upper_con {args : List AV} {res : AV} (hl : args.length = 1) (hn : AV.norefs args = true) (hw : wpT Tryd.prog (fun _ _ _ => False) (fun a => a = res) T.spec_l1Upper args []) : PCon Tryd.prog F.spec_l1Upper args res :=
  con_auto Tryd.func93 T.spec_l1Upper_l hl hn hw
def T.spec_l1Lower : T :=
.op (.call F.spec_l1In [(.x 0), (.c (.v (.int .i64 97))), (.c (.v (.int .i64 122)))] false) (
.ret [(.x 1)])
theorem T.spec_l1Lower_l : leftF Tryd.prog CF Tryd.f94 = some (1, T.spec_l1Lower) := by kernel_rfl
theorem T.spec_l1Lower_con {args : List AV} {res : AV} (hl : args.length = 1) (hn : AV.norefs args = true) (hw : wpT Tryd.prog (fun _ _ _ => False) (fun a => a = res) T.spec_l1Lower args []) : PCon Tryd.prog F.spec_l1Lower args res :=
  con_auto Tryd.func94 T.spec_l1Lower_l hl hn hw
def T.spec_l1NameByte : T :=
.bind 1 (
 .op (.call F.spec_l1Lower [(.x 0)] false) (
 .ite (.x 1)
  (.jump [(.c (.v (.bool true)))])
  (.op (.call F.spec_l1Upper [(.x 0)] false) (
  .ite (.x 2)
   (.jump [(.c (.v (.bool true)))])
   (.op (.call F.spec_l1Num [(.x 0)] false) (
   .ite (.x 3)
    (.jump [(.c (.v (.bool true)))])
    (.op (.bin .eql (.x 0) (.c (.v (.int .i64 95)))) (
    .jump [(.x 4)])))))))) (
.ret [(.x 1)])
theorem T.spec_l1NameByte_l : leftF Tryd.prog CF Tryd.f95 = some (1, T.spec_l1NameByte) := by kernel_rfl
theorem T.spec_l1NameByte_con {args : List AV} {res : AV} (hl : args.length = 1) (hn : AV.norefs args = true) (hw : wpT Tryd.prog (fun _ _ _ => False) (fun a => a = res) T.spec_l1NameByte args []) : PCon Tryd.prog F.spec_l1NameByte args res :=
  con_auto Tryd.func95 T.spec_l1NameByte_l hl hn hw
def T.impl_great : T :=
.bind 1 (
 .op (.bin .geq (.x 0) (.c (.v (.int .u8 65)))) (
 .ite (.x 1)
  (.op (.bin .leq (.x 0) (.c (.v (.int .u8 90)))) (
  .jump [(.x 2)]))
  (.jump [(.c (.v (.bool false)))]))) (
.ret [(.x 1)])
theorem T.impl_great_l : leftF Tryd.prog CF Tryd.f97 = some (1, T.impl_great) := by kernel_rfl
theorem T.impl_great_con {args : List AV} {res : AV} (hl : args.length = 1) (hn : AV.norefs args = true) (hw : wpT Tryd.prog (fun _ _ _ => False) (fun a => a = res) T.impl_great args []) : PCon Tryd.prog F.impl_great args res :=
  con_auto Tryd.func97 T.impl_great_l hl hn hw
def T.impl_run : T :=
.bind 1 (
 .loop [(.x 1)] (
  .bind 0 (
   .bind 1 (
    .op (.lenS (.x 0)) (
    .op (.bin .lss (.x 3) (.x 4)) (
    .ite (.x 5)
     (.op (.idxS (.x 0) (.x 3)) (
     .op (.callv (.x 2) [(.x 6)] false) (
     .jump [(.x 7)])))
     (.jump [(.c (.v (.bool false)))])))) (
   .ite (.x 4)
    (.jump [])
    (.esc (.esc (.jump [(.x 3)]))))) (
  .op (.bin .add (.x 3) (.c (.v (.int .i64 1)))) (
  .jump [(.x 4)])))) (
.ret [(.x 3)])
theorem T.impl_run_l : leftF Tryd.prog CF Tryd.f98 = some (3, T.impl_run) := by kernel_rfl
theorem T.impl_run_con {args : List AV} {res : AV} (hl : args.length = 3) (hn : AV.norefs args = true) (hw : wpT Tryd.prog (fun _ _ _ => False) (fun a => a = res) T.impl_run args []) : PCon Tryd.prog F.impl_run args res :=
  con_auto Tryd.func98 T.impl_run_l hl hn hw
def T.impl_nameByte : T :=
.bind 1 (
 .op (.call F.impl_small [(.x 0)] false) (
 .ite (.x 1)
  (.jump [(.c (.v (.bool true)))])
  (.op (.call F.impl_great [(.x 0)] false) (
  .ite (.x 2)
   (.jump [(.c (.v (.bool true)))])
   (.op (.call F.impl_digit [(.x 0)] false) (
   .ite (.x 3)
    (.jump [(.c (.v (.bool true)))])
    (.op (.bin .eql (.x 0) (.c (.v (.int .u8 95)))) (
    .jump [(.x 4)])))))))) (
.ret [(.x 1)])
theorem T.impl_nameByte_l : leftF Tryd.prog CF Tryd.f99 = some (1, T.impl_nameByte) := by kernel_rfl
theorem T.impl_nameByte_con {args : List AV} {res : AV} (hl : args.length = 1) (hn : AV.norefs args = true) (hw : wpT Tryd.prog (fun _ _ _ => False) (fun a => a = res) T.impl_nameByte args []) : PCon Tryd.prog F.impl_nameByte args res :=
  con_auto Tryd.func99 T.impl_nameByte_l hl hn hw
def T.slices_Index__string_string : T :=
.bind 0 (
 .op (.lenL (.x 0)) (
 .loop [(.c (.v (.int .i64 0)))] (
  .op (.bin .lss (.x 3) (.x 2)) (
  .ite (.x 4)
   (.op (.elem 1 (.x 0) (.x 3)) (
   .chk (.lt (.x 5) 0) (
   .op (.bin .eql (.x 1) (.cell 5 0)) (
   .ite (.x 6)
    (.esc (.esc (.ret [(.x 3)])))
    (.op (.bin .add (.x 3) (.c (.v (.int .i64 1)))) (
    .jump [(.x 7)]))))))
   (.esc (.jump [])))))) (
.ret [(.c (.v (.int .i64 (-1))))])
theorem T.slices_Index__string_string_l : leftF Tryd.prog CF Tryd.f100 = some (2, T.slices_Index__string_string) := by kernel_rfl
theorem T.slices_Index__string_string_con {args : List AV} {res : AV} (hl : args.length = 2) (hn : AV.norefs args = true) (hw : wpT Tryd.prog (fun _ _ _ => False) (fun a => a = res) T.slices_Index__string_string args []) : PCon Tryd.prog F.slices_Index__string_string args res :=
  con_auto Tryd.func100 T.slices_Index__string_string_l hl hn hw
-- internalstrconv_FormatInt: no walk
-- strings_Builder_copyCheck: code not covered
-- strings_Builder_grow: no walk
def T.slices_IndexFunc__impl_Ty_impl_Ty : T :=
.bind 0 (
 .op (.lenL (.x 0)) (
 .loop [(.c (.v (.int .i64 0)))] (
  .op (.bin .lss (.x 3) (.x 2)) (
  .ite (.x 4)
   (.op (.elem 4 (.x 0) (.x 3)) (
   .chk (.cells (.x 5) 4) (
   .op (.callv (.x 1) [(.x 5)] false) (
   .ite (.x 6)
    (.esc (.esc (.ret [(.x 3)])))
    (.op (.bin .add (.x 3) (.c (.v (.int .i64 1)))) (
    .jump [(.x 7)]))))))
   (.esc (.jump [])))))) (
.ret [(.c (.v (.int .i64 (-1))))])
theorem T.slices_IndexFunc__impl_Ty_impl_Ty_l : leftF Tryd.prog CF Tryd.f104 = some (2, T.slices_IndexFunc__impl_Ty_impl_Ty) := by kernel_rfl
theorem T.slices_IndexFunc__impl_Ty_impl_Ty_con {args : List AV} {res : AV} (hl : args.length = 2) (hn : AV.norefs args = true) (hw : wpT Tryd.prog (fun _ _ _ => False) (fun a => a = res) T.slices_IndexFunc__impl_Ty_impl_Ty args []) : PCon Tryd.prog F.slices_IndexFunc__impl_Ty_impl_Ty args res :=
  con_auto Tryd.func104 T.slices_IndexFunc__impl_Ty_impl_Ty_l hl hn hw
def T.spec_l1Num : T :=
.op (.call F.spec_l1In [(.x 0), (.c (.v (.int .i64 48))), (.c (.v (.int .i64 57)))] false) (
.ret [(.x 1)])
theorem T.spec_l1Num_l : leftF Tryd.prog CF Tryd.f115 = some (1, T.spec_l1Num) := by kernel_rfl
theorem T.spec_l1Num_con {args : List AV} {res : AV} (hl : args.length = 1) (hn : AV.norefs args = true) (hw : wpT Tryd.prog (fun _ _ _ => False) (fun a => a = res) T.spec_l1Num args []) : PCon Tryd.prog F.spec_l1Num args res :=
  con_auto Tryd.func115 T.spec_l1Num_l hl hn hw
def T.impl_digit : T :=
.bind 1 (
 .op (.bin .geq (.x 0) (.c (.v (.int .u8 48)))) (
 .ite (.x 1)
  (.op (.bin .leq (.x 0) (.c (.v (.int .u8 57)))) (
  .jump [(.x 2)]))
  (.jump [(.c (.v (.bool false)))]))) (
.ret [(.x 1)])
theorem T.impl_digit_l : leftF Tryd.prog CF Tryd.f116 = some (1, T.impl_digit) := by kernel_rfl
theorem T.impl_digit_con {args : List AV} {res : AV} (hl : args.length = 1) (hn : AV.norefs args = true) (hw : wpT Tryd.prog (fun _ _ _ => False) (fun a => a = res) T.impl_digit args []) : PCon Tryd.prog F.impl_digit args res :=
  con_auto Tryd.func116 T.impl_digit_l hl hn hw
end Go.Proofs.Ab
