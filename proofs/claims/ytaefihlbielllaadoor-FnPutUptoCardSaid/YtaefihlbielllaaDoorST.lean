/-
  WHAT IS LEFT of this seat's functions, printed by a program of ours (wip/tool/Gen2.lean) from the translation; each with the theorem that it is what is left of that function.
-/
import Derived.Test.YtaefihlbielllaaDoorChecked
import Derived.KernelRfl
import Derived.Test.YtaefihlbielllaaDoorAbM4
set_option linter.unusedVariables false
set_option linter.unusedSimpArgs false
set_option linter.defProp false
namespace Go.Proofs.Ab
open Go.Ab
set_option maxRecDepth 100000
namespace F
abbrev laws_FnPut : FuncId := 3
abbrev laws_big : FuncId := 4
abbrev spec_DrawPut : FuncId := 5
abbrev spec_TyOk : FuncId := 6
abbrev impl_SameTy : FuncId := 7
abbrev impl_Put : FuncId := 8
abbrev impl_TyText : FuncId := 9
abbrev impl_Free : FuncId := 10
abbrev impl_TySize : FuncId := 11
abbrev spec_l1New : FuncId := 12
abbrev spec_l4DrawAny : FuncId := 13
abbrev spec_l1Below : FuncId := 14
abbrev spec_l4Draw : FuncId := 15
abbrev spec_l1Int : FuncId := 16
abbrev spec_l4Node : FuncId := 17
abbrev slices_EqualFunc__impl_Ty__impl_Ty_impl_Ty_impl_Ty : FuncId := 18
abbrev impl_isVarKind : FuncId := 19
abbrev impl_TyOk : FuncId := 20
abbrev impl_copyTy : FuncId := 21
abbrev impl_put : FuncId := 22
abbrev impl_typeForm : FuncId := 23
abbrev impl_typeExpOf : FuncId := 24
abbrev impl_frees : FuncId := 25
abbrev spec_l1Str : FuncId := 26
abbrev spec_l1Byte : FuncId := 27
abbrev spec_l1Once : FuncId := 28
abbrev spec_l1Low : FuncId := 29
abbrev impl_within : FuncId := 30
abbrev impl_tyHeadOk : FuncId := 31
abbrev slices_ContainsFunc__impl_Ty_impl_Ty : FuncId := 32
abbrev impl_TyOk_1 : FuncId := 33
abbrev impl_bracketed : FuncId := 34
abbrev impl_forms_impl_TypeExp : FuncId := 35
abbrev strconv_Itoa : FuncId := 36
abbrev slices_Contains__int_int : FuncId := 37
abbrev spec_l1Name : FuncId := 38
abbrev spec_l1Key : FuncId := 39
abbrev impl_lowOk : FuncId := 40
abbrev slices_IndexFunc__impl_Ty_impl_Ty : FuncId := 41
abbrev strings_Join : FuncId := 42
abbrev slices_Index__int_int : FuncId := 44
abbrev spec_l1In : FuncId := 45
abbrev spec_l1Upper : FuncId := 46
abbrev spec_l1Lower : FuncId := 47
abbrev spec_l1NameByte : FuncId := 48
abbrev impl_isName : FuncId := 49
abbrev impl_small : FuncId := 50
abbrev impl_isKey : FuncId := 51
abbrev strings_Builder_Grow : FuncId := 52
abbrev strings_Builder_WriteString : FuncId := 53
abbrev spec_l1Num : FuncId := 56
abbrev impl_run : FuncId := 57
abbrev impl_nameByte : FuncId := 58
abbrev slices_Contains__string_string : FuncId := 59
abbrev strings_Builder_copyCheck : FuncId := 60
abbrev strings_Builder_grow : FuncId := 61
abbrev impl_great : FuncId := 66
abbrev impl_digit : FuncId := 67
abbrev slices_Index__string_string : FuncId := 68
end F
def FL : List Nat := [3, 4, 6, 7, 9, 11, 14, 16, 17, 18, 19, 20, 23, 26, 27, 28, 29, 30, 31, 32, 33, 34, 35, 36, 37, 38, 39, 40, 41, 42, 43, 44, 45, 46, 47, 48, 49, 50, 51, 54, 55, 56, 57, 58, 59, 62, 63, 66, 67, 68, 71, 72, 73, 74, 75, 76, 77]
def FR : List (Nat × Bool × Nat × Nat) := [(10, true, 3, 1), (25, true, 3, 1)]
abbrev G.spec_l1New : Sig := ⟨1, [(.d (.x 0))], [], 3, (.ptr 0 0), [(.box 51 [(.d (.x 0)), (.d (.x 1)), (.d (.x 2))])], []⟩
abbrev G.spec_l4DrawAny : Sig := ⟨3, [(.ptr 0 0)], [(.box 51 [(.d (.x 0)), (.d (.x 1)), (.d (.x 2))])], 4, (.d (.x 0)), [(.box 51 [(.d (.x 1)), (.d (.x 2)), (.d (.x 3))])], []⟩
abbrev G.spec_l1Below : Sig := ⟨4, [(.ptr 0 0), (.d (.x 3))], [(.box 51 [(.d (.x 0)), (.d (.x 1)), (.d (.x 2))])], 4, (.d (.x 0)), [(.box 51 [(.d (.x 1)), (.d (.x 2)), (.d (.x 3))])], []⟩
abbrev G.spec_l4Draw : Sig := ⟨5, [(.ptr 0 0), (.d (.x 3)), (.d (.x 4))], [(.box 51 [(.d (.x 0)), (.d (.x 1)), (.d (.x 2))])], 7, (.agg [(.d (.x 0)), (.d (.x 4)), (.d (.x 5)), (.row 1 (.x 6))]), [(.box 51 [(.d (.x 1)), (.d (.x 2)), (.d (.x 3))]), (.row true 26 4 (.x 6))], []⟩
abbrev G.spec_l4Draw_s1 : Sig := ⟨5, [(.ptr 0 0), (.d (.x 3)), (.d (.x 4))], [(.box 51 [(.d (.x 0)), (.d (.x 1)), (.d (.x 2))])], 4, (.d (.x 0)), [(.box 51 [(.d (.x 1)), (.d (.x 2)), (.d (.x 3))])], []⟩
abbrev G.spec_l1Int : Sig := ⟨4, [(.ptr 0 0), (.d (.x 3))], [(.box 51 [(.d (.x 0)), (.d (.x 1)), (.d (.x 2))])], 4, (.d (.x 0)), [(.box 51 [(.d (.x 1)), (.d (.x 2)), (.d (.x 3))])], []⟩
abbrev G.spec_l1Str : Sig := ⟨4, [(.ptr 0 0), (.d (.x 3))], [(.box 51 [(.d (.x 0)), (.d (.x 1)), (.d (.x 2))])], 4, (.d (.x 0)), [(.box 51 [(.d (.x 1)), (.d (.x 2)), (.d (.x 3))])], []⟩
abbrev G.spec_l1Byte : Sig := ⟨3, [(.ptr 0 0)], [(.box 51 [(.d (.x 0)), (.d (.x 1)), (.d (.x 2))])], 4, (.d (.x 0)), [(.box 51 [(.d (.x 1)), (.d (.x 2)), (.d (.x 3))])], []⟩
abbrev G.spec_l1Once : Sig := ⟨4, [(.ptr 0 0), (.d (.x 3))], [(.box 51 [(.d (.x 0)), (.d (.x 1)), (.d (.x 2))])], 4, (.d (.x 0)), [(.box 51 [(.d (.x 1)), (.d (.x 2)), (.d (.x 3))])], []⟩
def SG : List (Nat × List Sig) := [(12, [G.spec_l1New]), (13, [G.spec_l4DrawAny]), (14, [G.spec_l1Below]), (15, [G.spec_l4Draw, G.spec_l4Draw_s1]), (16, [G.spec_l1Int]), (26, [G.spec_l1Str]), (27, [G.spec_l1Byte]), (28, [G.spec_l1Once])]
abbrev CF : Cfg := ⟨FL, FR, SG, false⟩
def T.laws_big : T :=
.op (.lenL (.x 0)) (
.op (.bin .gtr (.x 1) (.c (.v (.int .i64 1048576)))) (
.ret [(.x 2)]))
theorem T.laws_big_l : leftF Tryd.prog CF Tryd.f4 = some (1, T.laws_big) := by kernel_rfl
theorem T.laws_big_con {args : List AV} {res : AV} (hl : args.length = 1) (hn : AV.norefs args = true) (hw : wpT Tryd.prog (fun _ _ _ => False) (fun a => a = res) T.laws_big args []) : PCon Tryd.prog F.laws_big args res :=
  con_auto Tryd.func4 T.laws_big_l hl hn hw
def T.spec_DrawPut : T :=
.op (.scall F.spec_l1New G.spec_l1New [(.x 0)]) (
.op (.scall F.spec_l4DrawAny G.spec_l4DrawAny [(.ext 1 0), (.ext 1 1), (.ext 1 2)]) (
.op (.val (.ext 2 0)) (
.chk (.cells (.x 3) 4) (
.op (.mkl (.agg [(.v (.int .i64 0)), (.v (.int .i64 0)), (.v (.string ⟨#[]⟩)), .nils]) 0 []) (
.bind 4 (
 .op (.scall F.spec_l1Below G.spec_l1Below [(.ext 2 1), (.ext 2 2), (.ext 2 3), (.c (.v (.int .i64 4)))]) (
 .loop [(.ext 5 1), (.ext 5 2), (.ext 5 3), (.x 4), (.ext 5 0)] (
  .op (.bin .gtr (.x 10) (.c (.v (.int .i64 0)))) (
  .ite (.x 11)
   (.op (.scall F.spec_l4Draw G.spec_l4Draw [(.x 6), (.x 7), (.x 8), (.c (.v (.int .i64 2))), (.c (.v (.int .i64 2)))]) (
   .chk (.cells (.agg [(.ext 12 0), (.ext 12 4), (.ext 12 5), (.sl (.ext 12 6))]) 4) (
   .op (.mkl (.agg [(.v (.int .i64 0)), (.v (.int .i64 0)), (.v (.string ⟨#[]⟩)), .nils]) 1 [(0, (.agg [(.ext 12 0), (.ext 12 4), (.ext 12 5), (.sl (.ext 12 6))]))]) (
   .op (.app 4 56 (.x 9) (.sl (.x 13))) (
   .op (.bin .sub (.x 10) (.c (.v (.int .i64 1)))) (
   .jump [(.ext 12 1), (.ext 12 2), (.ext 12 3), (.x 14), (.x 15)]))))))
   (.esc (.jump [(.x 6), (.x 7), (.x 8), (.x 9)])))))) (
.chk (.cells (.x 3) 4) (
.chk (.one (.c (.v (.int .i64 9)))) (
.chk (.one (.c (.v (.int .i64 10)))) (
.chk (.one (.c (.v (.int .i64 11)))) (
.chk (.one (.c (.v (.int .i64 11)))) (
.chk (.one (.c (.v (.int .i64 7)))) (
.chk (.one (.c (.v (.int .i64 0)))) (
.op (.mkl (.v (.int .i64 0)) 6 [(0, (.c (.v (.int .i64 9)))), (1, (.c (.v (.int .i64 10)))), (2, (.c (.v (.int .i64 11)))), (3, (.c (.v (.int .i64 11)))), (4, (.c (.v (.int .i64 7)))), (5, (.c (.v (.int .i64 0))))]) (
.op (.scall F.spec_l1Int G.spec_l1Int [(.x 5), (.x 6), (.x 7), (.x 9)]) (
.chk (.cells (.x 3) 4) (
.ret [(.agg [(.cell 3 0), (.cell 3 1), (.cell 3 2), (.cell 3 3)]), (.ext 10 0), (.sl (.x 8))]))))))))))))))))
theorem T.spec_DrawPut_l : leftF Tryd.prog CF Tryd.f5 = some (1, T.spec_DrawPut) := by kernel_rfl
theorem T.spec_DrawPut_con {args : List AV} {res : AV} (hl : args.length = 1) (hn : AV.norefs args = true) (hw : wpT Tryd.prog (fun _ _ _ => False) (fun a => a = res) T.spec_DrawPut args []) : PCon Tryd.prog F.spec_DrawPut args res :=
  con_auto Tryd.func5 T.spec_DrawPut_l hl hn hw
def T.spec_TyOk : T :=
.chk (.cells (.x 0) 4) (
.chk (.cells (.x 0) 4) (
.op (.call F.spec_l4Node [(.x 0)] false) (
.op (.un .not (.x 1)) (
.ite (.x 2)
 (.ret [(.c (.v (.bool false)))])
 (.bind 0 (
  .loop [(.c (.v (.int .i64 0)))] (
   .op (.lenL (.cell 0 3)) (
   .op (.bin .lss (.x 3) (.x 4)) (
   .ite (.x 5)
    (.op (.elem 4 (.cell 0 3) (.x 3)) (
    .chk (.cells (.x 6) 4) (
    .op (.call F.spec_TyOk [(.x 6)] false) (
    .op (.un .not (.x 7)) (
    .ite (.x 8)
     (.esc (.esc (.ret [(.c (.v (.bool false)))])))
     (.op (.bin .add (.x 3) (.c (.v (.int .i64 1)))) (
     .jump [(.x 9)])))))))
    (.esc (.jump [])))))) (
 .ret [(.c (.v (.bool true)))]))))))
theorem T.spec_TyOk_l : leftF Tryd.prog CF Tryd.f6 = some (1, T.spec_TyOk) := by kernel_rfl
theorem T.spec_TyOk_con {args : List AV} {res : AV} (hl : args.length = 1) (hn : AV.norefs args = true) (hw : wpT Tryd.prog (fun _ _ _ => False) (fun a => a = res) T.spec_TyOk args []) : PCon Tryd.prog F.spec_TyOk args res :=
  con_auto Tryd.func6 T.spec_TyOk_l hl hn hw
def T.impl_SameTy : T :=
.chk (.cells (.x 0) 4) (
.chk (.cells (.x 1) 4) (
.bind 1 (
 .op (.bin .eql (.cell 0 0) (.cell 1 0)) (
 .ite (.x 2)
  (.op (.bin .eql (.cell 0 1) (.cell 1 1)) (
  .ite (.x 3)
   (.op (.bin .eql (.cell 0 2) (.cell 1 2)) (
   .ite (.x 4)
    (.op (.call F.slices_EqualFunc__impl_Ty__impl_Ty_impl_Ty_impl_Ty [(.cell 0 3), (.cell 1 3), (.c (.fn F.impl_SameTy []))] false) (
    .jump [(.x 5)]))
    (.jump [(.c (.v (.bool false)))])))
   (.jump [(.c (.v (.bool false)))])))
  (.jump [(.c (.v (.bool false)))]))) (
.ret [(.x 2)])))
theorem T.impl_SameTy_l : leftF Tryd.prog CF Tryd.f7 = some (2, T.impl_SameTy) := by kernel_rfl
theorem T.impl_SameTy_con {args : List AV} {res : AV} (hl : args.length = 2) (hn : AV.norefs args = true) (hw : wpT Tryd.prog (fun _ _ _ => False) (fun a => a = res) T.impl_SameTy args []) : PCon Tryd.prog F.impl_SameTy args res :=
  con_auto Tryd.func7 T.impl_SameTy_l hl hn hw
def T.impl_TyText : T :=
.chk (.cells (.x 0) 4) (
.chk (.cells (.x 0) 4) (
.op (.call F.impl_TyOk [(.x 0)] false) (
.op (.un .not (.x 1)) (
.ite (.x 2)
 (.ret [(.c (.v (.string ⟨#[]⟩)))])
 (.chk (.cells (.x 0) 4) (
 .op (.call F.impl_typeExpOf [(.x 0)] false) (
 .op (.call F.impl_typeForm [(.x 3), (.c (.v (.int .i64 0)))] false) (
 .ret [(.x 4)]))))))))
theorem T.impl_TyText_l : leftF Tryd.prog CF Tryd.f9 = some (1, T.impl_TyText) := by kernel_rfl
theorem T.impl_TyText_con {args : List AV} {res : AV} (hl : args.length = 1) (hn : AV.norefs args = true) (hw : wpT Tryd.prog (fun _ _ _ => False) (fun a => a = res) T.impl_TyText args []) : PCon Tryd.prog F.impl_TyText args res :=
  con_auto Tryd.func9 T.impl_TyText_l hl hn hw
def T.impl_Free : T :=
.chk (.cells (.x 0) 4) (
.bind 0 (
 .bind 1 (
  .op (.call F.impl_isVarKind [(.x 1)] false) (
  .op (.un .not (.x 2)) (
  .ite (.x 3)
   (.jump [(.c (.v (.bool true)))])
   (.chk (.cells (.x 0) 4) (
   .op (.call F.impl_TyOk [(.x 0)] false) (
   .op (.un .not (.x 4)) (
   .jump [(.x 5)]))))))) (
 .ite (.x 2)
  (.esc (.ret [(.sl (.c (.sl [])))]))
  (.jump []))) (
.chk (.cells (.x 0) 4) (
.op (.fcall true 3 1 F.impl_frees [(.x 0), (.x 1)]) (
.ret [(.sl (.x 2))]))))
theorem T.impl_Free_l : leftR Tryd.prog CF true 3 1 Tryd.f10 = some (2, T.impl_Free) := by kernel_rfl
theorem T.impl_Free_fcon {args xs : List AV} (hl : args.length = 2) (hn : AV.norefs args = true) (hw : wpT Tryd.prog (fun _ _ _ => False) (fun a => a = .sl xs) T.impl_Free args []) : FCon Tryd.prog F.impl_Free args true 3 1 xs :=
  fcon_auto Tryd.func10 T.impl_Free_l hl hn hw
def T.impl_TySize : T :=
.chk (.cells (.x 0) 4) (
.bind 1 (
 .op (.lenL (.cell 0 3)) (
 .loop [(.c (.v (.int .i64 1))), (.c (.v (.int .i64 0)))] (
  .op (.bin .lss (.x 3) (.x 1)) (
  .ite (.x 4)
   (.op (.elem 4 (.cell 0 3) (.x 3)) (
   .chk (.cells (.x 5) 4) (
   .chk (.cells (.x 5) 4) (
   .chk (.cells (.x 5) 4) (
   .op (.call F.impl_TySize [(.x 5)] false) (
   .op (.bin .add (.x 2) (.x 6)) (
   .op (.bin .add (.x 3) (.c (.v (.int .i64 1)))) (
   .jump [(.x 7), (.x 8)]))))))))
   (.esc (.jump [(.x 2)])))))) (
.ret [(.x 1)]))
theorem T.impl_TySize_l : leftF Tryd.prog CF Tryd.f11 = some (1, T.impl_TySize) := by kernel_rfl
theorem T.impl_TySize_con {args : List AV} {res : AV} (hl : args.length = 1) (hn : AV.norefs args = true) (hw : wpT Tryd.prog (fun _ _ _ => False) (fun a => a = res) T.impl_TySize args []) : PCon Tryd.prog F.impl_TySize args res :=
  con_auto Tryd.func11 T.impl_TySize_l hl hn hw
def T.spec_l1New : T :=
.op (.lenL (.x 0)) (
.op (.bin .add (.c (.v (.int .i64 80080))) (.x 1)) (
.bind 1 (
 .loop [(.x 2), (.c (.v (.int .i64 0)))] (
  .bind 0 (
   .bind 1 (
    .op (.lenL (.x 0)) (
    .op (.bin .lss (.x 4) (.x 5)) (
    .ite (.x 6)
     (.op (.bin .lss (.x 4) (.c (.v (.int .i64 4000)))) (
     .jump [(.x 7)]))
     (.jump [(.c (.v (.bool false)))])))) (
   .ite (.x 5)
    (.jump [])
    (.esc (.esc (.jump [(.x 3)]))))) (
  .op (.bin .mul (.x 3) (.c (.v (.int .i64 137)))) (
  .op (.elem 1 (.x 0) (.x 4)) (
  .chk (.lt (.x 6) 0) (
  .op (.conv .i64 (.cell 6 0)) (
  .op (.bin .add (.x 5) (.x 7)) (
  .op (.bin .add (.x 8) (.c (.v (.int .i64 11)))) (
  .op (.bin .and (.x 9) (.c (.v (.int .i64 1073741823)))) (
  .op (.bin .add (.x 4) (.c (.v (.int .i64 1)))) (
  .jump [(.x 10), (.x 11)]))))))))))) (
.chk (.one (.x 0)) (
.chk (.one (.x 3)) (
.chk (.cells (.agg [(.x 0), (.c (.v (.int .i64 0))), (.x 3)]) 3) (
.ret [(.x 0), (.c (.v (.int .i64 0))), (.x 3)]))))))
theorem T.spec_l1New_l : leftS Tryd.prog CF G.spec_l1New Tryd.f12 = some T.spec_l1New := by kernel_rfl
theorem T.spec_l1New_scon {ins outs : List AV} (hl : ins.length = 1) (ho : outs.length = 3) (hn : AV.norefs ins = true) (hw : wpT Tryd.prog (fun _ _ _ => False) (fun a => a = packR outs) T.spec_l1New ins []) : SCon Tryd.prog F.spec_l1New G.spec_l1New ins outs :=
  scon_auto Tryd.func12 T.spec_l1New_l hl hn ho hw
def T.spec_l4DrawAny : T :=
.op (.scall F.spec_l4Draw G.spec_l4Draw [(.x 0), (.x 1), (.x 2), (.c (.v (.int .i64 4))), (.c (.v (.int .i64 3)))]) (
.chk (.one (.ext 3 0)) (
.chk (.one (.ext 3 4)) (
.chk (.one (.ext 3 5)) (
.bind 7 (
 .op (.scall F.spec_l1Below G.spec_l1Below [(.ext 3 1), (.ext 3 2), (.ext 3 3), (.c (.v (.int .i64 12)))]) (
 .op (.bin .eql (.ext 4 0) (.c (.v (.int .i64 0)))) (
 .ite (.x 5)
  (.chk (.one (.c (.v (.int .i64 (-1))))) (
  .chk (.one (.c (.v (.int .i64 1)))) (
  .op (.mkl (.v (.int .i64 0)) 2 [(0, (.c (.v (.int .i64 (-1))))), (1, (.c (.v (.int .i64 1))))]) (
  .op (.scall F.spec_l1Int G.spec_l1Int [(.ext 4 1), (.ext 4 2), (.ext 4 3), (.sl (.x 6))]) (
  .chk (.one (.ext 7 0)) (
  .jump [(.ext 7 1), (.ext 7 2), (.ext 7 3), (.ext 3 6), (.ext 3 0), (.ext 7 0), (.ext 3 5)]))))))
  (.op (.bin .eql (.ext 4 0) (.c (.v (.int .i64 1)))) (
  .ite (.x 6)
   (.chk (.one (.c (.v (.int .i64 1)))) (
   .chk (.cells (.agg [(.c (.v (.int .i64 1))), (.c (.v (.int .i64 0))), (.c (.v (.string ⟨#[]⟩))), (.c .nils)]) 4) (
   .op (.mkl (.agg [(.v (.int .i64 0)), (.v (.int .i64 0)), (.v (.string ⟨#[]⟩)), .nils]) 1 [(0, (.agg [(.c (.v (.int .i64 1))), (.c (.v (.int .i64 0))), (.c (.v (.string ⟨#[]⟩))), (.c .nils)]))]) (
   .op (.app 4 56 (.ext 3 6) (.sl (.x 7))) (
   .jump [(.ext 4 1), (.ext 4 2), (.ext 4 3), (.x 8), (.ext 3 0), (.ext 3 4), (.ext 3 5)])))))
   (.op (.bin .eql (.ext 4 0) (.c (.v (.int .i64 2)))) (
   .ite (.x 7)
    (.chk (.one (.c (.v (.int .i64 0)))) (
    .chk (.one (.c (.v (.int .i64 5)))) (
    .chk (.one (.c (.v (.int .i64 7)))) (
    .chk (.one (.c (.v (.int .i64 9)))) (
    .chk (.one (.c (.v (.int .i64 12)))) (
    .op (.mkl (.v (.int .i64 0)) 5 [(0, (.c (.v (.int .i64 0)))), (1, (.c (.v (.int .i64 5)))), (2, (.c (.v (.int .i64 7)))), (3, (.c (.v (.int .i64 9)))), (4, (.c (.v (.int .i64 12))))]) (
    .op (.scall F.spec_l1Int G.spec_l1Int [(.ext 4 1), (.ext 4 2), (.ext 4 3), (.sl (.x 8))]) (
    .chk (.one (.ext 9 0)) (
    .jump [(.ext 9 1), (.ext 9 2), (.ext 9 3), (.ext 3 6), (.ext 9 0), (.ext 3 4), (.ext 3 5)])))))))))
    (.op (.bin .eql (.ext 4 0) (.c (.v (.int .i64 3)))) (
    .ite (.x 8)
     (.chk (.one (.c (.v (.string ⟨#[]⟩)))) (
     .chk (.one (.c (.v (.string ⟨#[120]⟩)))) (
     .chk (.one (.c (.v (.string ⟨#[76, 101, 116]⟩)))) (
     .op (.mkl (.v (.string ⟨#[]⟩)) 3 [(0, (.c (.v (.string ⟨#[]⟩)))), (1, (.c (.v (.string ⟨#[120]⟩)))), (2, (.c (.v (.string ⟨#[76, 101, 116]⟩))))]) (
     .op (.scall F.spec_l1Str G.spec_l1Str [(.ext 4 1), (.ext 4 2), (.ext 4 3), (.sl (.x 9))]) (
     .chk (.one (.ext 10 0)) (
     .jump [(.ext 10 1), (.ext 10 2), (.ext 10 3), (.ext 3 6), (.ext 3 0), (.ext 3 4), (.ext 10 0)])))))))
     (.jump [(.ext 4 1), (.ext 4 2), (.ext 4 3), (.ext 3 6), (.ext 3 0), (.ext 3 4), (.ext 3 5)])))))))))) (
.chk (.one (.x 8)) (
.chk (.one (.x 9)) (
.chk (.one (.x 10)) (
.ret [(.agg [(.x 8), (.x 9), (.x 10), (.sl (.x 7))]), (.x 4), (.x 5), (.x 6)]))))))))
theorem T.spec_l4DrawAny_l : leftS Tryd.prog CF G.spec_l4DrawAny Tryd.f13 = some T.spec_l4DrawAny := by kernel_rfl
theorem T.spec_l4DrawAny_scon {ins outs : List AV} (hl : ins.length = 3) (ho : outs.length = 4) (hn : AV.norefs ins = true) (hw : wpT Tryd.prog (fun _ _ _ => False) (fun a => a = packR outs) T.spec_l4DrawAny ins []) : SCon Tryd.prog F.spec_l4DrawAny G.spec_l4DrawAny ins outs :=
  scon_auto Tryd.func13 T.spec_l4DrawAny_l hl hn ho hw
def T.spec_l1Below : T :=
.op (.bin .leq (.x 3) (.c (.v (.int .i64 0)))) (
.ite (.x 4)
 (.ret [(.c (.v (.int .i64 0))), (.x 0), (.x 1), (.x 2)])
 (.op (.bin .leq (.x 3) (.c (.v (.int .i64 256)))) (
 .ite (.x 5)
  (.op (.scall F.spec_l1Byte G.spec_l1Byte [(.x 0), (.x 1), (.x 2)]) (
  .op (.bin .rem (.ext 6 0) (.x 3)) (
  .ret [(.x 7), (.ext 6 1), (.ext 6 2), (.ext 6 3)])))
  (.op (.scall F.spec_l1Byte G.spec_l1Byte [(.x 0), (.x 1), (.x 2)]) (
  .op (.scall F.spec_l1Byte G.spec_l1Byte [(.ext 6 1), (.ext 6 2), (.ext 6 3)]) (
  .op (.scall F.spec_l1Byte G.spec_l1Byte [(.ext 7 1), (.ext 7 2), (.ext 7 3)]) (
  .op (.bin .mul (.ext 6 0) (.c (.v (.int .i64 65536)))) (
  .op (.bin .mul (.ext 7 0) (.c (.v (.int .i64 256)))) (
  .op (.bin .add (.x 9) (.x 10)) (
  .op (.bin .add (.x 11) (.ext 8 0)) (
  .op (.bin .rem (.x 12) (.x 3)) (
  .ret [(.x 13), (.ext 8 1), (.ext 8 2), (.ext 8 3)]))))))))))))
theorem T.spec_l1Below_l : leftS Tryd.prog CF G.spec_l1Below Tryd.f14 = some T.spec_l1Below := by kernel_rfl
theorem T.spec_l1Below_scon {ins outs : List AV} (hl : ins.length = 4) (ho : outs.length = 4) (hn : AV.norefs ins = true) (hw : wpT Tryd.prog (fun _ _ _ => False) (fun a => a = packR outs) T.spec_l1Below ins []) : SCon Tryd.prog F.spec_l1Below G.spec_l1Below ins outs :=
  scon_auto Tryd.func14 T.spec_l1Below_l hl hn ho hw
def T.spec_l4Draw : T :=
.bind 3 (
 .bind 4 (
  .op (.bin .leq (.x 3) (.c (.v (.int .i64 0)))) (
  .ite (.x 5)
   (.jump [(.x 0), (.x 1), (.x 2), (.c (.v (.bool true)))])
   (.op (.scall F.spec_l1Once G.spec_l1Once [(.x 0), (.x 1), (.x 2), (.c (.v (.int .i64 4)))]) (
   .jump [(.ext 6 1), (.ext 6 2), (.ext 6 3), (.ext 6 0)])))) (
 .ite (.x 8)
  (.bind 3 (
   .op (.scall F.spec_l1Below G.spec_l1Below [(.x 5), (.x 6), (.x 7), (.c (.v (.int .i64 8)))]) (
   .bind 1 (
    .op (.bin .eql (.ext 9 0) (.c (.v (.int .i64 0)))) (
    .ite (.x 10)
     (.jump [(.x 10)])
     (.op (.bin .eql (.ext 9 0) (.c (.v (.int .i64 1)))) (
     .ite (.x 11)
      (.jump [(.x 11)])
      (.op (.bin .eql (.ext 9 0) (.c (.v (.int .i64 2)))) (
      .ite (.x 12)
       (.jump [(.x 12)])
       (.op (.bin .eql (.ext 9 0) (.c (.v (.int .i64 3)))) (
       .jump [(.x 13)])))))))) (
   .ite (.x 10)
    (.op (.bin .gtr (.x 4) (.c (.v (.int .i64 0)))) (
    .ite (.x 11)
     (.op (.scall F.spec_l1Below G.spec_l1Below [(.ext 9 1), (.ext 9 2), (.ext 9 3), (.x 4)]) (
     .chk (.one (.c (.v (.int .i64 11)))) (
     .chk (.one (.ext 12 0)) (
     .chk (.cells (.agg [(.c (.v (.int .i64 11))), (.ext 12 0), (.c (.v (.string ⟨#[]⟩))), (.c .nils)]) 4) (
     .esc (.esc (.ret [(.c (.v (.int .i64 11))), (.ext 12 1), (.ext 12 2), (.ext 12 3), (.ext 12 0), (.c (.v (.string ⟨#[]⟩))), (.c (.sl []))])))))))
     (.jump [(.ext 9 1), (.ext 9 2), (.ext 9 3)])))
    (.op (.bin .eql (.ext 9 0) (.c (.v (.int .i64 4)))) (
    .ite (.x 11)
     (.op (.scall F.spec_l1Below G.spec_l1Below [(.ext 9 1), (.ext 9 2), (.ext 9 3), (.c (.v (.int .i64 2)))]) (
     .chk (.one (.c (.v (.int .i64 9)))) (
     .chk (.one (.ext 12 0)) (
     .chk (.cells (.agg [(.c (.v (.int .i64 9))), (.ext 12 0), (.c (.v (.string ⟨#[]⟩))), (.c .nils)]) 4) (
     .esc (.esc (.ret [(.c (.v (.int .i64 9))), (.ext 12 1), (.ext 12 2), (.ext 12 3), (.ext 12 0), (.c (.v (.string ⟨#[]⟩))), (.c (.sl []))])))))))
     (.op (.bin .eql (.ext 9 0) (.c (.v (.int .i64 5)))) (
     .ite (.x 12)
      (.op (.scall F.spec_l1Below G.spec_l1Below [(.ext 9 1), (.ext 9 2), (.ext 9 3), (.c (.v (.int .i64 2)))]) (
      .chk (.one (.c (.v (.int .i64 10)))) (
      .chk (.one (.ext 13 0)) (
      .chk (.cells (.agg [(.c (.v (.int .i64 10))), (.ext 13 0), (.c (.v (.string ⟨#[]⟩))), (.c .nils)]) 4) (
      .esc (.esc (.ret [(.c (.v (.int .i64 10))), (.ext 13 1), (.ext 13 2), (.ext 13 3), (.ext 13 0), (.c (.v (.string ⟨#[]⟩))), (.c (.sl []))])))))))
      (.jump [(.ext 9 1), (.ext 9 2), (.ext 9 3)])))))))) (
  .op (.scall F.spec_l1Below G.spec_l1Below [(.x 9), (.x 10), (.x 11), (.c (.v (.int .i64 4)))]) (
  .op (.bin .add (.c (.v (.int .i64 1))) (.ext 12 0)) (
  .chk (.one (.x 13)) (
  .chk (.cells (.agg [(.x 13), (.c (.v (.int .i64 0))), (.c (.v (.string ⟨#[]⟩))), (.c .nils)]) 4) (
  .esc (.ret [(.x 13), (.ext 12 1), (.ext 12 2), (.ext 12 3), (.c (.v (.int .i64 0))), (.c (.v (.string ⟨#[]⟩))), (.c (.sl []))])))))))
  (.jump [(.x 5), (.x 6), (.x 7)]))) (
.op (.scall F.spec_l1Below G.spec_l1Below [(.x 5), (.x 6), (.x 7), (.c (.v (.int .i64 4)))]) (
.op (.bin .add (.c (.v (.int .i64 5))) (.ext 8 0)) (
.chk (.one (.x 9)) (
.chk (.cells (.agg [(.x 9), (.c (.v (.int .i64 0))), (.c (.v (.string ⟨#[]⟩))), (.c .nils)]) 4) (
.bind 5 (
 .op (.bin .eql (.x 9) (.c (.v (.int .i64 6)))) (
 .ite (.x 10)
  (.op (.scall F.spec_l1Below G.spec_l1Below [(.ext 8 1), (.ext 8 2), (.ext 8 3), (.c (.v (.int .i64 2)))]) (
  .op (.bin .add (.c (.v (.int .i64 2))) (.ext 11 0)) (
  .jump [(.ext 11 1), (.ext 11 2), (.ext 11 3), (.c (.v (.string ⟨#[]⟩))), (.x 12)])))
  (.op (.bin .eql (.x 9) (.c (.v (.int .i64 7)))) (
  .ite (.x 11)
   (.chk (.one (.c (.v (.string ⟨#[116]⟩)))) (
   .chk (.one (.c (.v (.string ⟨#[108, 105, 115, 116]⟩)))) (
   .chk (.one (.c (.v (.string ⟨#[117]⟩)))) (
   .op (.mkl (.v (.string ⟨#[]⟩)) 3 [(0, (.c (.v (.string ⟨#[116]⟩)))), (1, (.c (.v (.string ⟨#[108, 105, 115, 116]⟩)))), (2, (.c (.v (.string ⟨#[117]⟩))))]) (
   .op (.scall F.spec_l1Str G.spec_l1Str [(.ext 8 1), (.ext 8 2), (.ext 8 3), (.sl (.x 12))]) (
   .chk (.one (.ext 13 0)) (
   .op (.scall F.spec_l1Below G.spec_l1Below [(.ext 13 1), (.ext 13 2), (.ext 13 3), (.c (.v (.int .i64 3)))]) (
   .jump [(.ext 14 1), (.ext 14 2), (.ext 14 3), (.ext 13 0), (.ext 14 0)]))))))))
   (.op (.bin .eql (.x 9) (.c (.v (.int .i64 8)))) (
   .ite (.x 12)
    (.jump [(.ext 8 1), (.ext 8 2), (.ext 8 3), (.c (.v (.string ⟨#[]⟩))), (.c (.v (.int .i64 1)))])
    (.jump [(.ext 8 1), (.ext 8 2), (.ext 8 3), (.c (.v (.string ⟨#[]⟩))), (.c (.v (.int .i64 2)))]))))))) (
.bind 4 (
 .loop [(.x 10), (.x 11), (.x 12), (.c (.sl [])), (.c (.v (.int .i64 0)))] (
  .op (.bin .lss (.x 19) (.x 14)) (
  .ite (.x 20)
   (.op (.bin .sub (.x 3) (.c (.v (.int .i64 1)))) (
   .op (.scall F.spec_l4Draw G.spec_l4Draw_s1 [(.x 15), (.x 16), (.x 17), (.x 21), (.x 4)]) (
   .chk (.cells (.ext 22 0) 4) (
   .op (.mkl (.agg [(.v (.int .i64 0)), (.v (.int .i64 0)), (.v (.string ⟨#[]⟩)), .nils]) 1 [(0, (.ext 22 0))]) (
   .op (.app 4 56 (.x 18) (.x 23)) (
   .op (.bin .add (.x 19) (.c (.v (.int .i64 1)))) (
   .jump [(.ext 22 1), (.ext 22 2), (.ext 22 3), (.x 24), (.x 25)])))))))
   (.esc (.jump [(.x 15), (.x 16), (.x 17), (.x 18)]))))) (
.chk (.one (.x 9)) (
.chk (.one (.c (.v (.int .i64 0)))) (
.chk (.one (.x 13)) (
.ret [(.x 9), (.x 15), (.x 16), (.x 17), (.c (.v (.int .i64 0))), (.x 13), (.x 18)]))))))))))
theorem T.spec_l4Draw_l : leftS Tryd.prog CF G.spec_l4Draw Tryd.f15 = some T.spec_l4Draw := by kernel_rfl
theorem T.spec_l4Draw_scon {ins outs : List AV} (hl : ins.length = 5) (ho : outs.length = 7) (hn : AV.norefs ins = true) (hw : wpT Tryd.prog (fun _ _ _ => False) (fun a => a = packR outs) T.spec_l4Draw ins []) : SCon Tryd.prog F.spec_l4Draw G.spec_l4Draw ins outs :=
  scon_auto Tryd.func15 T.spec_l4Draw_l hl hn ho hw
def T.spec_l4Draw_s1 : T :=
.bind 3 (
 .bind 4 (
  .op (.bin .leq (.x 3) (.c (.v (.int .i64 0)))) (
  .ite (.x 5)
   (.jump [(.x 0), (.x 1), (.x 2), (.c (.v (.bool true)))])
   (.op (.scall F.spec_l1Once G.spec_l1Once [(.x 0), (.x 1), (.x 2), (.c (.v (.int .i64 4)))]) (
   .jump [(.ext 6 1), (.ext 6 2), (.ext 6 3), (.ext 6 0)])))) (
 .ite (.x 8)
  (.bind 3 (
   .op (.scall F.spec_l1Below G.spec_l1Below [(.x 5), (.x 6), (.x 7), (.c (.v (.int .i64 8)))]) (
   .bind 1 (
    .op (.bin .eql (.ext 9 0) (.c (.v (.int .i64 0)))) (
    .ite (.x 10)
     (.jump [(.x 10)])
     (.op (.bin .eql (.ext 9 0) (.c (.v (.int .i64 1)))) (
     .ite (.x 11)
      (.jump [(.x 11)])
      (.op (.bin .eql (.ext 9 0) (.c (.v (.int .i64 2)))) (
      .ite (.x 12)
       (.jump [(.x 12)])
       (.op (.bin .eql (.ext 9 0) (.c (.v (.int .i64 3)))) (
       .jump [(.x 13)])))))))) (
   .ite (.x 10)
    (.op (.bin .gtr (.x 4) (.c (.v (.int .i64 0)))) (
    .ite (.x 11)
     (.op (.scall F.spec_l1Below G.spec_l1Below [(.ext 9 1), (.ext 9 2), (.ext 9 3), (.x 4)]) (
     .chk (.one (.c (.v (.int .i64 11)))) (
     .chk (.one (.ext 12 0)) (
     .chk (.cells (.agg [(.c (.v (.int .i64 11))), (.ext 12 0), (.c (.v (.string ⟨#[]⟩))), (.c .nils)]) 4) (
     .esc (.esc (.ret [(.agg [(.c (.v (.int .i64 11))), (.ext 12 0), (.c (.v (.string ⟨#[]⟩))), (.c .nils)]), (.ext 12 1), (.ext 12 2), (.ext 12 3)])))))))
     (.jump [(.ext 9 1), (.ext 9 2), (.ext 9 3)])))
    (.op (.bin .eql (.ext 9 0) (.c (.v (.int .i64 4)))) (
    .ite (.x 11)
     (.op (.scall F.spec_l1Below G.spec_l1Below [(.ext 9 1), (.ext 9 2), (.ext 9 3), (.c (.v (.int .i64 2)))]) (
     .chk (.one (.c (.v (.int .i64 9)))) (
     .chk (.one (.ext 12 0)) (
     .chk (.cells (.agg [(.c (.v (.int .i64 9))), (.ext 12 0), (.c (.v (.string ⟨#[]⟩))), (.c .nils)]) 4) (
     .esc (.esc (.ret [(.agg [(.c (.v (.int .i64 9))), (.ext 12 0), (.c (.v (.string ⟨#[]⟩))), (.c .nils)]), (.ext 12 1), (.ext 12 2), (.ext 12 3)])))))))
     (.op (.bin .eql (.ext 9 0) (.c (.v (.int .i64 5)))) (
     .ite (.x 12)
      (.op (.scall F.spec_l1Below G.spec_l1Below [(.ext 9 1), (.ext 9 2), (.ext 9 3), (.c (.v (.int .i64 2)))]) (
      .chk (.one (.c (.v (.int .i64 10)))) (
      .chk (.one (.ext 13 0)) (
      .chk (.cells (.agg [(.c (.v (.int .i64 10))), (.ext 13 0), (.c (.v (.string ⟨#[]⟩))), (.c .nils)]) 4) (
      .esc (.esc (.ret [(.agg [(.c (.v (.int .i64 10))), (.ext 13 0), (.c (.v (.string ⟨#[]⟩))), (.c .nils)]), (.ext 13 1), (.ext 13 2), (.ext 13 3)])))))))
      (.jump [(.ext 9 1), (.ext 9 2), (.ext 9 3)])))))))) (
  .op (.scall F.spec_l1Below G.spec_l1Below [(.x 9), (.x 10), (.x 11), (.c (.v (.int .i64 4)))]) (
  .op (.bin .add (.c (.v (.int .i64 1))) (.ext 12 0)) (
  .chk (.one (.x 13)) (
  .chk (.cells (.agg [(.x 13), (.c (.v (.int .i64 0))), (.c (.v (.string ⟨#[]⟩))), (.c .nils)]) 4) (
  .esc (.ret [(.agg [(.x 13), (.c (.v (.int .i64 0))), (.c (.v (.string ⟨#[]⟩))), (.c .nils)]), (.ext 12 1), (.ext 12 2), (.ext 12 3)])))))))
  (.jump [(.x 5), (.x 6), (.x 7)]))) (
.op (.scall F.spec_l1Below G.spec_l1Below [(.x 5), (.x 6), (.x 7), (.c (.v (.int .i64 4)))]) (
.op (.bin .add (.c (.v (.int .i64 5))) (.ext 8 0)) (
.chk (.one (.x 9)) (
.chk (.cells (.agg [(.x 9), (.c (.v (.int .i64 0))), (.c (.v (.string ⟨#[]⟩))), (.c .nils)]) 4) (
.bind 5 (
 .op (.bin .eql (.x 9) (.c (.v (.int .i64 6)))) (
 .ite (.x 10)
  (.op (.scall F.spec_l1Below G.spec_l1Below [(.ext 8 1), (.ext 8 2), (.ext 8 3), (.c (.v (.int .i64 2)))]) (
  .op (.bin .add (.c (.v (.int .i64 2))) (.ext 11 0)) (
  .jump [(.ext 11 1), (.ext 11 2), (.ext 11 3), (.c (.v (.string ⟨#[]⟩))), (.x 12)])))
  (.op (.bin .eql (.x 9) (.c (.v (.int .i64 7)))) (
  .ite (.x 11)
   (.chk (.one (.c (.v (.string ⟨#[116]⟩)))) (
   .chk (.one (.c (.v (.string ⟨#[108, 105, 115, 116]⟩)))) (
   .chk (.one (.c (.v (.string ⟨#[117]⟩)))) (
   .op (.mkl (.v (.string ⟨#[]⟩)) 3 [(0, (.c (.v (.string ⟨#[116]⟩)))), (1, (.c (.v (.string ⟨#[108, 105, 115, 116]⟩)))), (2, (.c (.v (.string ⟨#[117]⟩))))]) (
   .op (.scall F.spec_l1Str G.spec_l1Str [(.ext 8 1), (.ext 8 2), (.ext 8 3), (.sl (.x 12))]) (
   .chk (.one (.ext 13 0)) (
   .op (.scall F.spec_l1Below G.spec_l1Below [(.ext 13 1), (.ext 13 2), (.ext 13 3), (.c (.v (.int .i64 3)))]) (
   .jump [(.ext 14 1), (.ext 14 2), (.ext 14 3), (.ext 13 0), (.ext 14 0)]))))))))
   (.op (.bin .eql (.x 9) (.c (.v (.int .i64 8)))) (
   .ite (.x 12)
    (.jump [(.ext 8 1), (.ext 8 2), (.ext 8 3), (.c (.v (.string ⟨#[]⟩))), (.c (.v (.int .i64 1)))])
    (.jump [(.ext 8 1), (.ext 8 2), (.ext 8 3), (.c (.v (.string ⟨#[]⟩))), (.c (.v (.int .i64 2)))]))))))) (
.bind 4 (
 .loop [(.x 10), (.x 11), (.x 12), (.c (.sl [])), (.c (.v (.int .i64 0)))] (
  .op (.bin .lss (.x 19) (.x 14)) (
  .ite (.x 20)
   (.op (.bin .sub (.x 3) (.c (.v (.int .i64 1)))) (
   .op (.scall F.spec_l4Draw G.spec_l4Draw_s1 [(.x 15), (.x 16), (.x 17), (.x 21), (.x 4)]) (
   .chk (.cells (.ext 22 0) 4) (
   .op (.mkl (.agg [(.v (.int .i64 0)), (.v (.int .i64 0)), (.v (.string ⟨#[]⟩)), .nils]) 1 [(0, (.ext 22 0))]) (
   .op (.app 4 56 (.x 18) (.x 23)) (
   .op (.bin .add (.x 19) (.c (.v (.int .i64 1)))) (
   .jump [(.ext 22 1), (.ext 22 2), (.ext 22 3), (.x 24), (.x 25)])))))))
   (.esc (.jump [(.x 15), (.x 16), (.x 17), (.x 18)]))))) (
.chk (.one (.x 9)) (
.chk (.one (.c (.v (.int .i64 0)))) (
.chk (.one (.x 13)) (
.ret [(.agg [(.x 9), (.c (.v (.int .i64 0))), (.x 13), (.sl (.x 18))]), (.x 15), (.x 16), (.x 17)]))))))))))
theorem T.spec_l4Draw_s1_l : leftS Tryd.prog CF G.spec_l4Draw_s1 Tryd.f15 = some T.spec_l4Draw_s1 := by kernel_rfl
theorem T.spec_l4Draw_s1_scon {ins outs : List AV} (hl : ins.length = 5) (ho : outs.length = 4) (hn : AV.norefs ins = true) (hw : wpT Tryd.prog (fun _ _ _ => False) (fun a => a = packR outs) T.spec_l4Draw_s1 ins []) : SCon Tryd.prog F.spec_l4Draw G.spec_l4Draw_s1 ins outs :=
  scon_auto Tryd.func15 T.spec_l4Draw_s1_l hl hn ho hw
def T.spec_l1Int : T :=
.op (.lenL (.x 3)) (
.op (.scall F.spec_l1Below G.spec_l1Below [(.x 0), (.x 1), (.x 2), (.x 4)]) (
.op (.elem 1 (.x 3) (.ext 5 0)) (
.chk (.lt (.x 6) 0) (
.ret [(.cell 6 0), (.ext 5 1), (.ext 5 2), (.ext 5 3)]))))
theorem T.spec_l1Int_l : leftS Tryd.prog CF G.spec_l1Int Tryd.f16 = some T.spec_l1Int := by kernel_rfl
theorem T.spec_l1Int_scon {ins outs : List AV} (hl : ins.length = 4) (ho : outs.length = 4) (hn : AV.norefs ins = true) (hw : wpT Tryd.prog (fun _ _ _ => False) (fun a => a = packR outs) T.spec_l1Int ins []) : SCon Tryd.prog F.spec_l1Int G.spec_l1Int ins outs :=
  scon_auto Tryd.func16 T.spec_l1Int_l hl hn ho hw
def T.spec_l4Node : T :=
.chk (.cells (.x 0) 4) (
.op (.lenL (.cell 0 3)) (
.bind 0 (
 .bind 1 (
  .op (.bin .neq (.cell 0 0) (.c (.v (.int .i64 7)))) (
  .ite (.x 2)
   (.op (.bin .neq (.cell 0 2) (.c (.v (.string ⟨#[]⟩)))) (
   .ite (.x 3)
    (.jump [(.c (.v (.bool true)))])
    (.op (.bin .lss (.cell 0 0) (.c (.v (.int .i64 9)))) (
    .ite (.x 4)
     (.op (.bin .neq (.cell 0 1) (.c (.v (.int .i64 0)))) (
     .jump [(.x 5)]))
     (.jump [(.c (.v (.bool false)))])))))
   (.op (.bin .lss (.cell 0 0) (.c (.v (.int .i64 9)))) (
   .ite (.x 3)
    (.op (.bin .neq (.cell 0 1) (.c (.v (.int .i64 0)))) (
    .jump [(.x 4)]))
    (.jump [(.c (.v (.bool false)))]))))) (
 .ite (.x 2)
  (.esc (.ret [(.c (.v (.bool false)))]))
  (.jump []))) (
.bind 0 (
 .bind 1 (
  .op (.bin .eql (.cell 0 0) (.c (.v (.int .i64 1)))) (
  .ite (.x 2)
   (.jump [(.x 2)])
   (.op (.bin .eql (.cell 0 0) (.c (.v (.int .i64 2)))) (
   .ite (.x 3)
    (.jump [(.x 3)])
    (.op (.bin .eql (.cell 0 0) (.c (.v (.int .i64 3)))) (
    .ite (.x 4)
     (.jump [(.x 4)])
     (.op (.bin .eql (.cell 0 0) (.c (.v (.int .i64 4)))) (
     .jump [(.x 5)])))))))) (
 .ite (.x 2)
  (.op (.bin .eql (.x 1) (.c (.v (.int .i64 0)))) (
  .esc (.ret [(.x 3)])))
  (.op (.bin .eql (.cell 0 0) (.c (.v (.int .i64 5)))) (
  .ite (.x 3)
   (.op (.bin .eql (.x 1) (.c (.v (.int .i64 2)))) (
   .esc (.ret [(.x 4)])))
   (.op (.bin .eql (.cell 0 0) (.c (.v (.int .i64 6)))) (
   .ite (.x 4)
    (.op (.bin .geq (.x 1) (.c (.v (.int .i64 2)))) (
    .esc (.ret [(.x 5)])))
    (.op (.bin .eql (.cell 0 0) (.c (.v (.int .i64 7)))) (
    .ite (.x 5)
     (.op (.call F.spec_l1Low [(.cell 0 2)] false) (
     .esc (.ret [(.x 6)])))
     (.op (.bin .eql (.cell 0 0) (.c (.v (.int .i64 8)))) (
     .ite (.x 6)
      (.op (.bin .eql (.x 1) (.c (.v (.int .i64 1)))) (
      .esc (.ret [(.x 7)])))
      (.bind 1 (
       .op (.bin .eql (.cell 0 0) (.c (.v (.int .i64 9)))) (
       .ite (.x 7)
        (.jump [(.x 7)])
        (.op (.bin .eql (.cell 0 0) (.c (.v (.int .i64 10)))) (
        .ite (.x 8)
         (.jump [(.x 8)])
         (.op (.bin .eql (.cell 0 0) (.c (.v (.int .i64 11)))) (
         .jump [(.x 9)])))))) (
      .ite (.x 7)
       (.bind 1 (
        .op (.bin .eql (.x 1) (.c (.v (.int .i64 0)))) (
        .ite (.x 8)
         (.op (.bin .geq (.cell 0 1) (.c (.v (.int .i64 0)))) (
         .jump [(.x 9)]))
         (.jump [(.c (.v (.bool false)))]))) (
       .esc (.ret [(.x 8)])))
       (.jump []))))))))))))) (
.ret [(.c (.v (.bool false)))]))))
theorem T.spec_l4Node_l : leftF Tryd.prog CF Tryd.f17 = some (1, T.spec_l4Node) := by kernel_rfl
theorem T.spec_l4Node_con {args : List AV} {res : AV} (hl : args.length = 1) (hn : AV.norefs args = true) (hw : wpT Tryd.prog (fun _ _ _ => False) (fun a => a = res) T.spec_l4Node args []) : PCon Tryd.prog F.spec_l4Node args res :=
  con_auto Tryd.func17 T.spec_l4Node_l hl hn hw
def T.slices_EqualFunc__impl_Ty__impl_Ty_impl_Ty_impl_Ty : T :=
.op (.lenL (.x 0)) (
.op (.lenL (.x 1)) (
.op (.bin .neq (.x 3) (.x 4)) (
.ite (.x 5)
 (.ret [(.c (.v (.bool false)))])
 (.bind 0 (
  .op (.lenL (.x 0)) (
  .loop [(.c (.v (.int .i64 0)))] (
   .op (.bin .lss (.x 7) (.x 6)) (
   .ite (.x 8)
    (.op (.elem 4 (.x 0) (.x 7)) (
    .chk (.cells (.x 9) 4) (
    .chk (.cells (.x 9) 4) (
    .op (.elem 4 (.x 1) (.x 7)) (
    .chk (.cells (.x 10) 4) (
    .chk (.cells (.x 10) 4) (
    .chk (.cells (.x 9) 4) (
    .chk (.cells (.x 10) 4) (
    .op (.callv (.x 2) [(.x 9), (.x 10)] false) (
    .op (.un .not (.x 11)) (
    .ite (.x 12)
     (.esc (.esc (.ret [(.c (.v (.bool false)))])))
     (.op (.bin .add (.x 7) (.c (.v (.int .i64 1)))) (
     .jump [(.x 13)])))))))))))))
    (.esc (.jump [])))))) (
 .ret [(.c (.v (.bool true)))])))))
theorem T.slices_EqualFunc__impl_Ty__impl_Ty_impl_Ty_impl_Ty_l : leftF Tryd.prog CF Tryd.f18 = some (3, T.slices_EqualFunc__impl_Ty__impl_Ty_impl_Ty_impl_Ty) := by kernel_rfl
theorem T.slices_EqualFunc__impl_Ty__impl_Ty_impl_Ty_impl_Ty_con {args : List AV} {res : AV} (hl : args.length = 3) (hn : AV.norefs args = true) (hw : wpT Tryd.prog (fun _ _ _ => False) (fun a => a = res) T.slices_EqualFunc__impl_Ty__impl_Ty_impl_Ty_impl_Ty args []) : PCon Tryd.prog F.slices_EqualFunc__impl_Ty__impl_Ty_impl_Ty_impl_Ty args res :=
  con_auto Tryd.func18 T.slices_EqualFunc__impl_Ty__impl_Ty_impl_Ty_impl_Ty_l hl hn hw
def T.impl_isVarKind : T :=
.op (.call F.impl_within [(.x 0), (.c (.v (.int .i64 9))), (.c (.v (.int .i64 11)))] false) (
.ret [(.x 1)])
theorem T.impl_isVarKind_l : leftF Tryd.prog CF Tryd.f19 = some (1, T.impl_isVarKind) := by kernel_rfl
theorem T.impl_isVarKind_con {args : List AV} {res : AV} (hl : args.length = 1) (hn : AV.norefs args = true) (hw : wpT Tryd.prog (fun _ _ _ => False) (fun a => a = res) T.impl_isVarKind args []) : PCon Tryd.prog F.impl_isVarKind args res :=
  con_auto Tryd.func19 T.impl_isVarKind_l hl hn hw
def T.impl_TyOk : T :=
.chk (.cells (.x 0) 4) (
.bind 1 (
 .chk (.cells (.x 0) 4) (
 .op (.call F.impl_tyHeadOk [(.x 0)] false) (
 .ite (.x 1)
  (.op (.call F.slices_ContainsFunc__impl_Ty_impl_Ty [(.cell 0 3), (.c (.fn F.impl_TyOk_1 []))] false) (
  .op (.un .not (.x 2)) (
  .jump [(.x 3)])))
  (.jump [(.c (.v (.bool false)))])))) (
.ret [(.x 1)]))
theorem T.impl_TyOk_l : leftF Tryd.prog CF Tryd.f20 = some (1, T.impl_TyOk) := by kernel_rfl
theorem T.impl_TyOk_con {args : List AV} {res : AV} (hl : args.length = 1) (hn : AV.norefs args = true) (hw : wpT Tryd.prog (fun _ _ _ => False) (fun a => a = res) T.impl_TyOk args []) : PCon Tryd.prog F.impl_TyOk args res :=
  con_auto Tryd.func20 T.impl_TyOk_l hl hn hw
def T.impl_typeForm : T :=
.chk (.cells (.x 0) 4) (
.op (.bin .eql (.cell 0 0) (.c (.v (.int .i64 3)))) (
.ite (.x 2)
 (.op (.elem 4 (.cell 0 3) (.c (.v (.int .i64 0)))) (
 .chk (.cells (.x 3) 4) (
 .op (.call F.impl_typeForm [(.x 3), (.c (.v (.int .i64 1)))] true) (
 .op (.bin .add (.x 4) (.c (.v (.string ⟨#[32, 45, 62, 32]⟩)))) (
 .op (.elem 4 (.cell 0 3) (.c (.v (.int .i64 1)))) (
 .chk (.cells (.x 6) 4) (
 .op (.call F.impl_typeForm [(.x 6), (.c (.v (.int .i64 0)))] true) (
 .op (.bin .add (.x 5) (.x 7)) (
 .op (.call F.impl_bracketed [(.x 8), (.c (.v (.int .i64 0))), (.x 1)] true) (
 .ret [(.x 9)]))))))))))
 (.op (.bin .eql (.cell 0 0) (.c (.v (.int .i64 4)))) (
 .ite (.x 3)
  (.op (.call F.impl_forms_impl_TypeExp [(.cell 0 3), (.c (.v (.int .i64 2))), (.c (.v (.string ⟨#[32, 42, 32]⟩))), (.c (.fn F.impl_typeForm []))] false) (
  .op (.call F.impl_bracketed [(.x 4), (.c (.v (.int .i64 1))), (.x 1)] false) (
  .ret [(.x 5)])))
  (.op (.bin .eql (.cell 0 0) (.c (.v (.int .i64 5)))) (
  .ite (.x 4)
   (.op (.elem 4 (.cell 0 3) (.c (.v (.int .i64 0)))) (
   .chk (.cells (.x 5) 4) (
   .op (.call F.impl_typeForm [(.x 5), (.c (.v (.int .i64 3)))] false) (
   .op (.bin .add (.c (.v (.string ⟨#[114, 101, 102, 32]⟩))) (.x 6)) (
   .op (.call F.impl_bracketed [(.x 7), (.c (.v (.int .i64 2))), (.x 1)] false) (
   .ret [(.x 8)]))))))
   (.op (.bin .eql (.cell 0 0) (.c (.v (.int .i64 2)))) (
   .ite (.x 5)
    (.op (.bin .add (.c (.v (.string ⟨#[39]⟩))) (.cell 0 1)) (
    .ret [(.x 6)]))
    (.op (.lenL (.cell 0 3)) (
    .op (.bin .eql (.x 6) (.c (.v (.int .i64 0)))) (
    .ite (.x 7)
     (.ret [(.cell 0 1)])
     (.op (.bin .add (.cell 0 1) (.c (.v (.string ⟨#[32]⟩)))) (
     .op (.call F.impl_forms_impl_TypeExp [(.cell 0 3), (.c (.v (.int .i64 3))), (.c (.v (.string ⟨#[32]⟩))), (.c (.fn F.impl_typeForm []))] true) (
     .op (.bin .add (.x 8) (.x 9)) (
     .op (.call F.impl_bracketed [(.x 10), (.c (.v (.int .i64 2))), (.x 1)] true) (
     .ret [(.x 11)]))))))))))))))))
theorem T.impl_typeForm_l : leftF Tryd.prog CF Tryd.f23 = some (2, T.impl_typeForm) := by kernel_rfl
theorem T.impl_typeForm_con {args : List AV} {res : AV} (hl : args.length = 2) (hn : AV.norefs args = true) (hw : wpT Tryd.prog (fun _ _ _ => False) (fun a => a = res) T.impl_typeForm args []) : PCon Tryd.prog F.impl_typeForm args res :=
  con_auto Tryd.func23 T.impl_typeForm_l hl hn hw
def T.impl_typeExpOf : T :=
.chk (.cells (.x 0) 4) (
.chk (.one (.c (.v (.int .i64 1)))) (
.chk (.one (.cell 0 2)) (
.chk (.cells (.agg [(.c (.v (.int .i64 1))), (.cell 0 2), (.c (.v (.int .i64 0))), (.c .nils)]) 4) (
.bind 1 (
 .op (.lenL (.cell 0 3)) (
 .loop [(.c (.sl [])), (.c (.v (.int .i64 0)))] (
  .op (.bin .lss (.x 3) (.x 1)) (
  .ite (.x 4)
   (.op (.elem 4 (.cell 0 3) (.x 3)) (
   .chk (.cells (.x 5) 4) (
   .chk (.cells (.x 5) 4) (
   .chk (.cells (.x 5) 4) (
   .op (.call F.impl_typeExpOf [(.x 5)] false) (
   .chk (.cells (.x 6) 4) (
   .op (.mkl (.agg [(.v (.int .i64 0)), (.v (.string ⟨#[]⟩)), (.v (.int .i64 0)), .nils]) 1 [(0, (.x 6))]) (
   .op (.app 4 56 (.x 2) (.x 7)) (
   .op (.bin .add (.x 3) (.c (.v (.int .i64 1)))) (
   .jump [(.x 8), (.x 9)]))))))))))
   (.esc (.jump [(.x 2)])))))) (
.bind 2 (
 .op (.bin .eql (.cell 0 0) (.c (.v (.int .i64 5)))) (
 .ite (.x 2)
  (.chk (.one (.c (.v (.int .i64 3)))) (
  .jump [(.c (.v (.int .i64 3))), (.cell 0 2)]))
  (.op (.bin .eql (.cell 0 0) (.c (.v (.int .i64 6)))) (
  .ite (.x 3)
   (.chk (.one (.c (.v (.int .i64 4)))) (
   .jump [(.c (.v (.int .i64 4))), (.cell 0 2)]))
   (.op (.bin .eql (.cell 0 0) (.c (.v (.int .i64 8)))) (
   .ite (.x 4)
    (.chk (.one (.c (.v (.int .i64 5)))) (
    .jump [(.c (.v (.int .i64 5))), (.cell 0 2)]))
    (.bind 1 (
     .op (.bin .eql (.cell 0 0) (.c (.v (.int .i64 9)))) (
     .ite (.x 5)
      (.jump [(.x 5)])
      (.op (.bin .eql (.cell 0 0) (.c (.v (.int .i64 10)))) (
      .ite (.x 6)
       (.jump [(.x 6)])
       (.op (.bin .eql (.cell 0 0) (.c (.v (.int .i64 11)))) (
       .jump [(.x 7)])))))) (
    .ite (.x 5)
     (.chk (.one (.c (.v (.int .i64 2)))) (
     .chk (.one (.c (.v (.string ⟨#[118]⟩)))) (
     .chk (.one (.c (.v (.string ⟨#[103]⟩)))) (
     .chk (.one (.c (.v (.string ⟨#[109]⟩)))) (
     .op (.mkl (.v (.string ⟨#[]⟩)) 3 [(0, (.c (.v (.string ⟨#[118]⟩)))), (1, (.c (.v (.string ⟨#[103]⟩)))), (2, (.c (.v (.string ⟨#[109]⟩))))]) (
     .op (.bin .sub (.cell 0 0) (.c (.v (.int .i64 9)))) (
     .op (.elem 1 (.x 6) (.x 7)) (
     .chk (.lt (.x 8) 0) (
     .op (.call F.strconv_Itoa [(.cell 0 1)] true) (
     .op (.bin .add (.cell 8 0) (.x 9)) (
     .chk (.one (.x 10)) (
     .jump [(.c (.v (.int .i64 2))), (.x 10)]))))))))))))
     (.bind 1 (
      .op (.bin .eql (.cell 0 0) (.c (.v (.int .i64 1)))) (
      .ite (.x 6)
       (.jump [(.x 6)])
       (.op (.bin .eql (.cell 0 0) (.c (.v (.int .i64 2)))) (
       .ite (.x 7)
        (.jump [(.x 7)])
        (.op (.bin .eql (.cell 0 0) (.c (.v (.int .i64 3)))) (
        .ite (.x 8)
         (.jump [(.x 8)])
         (.op (.bin .eql (.cell 0 0) (.c (.v (.int .i64 4)))) (
         .jump [(.x 9)])))))))) (
     .ite (.x 6)
      (.chk (.one (.c (.v (.string ⟨#[105, 110, 116]⟩)))) (
      .chk (.one (.c (.v (.string ⟨#[98, 111, 111, 108]⟩)))) (
      .chk (.one (.c (.v (.string ⟨#[117, 110, 105, 116]⟩)))) (
      .chk (.one (.c (.v (.string ⟨#[115, 116, 114]⟩)))) (
      .op (.mkl (.v (.string ⟨#[]⟩)) 4 [(0, (.c (.v (.string ⟨#[105, 110, 116]⟩)))), (1, (.c (.v (.string ⟨#[98, 111, 111, 108]⟩)))), (2, (.c (.v (.string ⟨#[117, 110, 105, 116]⟩)))), (3, (.c (.v (.string ⟨#[115, 116, 114]⟩))))]) (
      .op (.bin .sub (.cell 0 0) (.c (.v (.int .i64 1)))) (
      .chk (.idx (.x 7) (.x 8)) (
      .op (.get (.x 7) (.x 8) 0 none) (
      .chk (.one (.x 9)) (
      .jump [(.c (.v (.int .i64 1))), (.x 9)]))))))))))
      (.jump [(.c (.v (.int .i64 1))), (.cell 0 2)]))))))))))) (
.chk (.one (.x 2)) (
.chk (.one (.x 3)) (
.chk (.one (.c (.v (.int .i64 0)))) (
.ret [(.agg [(.x 2), (.x 3), (.c (.v (.int .i64 0))), (.sl (.x 1))])])))))))))
theorem T.impl_typeExpOf_l : leftF Tryd.prog CF Tryd.f24 = some (1, T.impl_typeExpOf) := by kernel_rfl
theorem T.impl_typeExpOf_con {args : List AV} {res : AV} (hl : args.length = 1) (hn : AV.norefs args = true) (hw : wpT Tryd.prog (fun _ _ _ => False) (fun a => a = res) T.impl_typeExpOf args []) : PCon Tryd.prog F.impl_typeExpOf args res :=
  con_auto Tryd.func24 T.impl_typeExpOf_l hl hn hw
def T.impl_frees : T :=
.chk (.cells (.x 0) 4) (
.bind 1 (
 .op (.bin .eql (.cell 0 0) (.x 1)) (
 .ite (.x 2)
  (.chk (.one (.cell 0 1)) (
  .op (.mkl (.v (.int .i64 0)) 1 [(0, (.cell 0 1))]) (
  .op (.app 1 8 (.c (.sl [])) (.sl (.x 3))) (
  .jump [(.x 4)]))))
  (.jump [(.c (.sl []))]))) (
.bind 1 (
 .op (.lenL (.cell 0 3)) (
 .loop [(.x 2), (.c (.v (.int .i64 0)))] (
  .op (.bin .lss (.x 5) (.x 3)) (
  .ite (.x 6)
   (.bind 6 (
    .op (.elem 4 (.cell 0 3) (.x 5)) (
    .chk (.cells (.x 7) 4) (
    .chk (.cells (.x 7) 4) (
    .chk (.cells (.x 7) 4) (
    .op (.fcall true 3 1 F.impl_frees [(.x 7), (.x 1)]) (
    .op (.lenL (.sl (.x 8))) (
    .loop [(.x 4), (.c (.v (.int .i64 0)))] (
     .op (.bin .lss (.x 11) (.x 9)) (
     .ite (.x 12)
      (.bind 1 (
       .chk (.idx (.x 8) (.x 11)) (
       .op (.get (.x 8) (.x 11) 0 none) (
       .op (.call F.slices_Contains__int_int [(.sl (.x 10)), (.x 13)] true) (
       .op (.un .not (.x 14)) (
       .ite (.x 15)
        (.chk (.one (.x 13)) (
        .op (.mkl (.v (.int .i64 0)) 1 [(0, (.x 13))]) (
        .op (.app 1 8 (.x 10) (.sl (.x 16))) (
        .jump [(.x 17)]))))
        (.jump [(.x 10)])))))) (
      .op (.bin .add (.x 11) (.c (.v (.int .i64 1)))) (
      .jump [(.x 13), (.x 14)])))
      (.esc (.jump [(.x 10), (.cell 7 0), (.cell 7 1), (.cell 7 2), (.cell 7 3), (.x 8)]))))))))))) (
   .op (.bin .add (.x 5) (.c (.v (.int .i64 1)))) (
   .jump [(.x 7), (.x 13)])))
   (.esc (.jump [(.x 4)])))))) (
.ret [(.sl (.x 3))])))
theorem T.impl_frees_l : leftR Tryd.prog CF true 3 1 Tryd.f25 = some (2, T.impl_frees) := by kernel_rfl
theorem T.impl_frees_fcon {args xs : List AV} (hl : args.length = 2) (hn : AV.norefs args = true) (hw : wpT Tryd.prog (fun _ _ _ => False) (fun a => a = .sl xs) T.impl_frees args []) : FCon Tryd.prog F.impl_frees args true 3 1 xs :=
  fcon_auto Tryd.func25 T.impl_frees_l hl hn hw
def T.spec_l1Str : T :=
.op (.lenL (.x 3)) (
.op (.scall F.spec_l1Below G.spec_l1Below [(.x 0), (.x 1), (.x 2), (.x 4)]) (
.op (.elem 1 (.x 3) (.ext 5 0)) (
.chk (.lt (.x 6) 0) (
.ret [(.cell 6 0), (.ext 5 1), (.ext 5 2), (.ext 5 3)]))))
theorem T.spec_l1Str_l : leftS Tryd.prog CF G.spec_l1Str Tryd.f26 = some T.spec_l1Str := by kernel_rfl
theorem T.spec_l1Str_scon {ins outs : List AV} (hl : ins.length = 4) (ho : outs.length = 4) (hn : AV.norefs ins = true) (hw : wpT Tryd.prog (fun _ _ _ => False) (fun a => a = packR outs) T.spec_l1Str ins []) : SCon Tryd.prog F.spec_l1Str G.spec_l1Str ins outs :=
  scon_auto Tryd.func26 T.spec_l1Str_l hl hn ho hw
def T.spec_l1Byte : T :=
.op (.bin .mul (.x 2) (.c (.v (.int .i64 6364136223846793005)))) (
.op (.bin .add (.x 3) (.c (.v (.int .i64 1442695040888963407)))) (
.chk (.one (.x 4)) (
.op (.bin .shr (.x 4) (.c (.v (.int .u64 33)))) (
.op (.bin .shr (.x 4) (.c (.v (.int .u64 47)))) (
.op (.bin .xor (.x 5) (.x 6)) (
.op (.bin .and (.x 7) (.c (.v (.int .i64 255)))) (
.bind 2 (
 .op (.lenL (.x 0)) (
 .op (.bin .lss (.x 1) (.x 9)) (
 .ite (.x 10)
  (.op (.elem 1 (.x 0) (.x 1)) (
  .chk (.lt (.x 11) 0) (
  .op (.conv .i64 (.cell 11 0)) (
  .op (.bin .add (.x 8) (.x 12)) (
  .op (.bin .and (.x 13) (.c (.v (.int .i64 255)))) (
  .op (.bin .add (.x 1) (.c (.v (.int .i64 1)))) (
  .chk (.one (.x 15)) (
  .jump [(.x 15), (.x 14)]))))))))
  (.jump [(.x 1), (.x 8)])))) (
.ret [(.x 10), (.x 0), (.x 9), (.x 4)]))))))))
theorem T.spec_l1Byte_l : leftS Tryd.prog CF G.spec_l1Byte Tryd.f27 = some T.spec_l1Byte := by kernel_rfl
theorem T.spec_l1Byte_scon {ins outs : List AV} (hl : ins.length = 3) (ho : outs.length = 4) (hn : AV.norefs ins = true) (hw : wpT Tryd.prog (fun _ _ _ => False) (fun a => a = packR outs) T.spec_l1Byte ins []) : SCon Tryd.prog F.spec_l1Byte G.spec_l1Byte ins outs :=
  scon_auto Tryd.func27 T.spec_l1Byte_l hl hn ho hw
def T.spec_l1Once : T :=
.op (.scall F.spec_l1Below G.spec_l1Below [(.x 0), (.x 1), (.x 2), (.x 3)]) (
.op (.bin .eql (.ext 4 0) (.c (.v (.int .i64 0)))) (
.ret [(.x 5), (.ext 4 1), (.ext 4 2), (.ext 4 3)]))
theorem T.spec_l1Once_l : leftS Tryd.prog CF G.spec_l1Once Tryd.f28 = some T.spec_l1Once := by kernel_rfl
theorem T.spec_l1Once_scon {ins outs : List AV} (hl : ins.length = 4) (ho : outs.length = 4) (hn : AV.norefs ins = true) (hw : wpT Tryd.prog (fun _ _ _ => False) (fun a => a = packR outs) T.spec_l1Once ins []) : SCon Tryd.prog F.spec_l1Once G.spec_l1Once ins outs :=
  scon_auto Tryd.func28 T.spec_l1Once_l hl hn ho hw
def T.spec_l1Low : T :=
.bind 1 (
 .op (.call F.spec_l1Name [(.x 0), (.c (.v (.bool false)))] false) (
 .ite (.x 1)
  (.op (.call F.spec_l1Key [(.x 0)] false) (
  .op (.un .not (.x 2)) (
  .jump [(.x 3)])))
  (.jump [(.c (.v (.bool false)))]))) (
.ret [(.x 1)])
theorem T.spec_l1Low_l : leftF Tryd.prog CF Tryd.f29 = some (1, T.spec_l1Low) := by kernel_rfl
theorem T.spec_l1Low_con {args : List AV} {res : AV} (hl : args.length = 1) (hn : AV.norefs args = true) (hw : wpT Tryd.prog (fun _ _ _ => False) (fun a => a = res) T.spec_l1Low args []) : PCon Tryd.prog F.spec_l1Low args res :=
  con_auto Tryd.func29 T.spec_l1Low_l hl hn hw
def T.impl_within : T :=
.bind 1 (
 .op (.bin .geq (.x 0) (.x 1)) (
 .ite (.x 3)
  (.op (.bin .leq (.x 0) (.x 2)) (
  .jump [(.x 4)]))
  (.jump [(.c (.v (.bool false)))]))) (
.ret [(.x 3)])
theorem T.impl_within_l : leftF Tryd.prog CF Tryd.f30 = some (3, T.impl_within) := by kernel_rfl
theorem T.impl_within_con {args : List AV} {res : AV} (hl : args.length = 3) (hn : AV.norefs args = true) (hw : wpT Tryd.prog (fun _ _ _ => False) (fun a => a = res) T.impl_within args []) : PCon Tryd.prog F.impl_within args res :=
  con_auto Tryd.func30 T.impl_within_l hl hn hw
def T.impl_tyHeadOk : T :=
.chk (.cells (.x 0) 4) (
.op (.lenL (.cell 0 3)) (
.op (.bin .eql (.x 1) (.c (.v (.int .i64 0)))) (
.op (.bin .eql (.cell 0 2) (.c (.v (.string ⟨#[]⟩)))) (
.op (.bin .eql (.cell 0 1) (.c (.v (.int .i64 0)))) (
.bind 3 (
 .bind 1 (
  .op (.bin .eql (.cell 0 0) (.c (.v (.int .i64 1)))) (
  .ite (.x 5)
   (.jump [(.x 5)])
   (.op (.bin .eql (.cell 0 0) (.c (.v (.int .i64 2)))) (
   .ite (.x 6)
    (.jump [(.x 6)])
    (.op (.bin .eql (.cell 0 0) (.c (.v (.int .i64 3)))) (
    .ite (.x 7)
     (.jump [(.x 7)])
     (.op (.bin .eql (.cell 0 0) (.c (.v (.int .i64 4)))) (
     .jump [(.x 8)])))))))) (
 .ite (.x 5)
  (.jump [(.x 2), (.x 3), (.x 4)])
  (.op (.bin .eql (.cell 0 0) (.c (.v (.int .i64 5)))) (
  .ite (.x 6)
   (.op (.lenL (.cell 0 3)) (
   .op (.bin .eql (.x 7) (.c (.v (.int .i64 2)))) (
   .jump [(.x 8), (.x 3), (.x 4)])))
   (.op (.bin .eql (.cell 0 0) (.c (.v (.int .i64 6)))) (
   .ite (.x 7)
    (.op (.lenL (.cell 0 3)) (
    .op (.bin .geq (.x 8) (.c (.v (.int .i64 2)))) (
    .jump [(.x 9), (.x 3), (.x 4)])))
    (.op (.bin .eql (.cell 0 0) (.c (.v (.int .i64 7)))) (
    .ite (.x 8)
     (.op (.call F.impl_lowOk [(.cell 0 2)] false) (
     .jump [(.c (.v (.bool true))), (.x 9), (.x 4)]))
     (.op (.bin .eql (.cell 0 0) (.c (.v (.int .i64 8)))) (
     .ite (.x 9)
      (.op (.lenL (.cell 0 3)) (
      .op (.bin .eql (.x 10) (.c (.v (.int .i64 1)))) (
      .jump [(.x 11), (.x 3), (.x 4)])))
      (.bind 1 (
       .op (.bin .eql (.cell 0 0) (.c (.v (.int .i64 9)))) (
       .ite (.x 10)
        (.jump [(.x 10)])
        (.op (.bin .eql (.cell 0 0) (.c (.v (.int .i64 10)))) (
        .ite (.x 11)
         (.jump [(.x 11)])
         (.op (.bin .eql (.cell 0 0) (.c (.v (.int .i64 11)))) (
         .jump [(.x 12)])))))) (
      .ite (.x 10)
       (.op (.bin .geq (.cell 0 1) (.c (.v (.int .i64 0)))) (
       .jump [(.x 2), (.x 3), (.x 11)]))
       (.esc (.ret [(.c (.v (.bool false)))])))))))))))))) (
.bind 1 (
 .ite (.x 5)
  (.ite (.x 6)
   (.jump [(.x 7)])
   (.jump [(.c (.v (.bool false)))]))
  (.jump [(.c (.v (.bool false)))])) (
.ret [(.x 8)])))))))
theorem T.impl_tyHeadOk_l : leftF Tryd.prog CF Tryd.f31 = some (1, T.impl_tyHeadOk) := by kernel_rfl
theorem T.impl_tyHeadOk_con {args : List AV} {res : AV} (hl : args.length = 1) (hn : AV.norefs args = true) (hw : wpT Tryd.prog (fun _ _ _ => False) (fun a => a = res) T.impl_tyHeadOk args []) : PCon Tryd.prog F.impl_tyHeadOk args res :=
  con_auto Tryd.func31 T.impl_tyHeadOk_l hl hn hw
def T.slices_ContainsFunc__impl_Ty_impl_Ty : T :=
.op (.call F.slices_IndexFunc__impl_Ty_impl_Ty [(.x 0), (.x 1)] false) (
.op (.bin .geq (.x 2) (.c (.v (.int .i64 0)))) (
.ret [(.x 3)]))
theorem T.slices_ContainsFunc__impl_Ty_impl_Ty_l : leftF Tryd.prog CF Tryd.f32 = some (2, T.slices_ContainsFunc__impl_Ty_impl_Ty) := by kernel_rfl
theorem T.slices_ContainsFunc__impl_Ty_impl_Ty_con {args : List AV} {res : AV} (hl : args.length = 2) (hn : AV.norefs args = true) (hw : wpT Tryd.prog (fun _ _ _ => False) (fun a => a = res) T.slices_ContainsFunc__impl_Ty_impl_Ty args []) : PCon Tryd.prog F.slices_ContainsFunc__impl_Ty_impl_Ty args res :=
  con_auto Tryd.func32 T.slices_ContainsFunc__impl_Ty_impl_Ty_l hl hn hw
def T.impl_TyOk_1 : T :=
.chk (.cells (.x 0) 4) (
.chk (.cells (.x 0) 4) (
.op (.call F.impl_TyOk [(.x 0)] false) (
.op (.un .not (.x 1)) (
.ret [(.x 2)]))))
theorem T.impl_TyOk_1_l : leftF Tryd.prog CF Tryd.f33 = some (1, T.impl_TyOk_1) := by kernel_rfl
theorem T.impl_TyOk_1_con {args : List AV} {res : AV} (hl : args.length = 1) (hn : AV.norefs args = true) (hw : wpT Tryd.prog (fun _ _ _ => False) (fun a => a = res) T.impl_TyOk_1 args []) : PCon Tryd.prog F.impl_TyOk_1 args res :=
  con_auto Tryd.func33 T.impl_TyOk_1_l hl hn hw
def T.impl_bracketed : T :=
.op (.bin .lss (.x 1) (.x 2)) (
.ite (.x 3)
 (.op (.bin .add (.c (.v (.string ⟨#[40]⟩))) (.x 0)) (
 .op (.bin .add (.x 4) (.c (.v (.string ⟨#[41]⟩)))) (
 .ret [(.x 5)])))
 (.ret [(.x 0)]))
theorem T.impl_bracketed_l : leftF Tryd.prog CF Tryd.f34 = some (3, T.impl_bracketed) := by kernel_rfl
theorem T.impl_bracketed_con {args : List AV} {res : AV} (hl : args.length = 3) (hn : AV.norefs args = true) (hw : wpT Tryd.prog (fun _ _ _ => False) (fun a => a = res) T.impl_bracketed args []) : PCon Tryd.prog F.impl_bracketed args res :=
  con_auto Tryd.func34 T.impl_bracketed_l hl hn hw
def T.impl_forms_impl_TypeExp : T :=
.bind 1 (
 .op (.lenL (.x 0)) (
 .loop [(.c (.sl [])), (.c (.v (.int .i64 0)))] (
  .op (.bin .lss (.x 6) (.x 4)) (
  .ite (.x 7)
   (.op (.elem 4 (.x 0) (.x 6)) (
   .chk (.cells (.x 8) 4) (
   .chk (.cells (.x 8) 4) (
   .chk (.cells (.x 8) 4) (
   .op (.callv (.x 3) [(.x 8), (.x 1)] false) (
   .chk (.one (.x 9)) (
   .op (.mkl (.v (.string ⟨#[]⟩)) 1 [(0, (.x 9))]) (
   .op (.app 1 16 (.x 5) (.sl (.x 10))) (
   .op (.bin .add (.x 6) (.c (.v (.int .i64 1)))) (
   .jump [(.x 11), (.x 12)]))))))))))
   (.esc (.jump [(.x 5)])))))) (
.op (.call F.strings_Join [(.sl (.x 4)), (.x 2)] true) (
.ret [(.x 5)]))
theorem T.impl_forms_impl_TypeExp_l : leftF Tryd.prog CF Tryd.f35 = some (4, T.impl_forms_impl_TypeExp) := by kernel_rfl
theorem T.impl_forms_impl_TypeExp_con {args : List AV} {res : AV} (hl : args.length = 4) (hn : AV.norefs args = true) (hw : wpT Tryd.prog (fun _ _ _ => False) (fun a => a = res) T.impl_forms_impl_TypeExp args []) : PCon Tryd.prog F.impl_forms_impl_TypeExp args res :=
  con_auto Tryd.func35 T.impl_forms_impl_TypeExp_l hl hn hw
def T.slices_Contains__int_int : T :=
.op (.call F.slices_Index__int_int [(.x 0), (.x 1)] false) (
.op (.bin .geq (.x 2) (.c (.v (.int .i64 0)))) (
.ret [(.x 3)]))
theorem T.slices_Contains__int_int_l : leftF Tryd.prog CF Tryd.f37 = some (2, T.slices_Contains__int_int) := by kernel_rfl
theorem T.slices_Contains__int_int_con {args : List AV} {res : AV} (hl : args.length = 2) (hn : AV.norefs args = true) (hw : wpT Tryd.prog (fun _ _ _ => False) (fun a => a = res) T.slices_Contains__int_int args []) : PCon Tryd.prog F.slices_Contains__int_int args res :=
  con_auto Tryd.func37 T.slices_Contains__int_int_l hl hn hw
def T.spec_l1Name : T :=
.bind 0 (
 .bind 1 (
  .op (.lenS (.x 0)) (
  .op (.call F.spec_l1In [(.x 2), (.c (.v (.int .i64 1))), (.c (.v (.int .i64 12)))] false) (
  .op (.un .not (.x 3)) (
  .ite (.x 4)
   (.jump [(.c (.v (.bool true)))])
   (.op (.idxS (.x 0) (.c (.v (.int .i64 0)))) (
   .op (.conv .i64 (.x 5)) (
   .op (.call F.spec_l1Upper [(.x 6)] false) (
   .op (.beq true (.x 1) (.x 7)) (
   .ite (.x 8)
    (.jump [(.c (.v (.bool true)))])
    (.op (.un .not (.x 1)) (
    .ite (.x 9)
     (.op (.idxS (.x 0) (.c (.v (.int .i64 0)))) (
     .op (.conv .i64 (.x 10)) (
     .op (.call F.spec_l1Lower [(.x 11)] false) (
     .op (.un .not (.x 12)) (
     .jump [(.x 13)])))))
     (.jump [(.c (.v (.bool false)))])))))))))))) (
 .ite (.x 2)
  (.esc (.ret [(.c (.v (.bool false)))]))
  (.jump []))) (
.bind 0 (
 .loop [(.c (.v (.int .i64 0)))] (
  .op (.lenS (.x 0)) (
  .op (.bin .lss (.x 2) (.x 3)) (
  .ite (.x 4)
   (.op (.idxS (.x 0) (.x 2)) (
   .op (.conv .i64 (.x 5)) (
   .op (.call F.spec_l1NameByte [(.x 6)] false) (
   .op (.un .not (.x 7)) (
   .ite (.x 8)
    (.esc (.esc (.ret [(.c (.v (.bool false)))])))
    (.op (.bin .add (.x 2) (.c (.v (.int .i64 1)))) (
    .jump [(.x 9)])))))))
   (.esc (.jump [])))))) (
.ret [(.c (.v (.bool true)))]))
theorem T.spec_l1Name_l : leftF Tryd.prog CF Tryd.f38 = some (2, T.spec_l1Name) := by kernel_rfl
theorem T.spec_l1Name_con {args : List AV} {res : AV} (hl : args.length = 2) (hn : AV.norefs args = true) (hw : wpT Tryd.prog (fun _ _ _ => False) (fun a => a = res) T.spec_l1Name args []) : PCon Tryd.prog F.spec_l1Name args res :=
  con_auto Tryd.func38 T.spec_l1Name_l hl hn hw
def T.spec_l1Key : T :=
.chk (.one (.c (.v (.string ⟨#[116, 121, 112, 101]⟩)))) (
.chk (.one (.c (.v (.string ⟨#[111, 102]⟩)))) (
.chk (.one (.c (.v (.string ⟨#[108, 101, 116]⟩)))) (
.chk (.one (.c (.v (.string ⟨#[114, 101, 99]⟩)))) (
.chk (.one (.c (.v (.string ⟨#[105, 110]⟩)))) (
.chk (.one (.c (.v (.string ⟨#[102, 117, 110]⟩)))) (
.chk (.one (.c (.v (.string ⟨#[105, 102]⟩)))) (
.chk (.one (.c (.v (.string ⟨#[116, 104, 101, 110]⟩)))) (
.chk (.one (.c (.v (.string ⟨#[101, 108, 115, 101]⟩)))) (
.chk (.one (.c (.v (.string ⟨#[109, 97, 116, 99, 104]⟩)))) (
.chk (.one (.c (.v (.string ⟨#[119, 105, 116, 104]⟩)))) (
.chk (.one (.c (.v (.string ⟨#[101, 110, 100]⟩)))) (
.chk (.one (.c (.v (.string ⟨#[116, 114, 117, 101]⟩)))) (
.chk (.one (.c (.v (.string ⟨#[102, 97, 108, 115, 101]⟩)))) (
.chk (.one (.c (.v (.string ⟨#[114, 101, 102]⟩)))) (
.chk (.one (.c (.v (.string ⟨#[114, 101, 97, 100]⟩)))) (
.chk (.one (.c (.v (.string ⟨#[112, 114, 105, 110, 116]⟩)))) (
.chk (.one (.c (.v (.string ⟨#[101, 120, 105, 116]⟩)))) (
.chk (.one (.c (.v (.string ⟨#[115, 105, 122, 101]⟩)))) (
.op (.mkl (.v (.string ⟨#[]⟩)) 19 [(0, (.c (.v (.string ⟨#[116, 121, 112, 101]⟩)))), (1, (.c (.v (.string ⟨#[111, 102]⟩)))), (2, (.c (.v (.string ⟨#[108, 101, 116]⟩)))), (3, (.c (.v (.string ⟨#[114, 101, 99]⟩)))), (4, (.c (.v (.string ⟨#[105, 110]⟩)))), (5, (.c (.v (.string ⟨#[102, 117, 110]⟩)))), (6, (.c (.v (.string ⟨#[105, 102]⟩)))), (7, (.c (.v (.string ⟨#[116, 104, 101, 110]⟩)))), (8, (.c (.v (.string ⟨#[101, 108, 115, 101]⟩)))), (9, (.c (.v (.string ⟨#[109, 97, 116, 99, 104]⟩)))), (10, (.c (.v (.string ⟨#[119, 105, 116, 104]⟩)))), (11, (.c (.v (.string ⟨#[101, 110, 100]⟩)))), (12, (.c (.v (.string ⟨#[116, 114, 117, 101]⟩)))), (13, (.c (.v (.string ⟨#[102, 97, 108, 115, 101]⟩)))), (14, (.c (.v (.string ⟨#[114, 101, 102]⟩)))), (15, (.c (.v (.string ⟨#[114, 101, 97, 100]⟩)))), (16, (.c (.v (.string ⟨#[112, 114, 105, 110, 116]⟩)))), (17, (.c (.v (.string ⟨#[101, 120, 105, 116]⟩)))), (18, (.c (.v (.string ⟨#[115, 105, 122, 101]⟩))))]) (
.bind 0 (
 .loop [(.c (.v (.int .i64 0)))] (
  .op (.lenL (.sl (.x 1))) (
  .op (.bin .lss (.x 2) (.x 3)) (
  .ite (.x 4)
   (.chk (.idx (.x 1) (.x 2)) (
   .op (.get (.x 1) (.x 2) 0 none) (
   .op (.bin .eql (.x 5) (.x 0)) (
   .ite (.x 6)
    (.esc (.esc (.ret [(.c (.v (.bool true)))])))
    (.op (.bin .add (.x 2) (.c (.v (.int .i64 1)))) (
    .jump [(.x 7)]))))))
   (.esc (.jump [])))))) (
.ret [(.c (.v (.bool false)))])))))))))))))))))))))
theorem T.spec_l1Key_l : leftF Tryd.prog CF Tryd.f39 = some (1, T.spec_l1Key) := by kernel_rfl
theorem T.spec_l1Key_con {args : List AV} {res : AV} (hl : args.length = 1) (hn : AV.norefs args = true) (hw : wpT Tryd.prog (fun _ _ _ => False) (fun a => a = res) T.spec_l1Key args []) : PCon Tryd.prog F.spec_l1Key args res :=
  con_auto Tryd.func39 T.spec_l1Key_l hl hn hw
def T.impl_lowOk : T :=
.bind 1 (
 .op (.call F.impl_isName [(.x 0), (.c (.fn F.impl_small []))] false) (
 .ite (.x 1)
  (.op (.call F.impl_isKey [(.x 0)] false) (
  .op (.un .not (.x 2)) (
  .jump [(.x 3)])))
  (.jump [(.c (.v (.bool false)))]))) (
.ret [(.x 1)])
theorem T.impl_lowOk_l : leftF Tryd.prog CF Tryd.f40 = some (1, T.impl_lowOk) := by kernel_rfl
theorem T.impl_lowOk_con {args : List AV} {res : AV} (hl : args.length = 1) (hn : AV.norefs args = true) (hw : wpT Tryd.prog (fun _ _ _ => False) (fun a => a = res) T.impl_lowOk args []) : PCon Tryd.prog F.impl_lowOk args res :=
  con_auto Tryd.func40 T.impl_lowOk_l hl hn hw
def T.slices_IndexFunc__impl_Ty_impl_Ty : T :=
.bind 0 (
 .op (.lenL (.x 0)) (
 .loop [(.c (.v (.int .i64 0)))] (
  .op (.bin .lss (.x 3) (.x 2)) (
  .ite (.x 4)
   (.op (.elem 4 (.x 0) (.x 3)) (
   .chk (.cells (.x 5) 4) (
   .op (.callv (.x 1) [(.x 5)] false) (
   .ite (.x 6)
    (.esc (.esc (.ret [(.x 3)])))
    (.op (.bin .add (.x 3) (.c (.v (.int .i64 1)))) (
    .jump [(.x 7)]))))))
   (.esc (.jump [])))))) (
.ret [(.c (.v (.int .i64 (-1))))])
theorem T.slices_IndexFunc__impl_Ty_impl_Ty_l : leftF Tryd.prog CF Tryd.f41 = some (2, T.slices_IndexFunc__impl_Ty_impl_Ty) := by kernel_rfl
theorem T.slices_IndexFunc__impl_Ty_impl_Ty_con {args : List AV} {res : AV} (hl : args.length = 2) (hn : AV.norefs args = true) (hw : wpT Tryd.prog (fun _ _ _ => False) (fun a => a = res) T.slices_IndexFunc__impl_Ty_impl_Ty args []) : PCon Tryd.prog F.slices_IndexFunc__impl_Ty_impl_Ty args res :=
  con_auto Tryd.func41 T.slices_IndexFunc__impl_Ty_impl_Ty_l hl hn hw
-- strings_Join: no walk
def T.slices_Index__int_int : T :=
.bind 0 (
 .op (.lenL (.x 0)) (
 .loop [(.c (.v (.int .i64 0)))] (
  .op (.bin .lss (.x 3) (.x 2)) (
  .ite (.x 4)
   (.op (.elem 1 (.x 0) (.x 3)) (
   .chk (.lt (.x 5) 0) (
   .op (.bin .eql (.x 1) (.cell 5 0)) (
   .ite (.x 6)
    (.esc (.esc (.ret [(.x 3)])))
    (.op (.bin .add (.x 3) (.c (.v (.int .i64 1)))) (
    .jump [(.x 7)]))))))
   (.esc (.jump [])))))) (
.ret [(.c (.v (.int .i64 (-1))))])
theorem T.slices_Index__int_int_l : leftF Tryd.prog CF Tryd.f44 = some (2, T.slices_Index__int_int) := by kernel_rfl
theorem T.slices_Index__int_int_con {args : List AV} {res : AV} (hl : args.length = 2) (hn : AV.norefs args = true) (hw : wpT Tryd.prog (fun _ _ _ => False) (fun a => a = res) T.slices_Index__int_int args []) : PCon Tryd.prog F.slices_Index__int_int args res :=
  con_auto Tryd.func44 T.slices_Index__int_int_l hl hn hw
def T.spec_l1In : T :=
.bind 1 (
 .op (.bin .geq (.x 0) (.x 1)) (
 .ite (.x 3)
  (.op (.bin .leq (.x 0) (.x 2)) (
  .jump [(.x 4)]))
  (.jump [(.c (.v (.bool false)))]))) (
.ret [(.x 3)])
theorem T.spec_l1In_l : leftF Tryd.prog CF Tryd.f45 = some (3, T.spec_l1In) := by kernel_rfl
theorem T.spec_l1In_con {args : List AV} {res : AV} (hl : args.length = 3) (hn : AV.norefs args = true) (hw : wpT Tryd.prog (fun _ _ _ => False) (fun a => a = res) T.spec_l1In args []) : PCon Tryd.prog F.spec_l1In args res :=
  con_auto Tryd.func45 T.spec_l1In_l hl hn hw
def T.spec_l1Upper : T :=
.op (.call F.spec_l1In [(.x 0), (.c (.v (.int .i64 65))), (.c (.v (.int .i64 90)))] false) (
.ret [(.x 1)])
theorem T.spec_l1Upper_l : leftF Tryd.prog CF Tryd.f46 = some (1, T.spec_l1Upper) := by kernel_rfl
theorem T.spec_l1Upper_con {args : List AV} {res : AV} (hl : args.length = 1) (hn : AV.norefs args = true) (hw : wpT Tryd.prog (fun _ _ _ => False) (fun a => a = res) T.spec_l1Upper args []) : PCon Tryd.prog F.spec_l1Upper args res :=
  con_auto Tryd.func46 T.spec_l1Upper_l hl hn hw
def T.spec_l1Lower : T :=
.op (.call F.spec_l1In [(.x 0), (.c (.v (.int .i64 97))), (.c (.v (.int .i64 122)))] false) (
.ret [(.x 1)])
theorem T.spec_l1Lower_l : leftF Tryd.prog CF Tryd.f47 = some (1, T.spec_l1Lower) := by kernel_rfl
theorem T.spec_l1Lower_con {args : List AV} {res : AV} (hl : args.length = 1) (hn : AV.norefs args = true) (hw : wpT Tryd.prog (fun _ _ _ => False) (fun a => a = res) T.spec_l1Lower args []) : PCon Tryd.prog F.spec_l1Lower args res :=
  con_auto Tryd.func47 T.spec_l1Lower_l hl hn hw
def T.spec_l1NameByte : T :=
.bind 1 (
 .op (.call F.spec_l1Lower [(.x 0)] false) (
 .ite (.x 1)
  (.jump [(.c (.v (.bool true)))])
  (.op (.call F.spec_l1Upper [(.x 0)] false) (
  .ite (.x 2)
   (.jump [(.c (.v (.bool true)))])
   (.op (.call F.spec_l1Num [(.x 0)] false) (
   .ite (.x 3)
    (.jump [(.c (.v (.bool true)))])
    (.op (.bin .eql (.x 0) (.c (.v (.int .i64 95)))) (
    .jump [(.x 4)])))))))) (
.ret [(.x 1)])
theorem T.spec_l1NameByte_l : leftF Tryd.prog CF Tryd.f48 = some (1, T.spec_l1NameByte) := by kernel_rfl
theorem T.spec_l1NameByte_con {args : List AV} {res : AV} (hl : args.length = 1) (hn : AV.norefs args = true) (hw : wpT Tryd.prog (fun _ _ _ => False) (fun a => a = res) T.spec_l1NameByte args []) : PCon Tryd.prog F.spec_l1NameByte args res :=
  con_auto Tryd.func48 T.spec_l1NameByte_l hl hn hw
def T.impl_isName : T :=
.bind 1 (
 .op (.lenS (.x 0)) (
 .op (.call F.impl_within [(.x 2), (.c (.v (.int .i64 1))), (.c (.v (.int .i64 12)))] false) (
 .ite (.x 3)
  (.op (.idxS (.x 0) (.c (.v (.int .i64 0)))) (
  .op (.callv (.x 1) [(.x 4)] false) (
  .ite (.x 5)
   (.op (.call F.impl_run [(.x 0), (.c (.v (.int .i64 0))), (.c (.fn F.impl_nameByte []))] false) (
   .op (.lenS (.x 0)) (
   .op (.bin .eql (.x 6) (.x 7)) (
   .jump [(.x 8)]))))
   (.jump [(.c (.v (.bool false)))]))))
  (.jump [(.c (.v (.bool false)))])))) (
.ret [(.x 2)])
theorem T.impl_isName_l : leftF Tryd.prog CF Tryd.f49 = some (2, T.impl_isName) := by kernel_rfl
theorem T.impl_isName_con {args : List AV} {res : AV} (hl : args.length = 2) (hn : AV.norefs args = true) (hw : wpT Tryd.prog (fun _ _ _ => False) (fun a => a = res) T.impl_isName args []) : PCon Tryd.prog F.impl_isName args res :=
  con_auto Tryd.func49 T.impl_isName_l hl hn hw
def T.impl_small : T :=
.bind 1 (
 .op (.bin .geq (.x 0) (.c (.v (.int .u8 97)))) (
 .ite (.x 1)
  (.op (.bin .leq (.x 0) (.c (.v (.int .u8 122)))) (
  .jump [(.x 2)]))
  (.jump [(.c (.v (.bool false)))]))) (
.ret [(.x 1)])
theorem T.impl_small_l : leftF Tryd.prog CF Tryd.f50 = some (1, T.impl_small) := by kernel_rfl
theorem T.impl_small_con {args : List AV} {res : AV} (hl : args.length = 1) (hn : AV.norefs args = true) (hw : wpT Tryd.prog (fun _ _ _ => False) (fun a => a = res) T.impl_small args []) : PCon Tryd.prog F.impl_small args res :=
  con_auto Tryd.func50 T.impl_small_l hl hn hw
def T.impl_isKey : T :=
.chk (.one (.c (.v (.string ⟨#[116, 121, 112, 101]⟩)))) (
.chk (.one (.c (.v (.string ⟨#[111, 102]⟩)))) (
.chk (.one (.c (.v (.string ⟨#[108, 101, 116]⟩)))) (
.chk (.one (.c (.v (.string ⟨#[114, 101, 99]⟩)))) (
.chk (.one (.c (.v (.string ⟨#[105, 110]⟩)))) (
.chk (.one (.c (.v (.string ⟨#[102, 117, 110]⟩)))) (
.chk (.one (.c (.v (.string ⟨#[105, 102]⟩)))) (
.chk (.one (.c (.v (.string ⟨#[116, 104, 101, 110]⟩)))) (
.chk (.one (.c (.v (.string ⟨#[101, 108, 115, 101]⟩)))) (
.chk (.one (.c (.v (.string ⟨#[109, 97, 116, 99, 104]⟩)))) (
.chk (.one (.c (.v (.string ⟨#[119, 105, 116, 104]⟩)))) (
.chk (.one (.c (.v (.string ⟨#[101, 110, 100]⟩)))) (
.chk (.one (.c (.v (.string ⟨#[116, 114, 117, 101]⟩)))) (
.chk (.one (.c (.v (.string ⟨#[102, 97, 108, 115, 101]⟩)))) (
.chk (.one (.c (.v (.string ⟨#[114, 101, 102]⟩)))) (
.chk (.one (.c (.v (.string ⟨#[114, 101, 97, 100]⟩)))) (
.chk (.one (.c (.v (.string ⟨#[112, 114, 105, 110, 116]⟩)))) (
.chk (.one (.c (.v (.string ⟨#[101, 120, 105, 116]⟩)))) (
.chk (.one (.c (.v (.string ⟨#[115, 105, 122, 101]⟩)))) (
.op (.mkl (.v (.string ⟨#[]⟩)) 19 [(0, (.c (.v (.string ⟨#[116, 121, 112, 101]⟩)))), (1, (.c (.v (.string ⟨#[111, 102]⟩)))), (2, (.c (.v (.string ⟨#[108, 101, 116]⟩)))), (3, (.c (.v (.string ⟨#[114, 101, 99]⟩)))), (4, (.c (.v (.string ⟨#[105, 110]⟩)))), (5, (.c (.v (.string ⟨#[102, 117, 110]⟩)))), (6, (.c (.v (.string ⟨#[105, 102]⟩)))), (7, (.c (.v (.string ⟨#[116, 104, 101, 110]⟩)))), (8, (.c (.v (.string ⟨#[101, 108, 115, 101]⟩)))), (9, (.c (.v (.string ⟨#[109, 97, 116, 99, 104]⟩)))), (10, (.c (.v (.string ⟨#[119, 105, 116, 104]⟩)))), (11, (.c (.v (.string ⟨#[101, 110, 100]⟩)))), (12, (.c (.v (.string ⟨#[116, 114, 117, 101]⟩)))), (13, (.c (.v (.string ⟨#[102, 97, 108, 115, 101]⟩)))), (14, (.c (.v (.string ⟨#[114, 101, 102]⟩)))), (15, (.c (.v (.string ⟨#[114, 101, 97, 100]⟩)))), (16, (.c (.v (.string ⟨#[112, 114, 105, 110, 116]⟩)))), (17, (.c (.v (.string ⟨#[101, 120, 105, 116]⟩)))), (18, (.c (.v (.string ⟨#[115, 105, 122, 101]⟩))))]) (
.op (.call F.slices_Contains__string_string [(.sl (.x 1)), (.x 0)] true) (
.ret [(.x 2)])))))))))))))))))))))
theorem T.impl_isKey_l : leftF Tryd.prog CF Tryd.f51 = some (1, T.impl_isKey) := by kernel_rfl
theorem T.impl_isKey_con {args : List AV} {res : AV} (hl : args.length = 1) (hn : AV.norefs args = true) (hw : wpT Tryd.prog (fun _ _ _ => False) (fun a => a = res) T.impl_isKey args []) : PCon Tryd.prog F.impl_isKey args res :=
  con_auto Tryd.func51 T.impl_isKey_l hl hn hw
-- strings_Builder_Grow: no walk
-- strings_Builder_WriteString: no walk
def T.spec_l1Num : T :=
.op (.call F.spec_l1In [(.x 0), (.c (.v (.int .i64 48))), (.c (.v (.int .i64 57)))] false) (
.ret [(.x 1)])
theorem T.spec_l1Num_l : leftF Tryd.prog CF Tryd.f56 = some (1, T.spec_l1Num) := by kernel_rfl
theorem T.spec_l1Num_con {args : List AV} {res : AV} (hl : args.length = 1) (hn : AV.norefs args = true) (hw : wpT Tryd.prog (fun _ _ _ => False) (fun a => a = res) T.spec_l1Num args []) : PCon Tryd.prog F.spec_l1Num args res :=
  con_auto Tryd.func56 T.spec_l1Num_l hl hn hw
def T.impl_run : T :=
.bind 1 (
 .loop [(.x 1)] (
  .bind 0 (
   .bind 1 (
    .op (.lenS (.x 0)) (
    .op (.bin .lss (.x 3) (.x 4)) (
    .ite (.x 5)
     (.op (.idxS (.x 0) (.x 3)) (
     .op (.callv (.x 2) [(.x 6)] false) (
     .jump [(.x 7)])))
     (.jump [(.c (.v (.bool false)))])))) (
   .ite (.x 4)
    (.jump [])
    (.esc (.esc (.jump [(.x 3)]))))) (
  .op (.bin .add (.x 3) (.c (.v (.int .i64 1)))) (
  .jump [(.x 4)])))) (
.ret [(.x 3)])
theorem T.impl_run_l : leftF Tryd.prog CF Tryd.f57 = some (3, T.impl_run) := by kernel_rfl
theorem T.impl_run_con {args : List AV} {res : AV} (hl : args.length = 3) (hn : AV.norefs args = true) (hw : wpT Tryd.prog (fun _ _ _ => False) (fun a => a = res) T.impl_run args []) : PCon Tryd.prog F.impl_run args res :=
  con_auto Tryd.func57 T.impl_run_l hl hn hw
def T.impl_nameByte : T :=
.bind 1 (
 .op (.call F.impl_small [(.x 0)] false) (
 .ite (.x 1)
  (.jump [(.c (.v (.bool true)))])
  (.op (.call F.impl_great [(.x 0)] false) (
  .ite (.x 2)
   (.jump [(.c (.v (.bool true)))])
   (.op (.call F.impl_digit [(.x 0)] false) (
   .ite (.x 3)
    (.jump [(.c (.v (.bool true)))])
    (.op (.bin .eql (.x 0) (.c (.v (.int .u8 95)))) (
    .jump [(.x 4)])))))))) (
.ret [(.x 1)])
theorem T.impl_nameByte_l : leftF Tryd.prog CF Tryd.f58 = some (1, T.impl_nameByte) := by kernel_rfl
theorem T.impl_nameByte_con {args : List AV} {res : AV} (hl : args.length = 1) (hn : AV.norefs args = true) (hw : wpT Tryd.prog (fun _ _ _ => False) (fun a => a = res) T.impl_nameByte args []) : PCon Tryd.prog F.impl_nameByte args res :=
  con_auto Tryd.func58 T.impl_nameByte_l hl hn hw
def T.slices_Contains__string_string : T :=
.op (.call F.slices_Index__string_string [(.x 0), (.x 1)] false) (
.op (.bin .geq (.x 2) (.c (.v (.int .i64 0)))) (
.ret [(.x 3)]))
theorem T.slices_Contains__string_string_l : leftF Tryd.prog CF Tryd.f59 = some (2, T.slices_Contains__string_string) := by kernel_rfl
theorem T.slices_Contains__string_string_con {args : List AV} {res : AV} (hl : args.length = 2) (hn : AV.norefs args = true) (hw : wpT Tryd.prog (fun _ _ _ => False) (fun a => a = res) T.slices_Contains__string_string args []) : PCon Tryd.prog F.slices_Contains__string_string args res :=
  con_auto Tryd.func59 T.slices_Contains__string_string_l hl hn hw
-- strings_Builder_copyCheck: code not covered
-- strings_Builder_grow: no walk
def T.impl_great : T :=
.bind 1 (
 .op (.bin .geq (.x 0) (.c (.v (.int .u8 65)))) (
 .ite (.x 1)
  (.op (.bin .leq (.x 0) (.c (.v (.int .u8 90)))) (
  .jump [(.x 2)]))
  (.jump [(.c (.v (.bool false)))]))) (
.ret [(.x 1)])
theorem T.impl_great_l : leftF Tryd.prog CF Tryd.f66 = some (1, T.impl_great) := by kernel_rfl
theorem T.impl_great_con {args : List AV} {res : AV} (hl : args.length = 1) (hn : AV.norefs args = true) (hw : wpT Tryd.prog (fun _ _ _ => False) (fun a => a = res) T.impl_great args []) : PCon Tryd.prog F.impl_great args res :=
  con_auto Tryd.func66 T.impl_great_l hl hn hw
def T.impl_digit : T :=
.bind 1 (
 .op (.bin .geq (.x 0) (.c (.v (.int .u8 48)))) (
 .ite (.x 1)
  (.op (.bin .leq (.x 0) (.c (.v (.int .u8 57)))) (
  .jump [(.x 2)]))
  (.jump [(.c (.v (.bool false)))]))) (
.ret [(.x 1)])
theorem T.impl_digit_l : leftF Tryd.prog CF Tryd.f67 = some (1, T.impl_digit) := by kernel_rfl
theorem T.impl_digit_con {args : List AV} {res : AV} (hl : args.length = 1) (hn : AV.norefs args = true) (hw : wpT Tryd.prog (fun _ _ _ => False) (fun a => a = res) T.impl_digit args []) : PCon Tryd.prog F.impl_digit args res :=
  con_auto Tryd.func67 T.impl_digit_l hl hn hw
def T.slices_Index__string_string : T :=
.bind 0 (
 .op (.lenL (.x 0)) (
 .loop [(.c (.v (.int .i64 0)))] (
  .op (.bin .lss (.x 3) (.x 2)) (
  .ite (.x 4)
   (.op (.elem 1 (.x 0) (.x 3)) (
   .chk (.lt (.x 5) 0) (
   .op (.bin .eql (.x 1) (.cell 5 0)) (
   .ite (.x 6)
    (.esc (.esc (.ret [(.x 3)])))
    (.op (.bin .add (.x 3) (.c (.v (.int .i64 1)))) (
    .jump [(.x 7)]))))))
   (.esc (.jump [])))))) (
.ret [(.c (.v (.int .i64 (-1))))])
theorem T.slices_Index__string_string_l : leftF Tryd.prog CF Tryd.f68 = some (2, T.slices_Index__string_string) := by kernel_rfl
theorem T.slices_Index__string_string_con {args : List AV} {res : AV} (hl : args.length = 2) (hn : AV.norefs args = true) (hw : wpT Tryd.prog (fun _ _ _ => False) (fun a => a = res) T.slices_Index__string_string args []) : PCon Tryd.prog F.slices_Index__string_string args res :=
  con_auto Tryd.func68 T.slices_Index__string_string_l hl hn hw
end Go.Proofs.Ab
