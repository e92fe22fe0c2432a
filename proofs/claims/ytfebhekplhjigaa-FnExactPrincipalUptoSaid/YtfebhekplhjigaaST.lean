/-
  WHAT IS LEFT of this seat's functions, printed by a program of ours (wip/tool/Gen2.lean) from the translation; each with the theorem that it is what is left of that function.
-/
import Derived.Test.YtfebhekplhjigaaChecked
import Derived.KernelRfl
import Derived.Test.YtfebhekplhjigaaAbM5
set_option linter.unusedVariables false
set_option linter.unusedSimpArgs false
set_option linter.defProp false
namespace Go.Proofs.Ab
open Go.Ab
set_option maxRecDepth 100000
namespace F
abbrev laws_FnExactPrincipal : FuncId := 3
abbrev laws_FnRecovered : FuncId := 4
abbrev laws_szTy : FuncId := 7
abbrev spec_Principal : FuncId := 8
abbrev laws_toTy : FuncId := 9
abbrev impl_Principal : FuncId := 10
abbrev laws_eqTy : FuncId := 11
abbrev spec_TyOk : FuncId := 14
abbrev spec_Free : FuncId := 17
abbrev impl_Unify : FuncId := 18
abbrev impl_SameTy : FuncId := 20
abbrev laws_szTyS : FuncId := 21
abbrev laws_toTyS : FuncId := 23
abbrev laws_eqTyS : FuncId := 24
abbrev laws_markTyS : FuncId := 25
abbrev spec_l7Small : FuncId := 27
abbrev spec_l7Fits : FuncId := 28
abbrev impl_TyOk : FuncId := 29
abbrev impl_Free : FuncId := 30
abbrev impl_puts : FuncId := 31
abbrev spec_l1New : FuncId := 32
abbrev spec_l1Below : FuncId := 35
abbrev spec_l1Int : FuncId := 36
abbrev spec_l4DrawAny : FuncId := 37
abbrev spec_l4Node : FuncId := 38
abbrev spec_l1In : FuncId := 39
abbrev spec_l4Free : FuncId := 40
abbrev impl_unifyOk : FuncId := 41
abbrev impl_isVarKind : FuncId := 49
abbrev slices_EqualFunc__impl_Ty__impl_Ty_impl_Ty_impl_Ty : FuncId := 52
abbrev spec_SameTy : FuncId := 61
abbrev impl_tyHeadOk : FuncId := 62
abbrev slices_ContainsFunc__impl_Ty_impl_Ty : FuncId := 63
abbrev impl_TyOk_1 : FuncId := 64
abbrev impl_frees : FuncId := 65
abbrev spec_l4Draw : FuncId := 66
abbrev spec_l1Once : FuncId := 67
abbrev spec_l1Byte : FuncId := 69
abbrev spec_l1Str : FuncId := 70
abbrev spec_l1Low : FuncId := 71
abbrev spec_l4Has : FuncId := 72
abbrev impl_within : FuncId := 73
abbrev impl_lowOk : FuncId := 80
abbrev slices_IndexFunc__impl_Ty_impl_Ty : FuncId := 81
abbrev slices_Contains__int_int : FuncId := 82
abbrev spec_l1Name : FuncId := 84
abbrev spec_l1Key : FuncId := 85
abbrev slices_Grow__impl_Ty_impl_Ty : FuncId := 86
abbrev impl_isName : FuncId := 88
abbrev impl_small : FuncId := 89
abbrev impl_isKey : FuncId := 90
abbrev slices_Index__int_int : FuncId := 91
abbrev spec_l1Upper : FuncId := 92
abbrev spec_l1Lower : FuncId := 93
abbrev spec_l1NameByte : FuncId := 94
abbrev impl_run : FuncId := 95
abbrev impl_nameByte : FuncId := 96
abbrev slices_Contains__string_string : FuncId := 97
abbrev spec_l1Num : FuncId := 98
abbrev impl_great : FuncId := 99
abbrev impl_digit : FuncId := 100
abbrev slices_Index__string_string : FuncId := 101
end F
def FL : List Nat := [3, 4, 5, 6, 7, 8, 10, 11, 12, 14, 15, 16, 20, 21, 24, 25, 26, 28, 29, 31, 34, 35, 36, 38, 39, 41, 43, 45, 46, 49, 52, 53, 55, 56, 57, 58, 60, 61, 62, 63, 64, 67, 69, 70, 71, 72, 73, 75, 76, 77, 79, 80, 81, 82, 84, 85, 87, 88, 89, 90, 91, 92, 93, 94, 95, 96, 97, 98, 99, 100, 101]
def FR : List (Nat × Bool × Nat × Nat) := [(30, true, 3, 1), (17, false, 3, 1), (65, true, 3, 1)]
abbrev G.spec_l1New : Sig := ⟨1, [(.d (.x 0))], [], 3, (.ptr 0 0), [(.box 93 [(.d (.x 0)), (.d (.x 1)), (.d (.x 2))])], []⟩
abbrev G.spec_l1Below : Sig := ⟨4, [(.ptr 0 0), (.d (.x 3))], [(.box 93 [(.d (.x 0)), (.d (.x 1)), (.d (.x 2))])], 4, (.d (.x 0)), [(.box 93 [(.d (.x 1)), (.d (.x 2)), (.d (.x 3))])], []⟩
abbrev G.spec_l1Int : Sig := ⟨4, [(.ptr 0 0), (.d (.x 3))], [(.box 93 [(.d (.x 0)), (.d (.x 1)), (.d (.x 2))])], 4, (.d (.x 0)), [(.box 93 [(.d (.x 1)), (.d (.x 2)), (.d (.x 3))])], []⟩
abbrev G.spec_l4DrawAny : Sig := ⟨3, [(.ptr 0 0)], [(.box 93 [(.d (.x 0)), (.d (.x 1)), (.d (.x 2))])], 4, (.d (.x 0)), [(.box 93 [(.d (.x 1)), (.d (.x 2)), (.d (.x 3))])], []⟩
abbrev G.spec_l4Free : Sig := ⟨3, [(.d (.x 0)), (.d (.x 1)), (.row 0 (.x 2))], [(.row false 3 1 (.x 2))], 1, (.row 0 (.x 0)), [(.row false 3 1 (.x 0))], []⟩
abbrev G.spec_l4Draw : Sig := ⟨5, [(.ptr 0 0), (.d (.x 3)), (.d (.x 4))], [(.box 93 [(.d (.x 0)), (.d (.x 1)), (.d (.x 2))])], 7, (.agg [(.d (.x 0)), (.d (.x 4)), (.d (.x 5)), (.row 1 (.x 6))]), [(.box 93 [(.d (.x 1)), (.d (.x 2)), (.d (.x 3))]), (.row true 24 4 (.x 6))], []⟩
abbrev G.spec_l4Draw_s1 : Sig := ⟨5, [(.ptr 0 0), (.d (.x 3)), (.d (.x 4))], [(.box 93 [(.d (.x 0)), (.d (.x 1)), (.d (.x 2))])], 4, (.d (.x 0)), [(.box 93 [(.d (.x 1)), (.d (.x 2)), (.d (.x 3))])], []⟩
abbrev G.spec_l1Once : Sig := ⟨4, [(.ptr 0 0), (.d (.x 3))], [(.box 93 [(.d (.x 0)), (.d (.x 1)), (.d (.x 2))])], 4, (.d (.x 0)), [(.box 93 [(.d (.x 1)), (.d (.x 2)), (.d (.x 3))])], []⟩
abbrev G.spec_l1Byte : Sig := ⟨3, [(.ptr 0 0)], [(.box 93 [(.d (.x 0)), (.d (.x 1)), (.d (.x 2))])], 4, (.d (.x 0)), [(.box 93 [(.d (.x 1)), (.d (.x 2)), (.d (.x 3))])], []⟩
abbrev G.spec_l1Str : Sig := ⟨4, [(.ptr 0 0), (.d (.x 3))], [(.box 93 [(.d (.x 0)), (.d (.x 1)), (.d (.x 2))])], 4, (.d (.x 0)), [(.box 93 [(.d (.x 1)), (.d (.x 2)), (.d (.x 3))])], []⟩
abbrev G.slices_Grow__impl_Ty_impl_Ty : Sig := ⟨1, [(.d (.c .nils)), (.d (.x 0))], [], 1, (.row 0 (.x 0)), [(.row false 29 4 (.x 0))], []⟩
abbrev G.slices_Grow__impl_Ty_impl_Ty_s1 : Sig := ⟨1, [(.d (.c .nils)), (.d (.x 0))], [], 0, (.d (.c .nils)), [], []⟩
def SG : List (Nat × List Sig) := [(32, [G.spec_l1New]), (35, [G.spec_l1Below]), (36, [G.spec_l1Int]), (37, [G.spec_l4DrawAny]), (40, [G.spec_l4Free]), (66, [G.spec_l4Draw, G.spec_l4Draw_s1]), (67, [G.spec_l1Once]), (69, [G.spec_l1Byte]), (70, [G.spec_l1Str]), (86, [G.slices_Grow__impl_Ty_impl_Ty, G.slices_Grow__impl_Ty_impl_Ty_s1])]
abbrev CF : Cfg := ⟨FL, FR, SG, false⟩
def T.laws_FnExactPrincipal : T :=
.chk (.cells (.x 0) 4) (
.chk (.cells (.x 1) 4) (
.chk (.cells (.x 0) 4) (
.op (.call F.laws_szTy [(.x 0), (.c (.v (.int .i64 1048576)))] false) (
.op (.bin .lss (.x 2) (.c (.v (.int .i64 0)))) (
.ite (.x 3)
 (.ret [(.c (.v (.bool true)))])
 (.chk (.cells (.x 1) 4) (
 .op (.call F.laws_szTy [(.x 1), (.x 2)] false) (
 .op (.bin .lss (.x 4) (.c (.v (.int .i64 0)))) (
 .ite (.x 5)
  (.ret [(.c (.v (.bool true)))])
  (.chk (.cells (.x 0) 4) (
  .op (.call F.laws_toTy [(.x 0)] false) (
  .chk (.cells (.x 1) 4) (
  .op (.call F.laws_toTy [(.x 1)] false) (
  .op (.call F.spec_Principal [(.x 6), (.x 7)] true) (
  .chk (.cells (.x 0) 4) (
  .op (.call F.laws_toTy [(.x 0)] false) (
  .chk (.cells (.x 9) 4) (
  .chk (.cells (.x 1) 4) (
  .op (.call F.laws_toTy [(.x 1)] false) (
  .chk (.cells (.x 10) 4) (
  .chk (.cells (.x 9) 4) (
  .chk (.cells (.x 10) 4) (
  .op (.call F.impl_Principal [(.x 9), (.x 10)] false) (
  .op (.beq true (.x 11) (.x 8)) (
  .ite (.x 12)
   (.ret [(.c (.v (.bool false)))])
   (.chk (.cells (.x 9) 4) (
   .chk (.cells (.x 0) 4) (
   .op (.call F.laws_toTy [(.x 0)] false) (
   .op (.call F.laws_eqTy [(.x 9), (.x 13)] true) (
   .op (.un .not (.x 14)) (
   .ite (.x 15)
    (.ret [(.c (.v (.bool false)))])
    (.chk (.cells (.x 10) 4) (
    .chk (.cells (.x 1) 4) (
    .op (.call F.laws_toTy [(.x 1)] false) (
    .op (.call F.laws_eqTy [(.x 10), (.x 16)] true) (
    .op (.un .not (.x 17)) (
    .ite (.x 18)
     (.ret [(.c (.v (.bool false)))])
     (.ret [(.c (.v (.bool true)))]))))))))))))))))))))))))))))))))))))))
theorem T.laws_FnExactPrincipal_l : leftF Try.prog CF Try.f3 = some (2, T.laws_FnExactPrincipal) := by kernel_rfl
theorem T.laws_FnExactPrincipal_con {args : List AV} {res : AV} (hl : args.length = 2) (hn : AV.norefs args = true) (hw : wpT Try.prog (fun _ _ _ => False) (fun a => a = res) T.laws_FnExactPrincipal args []) : PCon Try.prog F.laws_FnExactPrincipal args res :=
  con_auto Try.func3 T.laws_FnExactPrincipal_l hl hn hw
-- laws_FnRecovered: no walk
def T.laws_szTy : T :=
.chk (.cells (.x 0) 4) (
.op (.lenS (.cell 0 2)) (
.op (.bin .sub (.x 1) (.x 2)) (
.op (.bin .lss (.x 3) (.c (.v (.int .i64 0)))) (
.ite (.x 4)
 (.ret [(.c (.v (.int .i64 (-1))))])
 (.op (.call F.laws_szTyS [(.cell 0 3), (.x 3)] false) (
 .op (.bin .lss (.x 5) (.c (.v (.int .i64 0)))) (
 .ite (.x 6)
  (.ret [(.c (.v (.int .i64 (-1))))])
  (.ret [(.x 5)]))))))))
theorem T.laws_szTy_l : leftF Try.prog CF Try.f7 = some (2, T.laws_szTy) := by kernel_rfl
theorem T.laws_szTy_con {args : List AV} {res : AV} (hl : args.length = 2) (hn : AV.norefs args = true) (hw : wpT Try.prog (fun _ _ _ => False) (fun a => a = res) T.laws_szTy args []) : PCon Try.prog F.laws_szTy args res :=
  con_auto Try.func7 T.laws_szTy_l hl hn hw
-- spec_Principal: no walk
def T.laws_toTy : T :=
.chk (.cells (.x 0) 4) (
.chk (.one (.cell 0 0)) (
.chk (.one (.cell 0 1)) (
.chk (.one (.cell 0 2)) (
.op (.call F.laws_toTyS [(.cell 0 3)] false) (
.chk (.one (.x 1)) (
.chk (.cells (.agg [(.cell 0 0), (.cell 0 1), (.cell 0 2), (.x 1)]) 4) (
.ret [(.agg [(.cell 0 0), (.cell 0 1), (.cell 0 2), (.x 1)])])))))))
theorem T.laws_toTy_l : leftF Try.prog CF Try.f9 = some (1, T.laws_toTy) := by kernel_rfl
theorem T.laws_toTy_con {args : List AV} {res : AV} (hl : args.length = 1) (hn : AV.norefs args = true) (hw : wpT Try.prog (fun _ _ _ => False) (fun a => a = res) T.laws_toTy args []) : PCon Try.prog F.laws_toTy args res :=
  con_auto Try.func9 T.laws_toTy_l hl hn hw
-- impl_Principal: no walk
def T.laws_eqTy : T :=
.chk (.cells (.x 0) 4) (
.chk (.cells (.x 1) 4) (
.op (.bin .neq (.cell 0 0) (.cell 1 0)) (
.ite (.x 2)
 (.ret [(.c (.v (.bool false)))])
 (.op (.bin .neq (.cell 0 1) (.cell 1 1)) (
 .ite (.x 3)
  (.ret [(.c (.v (.bool false)))])
  (.op (.bin .neq (.cell 0 2) (.cell 1 2)) (
  .ite (.x 4)
   (.ret [(.c (.v (.bool false)))])
   (.op (.call F.laws_eqTyS [(.cell 0 3), (.cell 1 3)] false) (
   .op (.un .not (.x 5)) (
   .ite (.x 6)
    (.ret [(.c (.v (.bool false)))])
    (.ret [(.c (.v (.bool true)))])))))))))))
theorem T.laws_eqTy_l : leftF Try.prog CF Try.f11 = some (2, T.laws_eqTy) := by kernel_rfl
theorem T.laws_eqTy_con {args : List AV} {res : AV} (hl : args.length = 2) (hn : AV.norefs args = true) (hw : wpT Try.prog (fun _ _ _ => False) (fun a => a = res) T.laws_eqTy args []) : PCon Try.prog F.laws_eqTy args res :=
  con_auto Try.func11 T.laws_eqTy_l hl hn hw
def T.spec_TyOk : T :=
.chk (.cells (.x 0) 4) (
.chk (.cells (.x 0) 4) (
.op (.call F.spec_l4Node [(.x 0)] false) (
.op (.un .not (.x 1)) (
.ite (.x 2)
 (.ret [(.c (.v (.bool false)))])
 (.bind 0 (
  .loop [(.c (.v (.int .i64 0)))] (
   .op (.lenL (.cell 0 3)) (
   .op (.bin .lss (.x 3) (.x 4)) (
   .ite (.x 5)
    (.op (.elem 4 (.cell 0 3) (.x 3)) (
    .chk (.cells (.x 6) 4) (
    .op (.call F.spec_TyOk [(.x 6)] false) (
    .op (.un .not (.x 7)) (
    .ite (.x 8)
     (.esc (.esc (.ret [(.c (.v (.bool false)))])))
     (.op (.bin .add (.x 3) (.c (.v (.int .i64 1)))) (
     .jump [(.x 9)])))))))
    (.esc (.jump [])))))) (
 .ret [(.c (.v (.bool true)))]))))))
theorem T.spec_TyOk_l : leftF Try.prog CF Try.f14 = some (1, T.spec_TyOk) := by kernel_rfl
theorem T.spec_TyOk_con {args : List AV} {res : AV} (hl : args.length = 1) (hn : AV.norefs args = true) (hw : wpT Try.prog (fun _ _ _ => False) (fun a => a = res) T.spec_TyOk args []) : PCon Try.prog F.spec_TyOk args res :=
  con_auto Try.func14 T.spec_TyOk_l hl hn hw
def T.spec_Free : T :=
.chk (.cells (.x 0) 4) (
.bind 0 (
 .bind 1 (
  .chk (.cells (.x 0) 4) (
  .op (.call F.spec_TyOk [(.x 0)] false) (
  .op (.un .not (.x 2)) (
  .ite (.x 3)
   (.jump [(.c (.v (.bool true)))])
   (.op (.call F.spec_l1In [(.x 1), (.c (.v (.int .i64 9))), (.c (.v (.int .i64 11)))] false) (
   .op (.un .not (.x 4)) (
   .jump [(.x 5)]))))))) (
 .ite (.x 2)
  (.op (.mkl (.v (.int .i64 0)) 0 []) (
  .esc (.ret [(.sl (.x 3))])))
  (.jump []))) (
.chk (.cells (.x 0) 4) (
.op (.mkl (.v (.int .i64 0)) 0 []) (
.op (.scall F.spec_l4Free G.spec_l4Free [(.x 0), (.x 1), (.x 2)]) (
.ret [(.sl (.ext 3 0))])))))
theorem T.spec_Free_l : leftR Try.prog CF false 3 1 Try.f17 = some (2, T.spec_Free) := by kernel_rfl
theorem T.spec_Free_fcon {args xs : List AV} (hl : args.length = 2) (hn : AV.norefs args = true) (hw : wpT Try.prog (fun _ _ _ => False) (fun a => a = .sl xs) T.spec_Free args []) : FCon Try.prog F.spec_Free args false 3 1 xs :=
  fcon_auto Try.func17 T.spec_Free_l hl hn hw
-- impl_Unify: no walk
def T.impl_SameTy : T :=
.chk (.cells (.x 0) 4) (
.chk (.cells (.x 1) 4) (
.bind 1 (
 .op (.bin .eql (.cell 0 0) (.cell 1 0)) (
 .ite (.x 2)
  (.op (.bin .eql (.cell 0 1) (.cell 1 1)) (
  .ite (.x 3)
   (.op (.bin .eql (.cell 0 2) (.cell 1 2)) (
   .ite (.x 4)
    (.op (.call F.slices_EqualFunc__impl_Ty__impl_Ty_impl_Ty_impl_Ty [(.cell 0 3), (.cell 1 3), (.c (.fn F.impl_SameTy []))] false) (
    .jump [(.x 5)]))
    (.jump [(.c (.v (.bool false)))])))
   (.jump [(.c (.v (.bool false)))])))
  (.jump [(.c (.v (.bool false)))]))) (
.ret [(.x 2)])))
theorem T.impl_SameTy_l : leftF Try.prog CF Try.f20 = some (2, T.impl_SameTy) := by kernel_rfl
theorem T.impl_SameTy_con {args : List AV} {res : AV} (hl : args.length = 2) (hn : AV.norefs args = true) (hw : wpT Try.prog (fun _ _ _ => False) (fun a => a = res) T.impl_SameTy args []) : PCon Try.prog F.impl_SameTy args res :=
  con_auto Try.func20 T.impl_SameTy_l hl hn hw
def T.laws_szTyS : T :=
.op (.lenL (.x 0)) (
.op (.bin .sub (.x 1) (.x 2)) (
.op (.bin .lss (.x 3) (.c (.v (.int .i64 0)))) (
.ite (.x 4)
 (.ret [(.c (.v (.int .i64 (-1))))])
 (.bind 1 (
  .loop [(.x 3), (.c (.v (.int .i64 0)))] (
   .op (.lenL (.x 0)) (
   .op (.bin .lss (.x 6) (.x 7)) (
   .ite (.x 8)
    (.op (.elem 4 (.x 0) (.x 6)) (
    .chk (.cells (.x 9) 4) (
    .op (.call F.laws_szTy [(.x 9), (.x 5)] false) (
    .op (.bin .lss (.x 10) (.c (.v (.int .i64 0)))) (
    .ite (.x 11)
     (.esc (.esc (.ret [(.c (.v (.int .i64 (-1))))])))
     (.op (.bin .add (.x 6) (.c (.v (.int .i64 1)))) (
     .jump [(.x 10), (.x 12)])))))))
    (.esc (.jump [(.x 5)])))))) (
 .ret [(.x 5)])))))
theorem T.laws_szTyS_l : leftF Try.prog CF Try.f21 = some (2, T.laws_szTyS) := by kernel_rfl
theorem T.laws_szTyS_con {args : List AV} {res : AV} (hl : args.length = 2) (hn : AV.norefs args = true) (hw : wpT Try.prog (fun _ _ _ => False) (fun a => a = res) T.laws_szTyS args []) : PCon Try.prog F.laws_szTyS args res :=
  con_auto Try.func21 T.laws_szTyS_l hl hn hw
def T.laws_toTyS : T :=
.op (.lenL (.x 0)) (
.op (.rep 56 (.agg [(.v (.int .i64 0)), (.v (.int .i64 0)), (.v (.string ⟨#[]⟩)), .nils]) (.x 1) (.x 1)) (
.bind 1 (
 .loop [(.x 2), (.c (.v (.int .i64 0)))] (
  .op (.lenL (.x 0)) (
  .op (.bin .lss (.x 4) (.x 5)) (
  .ite (.x 6)
   (.op (.elem 4 (.x 0) (.x 4)) (
   .chk (.cells (.x 7) 4) (
   .op (.call F.laws_toTy [(.x 7)] false) (
   .chk (.idx (.x 3) (.x 4)) (
   .chk (.cells (.x 8) 4) (
   .op (.set (.x 3) (.x 4) 0 4 (.x 8)) (
   .op (.bin .add (.x 4) (.c (.v (.int .i64 1)))) (
   .jump [(.x 9), (.x 10)]))))))))
   (.esc (.jump [(.x 3)])))))) (
.ret [(.sl (.x 3))])))
theorem T.laws_toTyS_l : leftF Try.prog CF Try.f23 = some (1, T.laws_toTyS) := by kernel_rfl
theorem T.laws_toTyS_con {args : List AV} {res : AV} (hl : args.length = 1) (hn : AV.norefs args = true) (hw : wpT Try.prog (fun _ _ _ => False) (fun a => a = res) T.laws_toTyS args []) : PCon Try.prog F.laws_toTyS args res :=
  con_auto Try.func23 T.laws_toTyS_l hl hn hw
def T.laws_eqTyS : T :=
.op (.lenL (.x 0)) (
.op (.lenL (.x 1)) (
.op (.bin .neq (.x 2) (.x 3)) (
.ite (.x 4)
 (.ret [(.c (.v (.bool false)))])
 (.bind 0 (
  .loop [(.c (.v (.int .i64 0)))] (
   .op (.lenL (.x 0)) (
   .op (.bin .lss (.x 5) (.x 6)) (
   .ite (.x 7)
    (.op (.elem 4 (.x 0) (.x 5)) (
    .chk (.cells (.x 8) 4) (
    .op (.elem 4 (.x 1) (.x 5)) (
    .chk (.cells (.x 9) 4) (
    .op (.call F.laws_eqTy [(.x 8), (.x 9)] true) (
    .op (.un .not (.x 10)) (
    .ite (.x 11)
     (.esc (.esc (.ret [(.c (.v (.bool false)))])))
     (.op (.bin .add (.x 5) (.c (.v (.int .i64 1)))) (
     .jump [(.x 12)])))))))))
    (.esc (.jump [])))))) (
 .ret [(.c (.v (.bool true)))])))))
theorem T.laws_eqTyS_l : leftF Try.prog CF Try.f24 = some (2, T.laws_eqTyS) := by kernel_rfl
theorem T.laws_eqTyS_con {args : List AV} {res : AV} (hl : args.length = 2) (hn : AV.norefs args = true) (hw : wpT Try.prog (fun _ _ _ => False) (fun a => a = res) T.laws_eqTyS args []) : PCon Try.prog F.laws_eqTyS args res :=
  con_auto Try.func24 T.laws_eqTyS_l hl hn hw
-- laws_markTyS: no walk
def T.spec_l7Small : T :=
.chk (.cells (.x 0) 4) (
.chk (.cells (.x 0) 4) (
.chk (.cells (.x 0) 4) (
.bind 1 (
 .op (.bin .eql (.cell 0 0) (.c (.v (.int .i64 9)))) (
 .ite (.x 2)
  (.loop [(.cell 0 1), (.c (.v (.int .i64 0)))] (
   .op (.lenL (.x 1)) (
   .op (.bin .lss (.x 4) (.x 5)) (
   .ite (.x 6)
    (.bind 1 (
     .op (.elem 1 (.x 1) (.x 4)) (
     .chk (.lt (.x 7) 0) (
     .op (.bin .eql (.cell 7 0) (.cell 0 1)) (
     .ite (.x 8)
      (.chk (.one (.x 4)) (
      .jump [(.x 4)]))
      (.jump [(.x 3)]))))) (
    .op (.bin .add (.x 4) (.c (.v (.int .i64 1)))) (
    .jump [(.x 7), (.x 8)])))
    (.esc (.jump [(.x 3)]))))))
  (.jump [(.cell 0 1)]))) (
.op (.mkl (.agg [(.v (.int .i64 0)), (.v (.int .i64 0)), (.v (.string ⟨#[]⟩)), .nils]) 0 []) (
.bind 1 (
 .loop [(.x 3), (.c (.v (.int .i64 0)))] (
  .op (.lenL (.cell 0 3)) (
  .op (.bin .lss (.x 5) (.x 6)) (
  .ite (.x 7)
   (.op (.elem 4 (.cell 0 3) (.x 5)) (
   .chk (.cells (.x 8) 4) (
   .op (.call F.spec_l7Small [(.x 8), (.x 1)] false) (
   .chk (.cells (.x 9) 4) (
   .op (.mkl (.agg [(.v (.int .i64 0)), (.v (.int .i64 0)), (.v (.string ⟨#[]⟩)), .nils]) 1 [(0, (.x 9))]) (
   .op (.app 4 56 (.x 4) (.x 10)) (
   .op (.bin .add (.x 5) (.c (.v (.int .i64 1)))) (
   .jump [(.x 11), (.x 12)]))))))))
   (.esc (.jump [(.x 4)])))))) (
.chk (.one (.cell 0 0)) (
.chk (.one (.x 2)) (
.chk (.one (.cell 0 2)) (
.ret [(.agg [(.cell 0 0), (.x 2), (.cell 0 2), (.sl (.x 4))])])))))))))
theorem T.spec_l7Small_l : leftF Try.prog CF Try.f27 = some (2, T.spec_l7Small) := by kernel_rfl
theorem T.spec_l7Small_con {args : List AV} {res : AV} (hl : args.length = 2) (hn : AV.norefs args = true) (hw : wpT Try.prog (fun _ _ _ => False) (fun a => a = res) T.spec_l7Small args []) : PCon Try.prog F.spec_l7Small args res :=
  con_auto Try.func27 T.spec_l7Small_l hl hn hw
-- spec_l7Fits: no walk
def T.impl_TyOk : T :=
.chk (.cells (.x 0) 4) (
.bind 1 (
 .chk (.cells (.x 0) 4) (
 .op (.call F.impl_tyHeadOk [(.x 0)] false) (
 .ite (.x 1)
  (.op (.call F.slices_ContainsFunc__impl_Ty_impl_Ty [(.cell 0 3), (.c (.fn F.impl_TyOk_1 []))] false) (
  .op (.un .not (.x 2)) (
  .jump [(.x 3)])))
  (.jump [(.c (.v (.bool false)))])))) (
.ret [(.x 1)]))
theorem T.impl_TyOk_l : leftF Try.prog CF Try.f29 = some (1, T.impl_TyOk) := by kernel_rfl
theorem T.impl_TyOk_con {args : List AV} {res : AV} (hl : args.length = 1) (hn : AV.norefs args = true) (hw : wpT Try.prog (fun _ _ _ => False) (fun a => a = res) T.impl_TyOk args []) : PCon Try.prog F.impl_TyOk args res :=
  con_auto Try.func29 T.impl_TyOk_l hl hn hw
def T.impl_Free : T :=
.chk (.cells (.x 0) 4) (
.bind 0 (
 .bind 1 (
  .op (.call F.impl_isVarKind [(.x 1)] false) (
  .op (.un .not (.x 2)) (
  .ite (.x 3)
   (.jump [(.c (.v (.bool true)))])
   (.chk (.cells (.x 0) 4) (
   .op (.call F.impl_TyOk [(.x 0)] false) (
   .op (.un .not (.x 4)) (
   .jump [(.x 5)]))))))) (
 .ite (.x 2)
  (.esc (.ret [(.sl (.c (.sl [])))]))
  (.jump []))) (
.chk (.cells (.x 0) 4) (
.op (.fcall true 3 1 F.impl_frees [(.x 0), (.x 1)]) (
.ret [(.sl (.x 2))]))))
theorem T.impl_Free_l : leftR Try.prog CF true 3 1 Try.f30 = some (2, T.impl_Free) := by kernel_rfl
theorem T.impl_Free_fcon {args xs : List AV} (hl : args.length = 2) (hn : AV.norefs args = true) (hw : wpT Try.prog (fun _ _ _ => False) (fun a => a = .sl xs) T.impl_Free args []) : FCon Try.prog F.impl_Free args true 3 1 xs :=
  fcon_auto Try.func30 T.impl_Free_l hl hn hw
-- impl_puts: no walk
def T.spec_l4Node : T :=
.chk (.cells (.x 0) 4) (
.op (.lenL (.cell 0 3)) (
.bind 0 (
 .bind 1 (
  .op (.bin .neq (.cell 0 0) (.c (.v (.int .i64 7)))) (
  .ite (.x 2)
   (.op (.bin .neq (.cell 0 2) (.c (.v (.string ⟨#[]⟩)))) (
   .ite (.x 3)
    (.jump [(.c (.v (.bool true)))])
    (.op (.bin .lss (.cell 0 0) (.c (.v (.int .i64 9)))) (
    .ite (.x 4)
     (.op (.bin .neq (.cell 0 1) (.c (.v (.int .i64 0)))) (
     .jump [(.x 5)]))
     (.jump [(.c (.v (.bool false)))])))))
   (.op (.bin .lss (.cell 0 0) (.c (.v (.int .i64 9)))) (
   .ite (.x 3)
    (.op (.bin .neq (.cell 0 1) (.c (.v (.int .i64 0)))) (
    .jump [(.x 4)]))
    (.jump [(.c (.v (.bool false)))]))))) (
 .ite (.x 2)
  (.esc (.ret [(.c (.v (.bool false)))]))
  (.jump []))) (
.bind 0 (
 .bind 1 (
  .op (.bin .eql (.cell 0 0) (.c (.v (.int .i64 1)))) (
  .ite (.x 2)
   (.jump [(.x 2)])
   (.op (.bin .eql (.cell 0 0) (.c (.v (.int .i64 2)))) (
   .ite (.x 3)
    (.jump [(.x 3)])
    (.op (.bin .eql (.cell 0 0) (.c (.v (.int .i64 3)))) (
    .ite (.x 4)
     (.jump [(.x 4)])
     (.op (.bin .eql (.cell 0 0) (.c (.v (.int .i64 4)))) (
     .jump [(.x 5)])))))))) (
 .ite (.x 2)
  (.op (.bin .eql (.x 1) (.c (.v (.int .i64 0)))) (
  .esc (.ret [(.x 3)])))
  (.op (.bin .eql (.cell 0 0) (.c (.v (.int .i64 5)))) (
  .ite (.x 3)
   (.op (.bin .eql (.x 1) (.c (.v (.int .i64 2)))) (
   .esc (.ret [(.x 4)])))
   (.op (.bin .eql (.cell 0 0) (.c (.v (.int .i64 6)))) (
   .ite (.x 4)
    (.op (.bin .geq (.x 1) (.c (.v (.int .i64 2)))) (
    .esc (.ret [(.x 5)])))
    (.op (.bin .eql (.cell 0 0) (.c (.v (.int .i64 7)))) (
    .ite (.x 5)
     (.op (.call F.spec_l1Low [(.cell 0 2)] false) (
     .esc (.ret [(.x 6)])))
     (.op (.bin .eql (.cell 0 0) (.c (.v (.int .i64 8)))) (
     .ite (.x 6)
      (.op (.bin .eql (.x 1) (.c (.v (.int .i64 1)))) (
      .esc (.ret [(.x 7)])))
      (.bind 1 (
       .op (.bin .eql (.cell 0 0) (.c (.v (.int .i64 9)))) (
       .ite (.x 7)
        (.jump [(.x 7)])
        (.op (.bin .eql (.cell 0 0) (.c (.v (.int .i64 10)))) (
        .ite (.x 8)
         (.jump [(.x 8)])
         (.op (.bin .eql (.cell 0 0) (.c (.v (.int .i64 11)))) (
         .jump [(.x 9)])))))) (
      .ite (.x 7)
       (.bind 1 (
        .op (.bin .eql (.x 1) (.c (.v (.int .i64 0)))) (
        .ite (.x 8)
         (.op (.bin .geq (.cell 0 1) (.c (.v (.int .i64 0)))) (
         .jump [(.x 9)]))
         (.jump [(.c (.v (.bool false)))]))) (
       .esc (.ret [(.x 8)])))
       (.jump []))))))))))))) (
.ret [(.c (.v (.bool false)))]))))
theorem T.spec_l4Node_l : leftF Try.prog CF Try.f38 = some (1, T.spec_l4Node) := by kernel_rfl
theorem T.spec_l4Node_con {args : List AV} {res : AV} (hl : args.length = 1) (hn : AV.norefs args = true) (hw : wpT Try.prog (fun _ _ _ => False) (fun a => a = res) T.spec_l4Node args []) : PCon Try.prog F.spec_l4Node args res :=
  con_auto Try.func38 T.spec_l4Node_l hl hn hw
def T.spec_l1In : T :=
.bind 1 (
 .op (.bin .geq (.x 0) (.x 1)) (
 .ite (.x 3)
  (.op (.bin .leq (.x 0) (.x 2)) (
  .jump [(.x 4)]))
  (.jump [(.c (.v (.bool false)))]))) (
.ret [(.x 3)])
theorem T.spec_l1In_l : leftF Try.prog CF Try.f39 = some (3, T.spec_l1In) := by kernel_rfl
theorem T.spec_l1In_con {args : List AV} {res : AV} (hl : args.length = 3) (hn : AV.norefs args = true) (hw : wpT Try.prog (fun _ _ _ => False) (fun a => a = res) T.spec_l1In args []) : PCon Try.prog F.spec_l1In args res :=
  con_auto Try.func39 T.spec_l1In_l hl hn hw
def T.spec_l4Free : T :=
.chk (.cells (.x 0) 4) (
.bind 1 (
 .bind 1 (
  .op (.bin .eql (.cell 0 0) (.x 1)) (
  .ite (.x 3)
   (.op (.call F.spec_l4Has [(.sl (.x 2)), (.cell 0 1)] true) (
   .op (.un .not (.x 4)) (
   .jump [(.x 5)])))
   (.jump [(.c (.v (.bool false)))]))) (
 .ite (.x 3)
  (.chk (.one (.cell 0 1)) (
  .op (.mkl (.v (.int .i64 0)) 1 [(0, (.cell 0 1))]) (
  .op (.app 1 8 (.x 2) (.sl (.x 4))) (
  .jump [(.x 5)]))))
  (.jump [(.x 2)]))) (
.bind 1 (
 .loop [(.x 3), (.c (.v (.int .i64 0)))] (
  .op (.lenL (.cell 0 3)) (
  .op (.bin .lss (.x 5) (.x 6)) (
  .ite (.x 7)
   (.op (.elem 4 (.cell 0 3) (.x 5)) (
   .chk (.cells (.x 8) 4) (
   .op (.scall F.spec_l4Free G.spec_l4Free [(.x 8), (.x 1), (.x 4)]) (
   .op (.bin .add (.x 5) (.c (.v (.int .i64 1)))) (
   .jump [(.ext 9 0), (.x 10)])))))
   (.esc (.jump [(.x 4)])))))) (
.ret [(.x 4)])))
theorem T.spec_l4Free_l : leftS Try.prog CF G.spec_l4Free Try.f40 = some T.spec_l4Free := by kernel_rfl
theorem T.spec_l4Free_scon {ins outs : List AV} (hl : ins.length = 3) (ho : outs.length = 1) (hn : AV.norefs ins = true) (hw : wpT Try.prog (fun _ _ _ => False) (fun a => a = packR outs) T.spec_l4Free ins []) : SCon Try.prog F.spec_l4Free G.spec_l4Free ins outs :=
  scon_auto Try.func40 T.spec_l4Free_l hl hn ho hw
-- impl_unifyOk: no walk
def T.impl_isVarKind : T :=
.op (.call F.impl_within [(.x 0), (.c (.v (.int .i64 9))), (.c (.v (.int .i64 11)))] false) (
.ret [(.x 1)])
theorem T.impl_isVarKind_l : leftF Try.prog CF Try.f49 = some (1, T.impl_isVarKind) := by kernel_rfl
theorem T.impl_isVarKind_con {args : List AV} {res : AV} (hl : args.length = 1) (hn : AV.norefs args = true) (hw : wpT Try.prog (fun _ _ _ => False) (fun a => a = res) T.impl_isVarKind args []) : PCon Try.prog F.impl_isVarKind args res :=
  con_auto Try.func49 T.impl_isVarKind_l hl hn hw
def T.slices_EqualFunc__impl_Ty__impl_Ty_impl_Ty_impl_Ty : T :=
.op (.lenL (.x 0)) (
.op (.lenL (.x 1)) (
.op (.bin .neq (.x 3) (.x 4)) (
.ite (.x 5)
 (.ret [(.c (.v (.bool false)))])
 (.bind 0 (
  .op (.lenL (.x 0)) (
  .loop [(.c (.v (.int .i64 0)))] (
   .op (.bin .lss (.x 7) (.x 6)) (
   .ite (.x 8)
    (.op (.elem 4 (.x 0) (.x 7)) (
    .chk (.cells (.x 9) 4) (
    .chk (.cells (.x 9) 4) (
    .op (.elem 4 (.x 1) (.x 7)) (
    .chk (.cells (.x 10) 4) (
    .chk (.cells (.x 10) 4) (
    .chk (.cells (.x 9) 4) (
    .chk (.cells (.x 10) 4) (
    .op (.callv (.x 2) [(.x 9), (.x 10)] false) (
    .op (.un .not (.x 11)) (
    .ite (.x 12)
     (.esc (.esc (.ret [(.c (.v (.bool false)))])))
     (.op (.bin .add (.x 7) (.c (.v (.int .i64 1)))) (
     .jump [(.x 13)])))))))))))))
    (.esc (.jump [])))))) (
 .ret [(.c (.v (.bool true)))])))))
theorem T.slices_EqualFunc__impl_Ty__impl_Ty_impl_Ty_impl_Ty_l : leftF Try.prog CF Try.f52 = some (3, T.slices_EqualFunc__impl_Ty__impl_Ty_impl_Ty_impl_Ty) := by kernel_rfl
theorem T.slices_EqualFunc__impl_Ty__impl_Ty_impl_Ty_impl_Ty_con {args : List AV} {res : AV} (hl : args.length = 3) (hn : AV.norefs args = true) (hw : wpT Try.prog (fun _ _ _ => False) (fun a => a = res) T.slices_EqualFunc__impl_Ty__impl_Ty_impl_Ty_impl_Ty args []) : PCon Try.prog F.slices_EqualFunc__impl_Ty__impl_Ty_impl_Ty_impl_Ty args res :=
  con_auto Try.func52 T.slices_EqualFunc__impl_Ty__impl_Ty_impl_Ty_impl_Ty_l hl hn hw
def T.spec_SameTy : T :=
.chk (.cells (.x 0) 4) (
.chk (.cells (.x 1) 4) (
.bind 0 (
 .bind 1 (
  .op (.bin .neq (.cell 0 0) (.cell 1 0)) (
  .ite (.x 2)
   (.jump [(.c (.v (.bool true)))])
   (.op (.bin .neq (.cell 0 1) (.cell 1 1)) (
   .ite (.x 3)
    (.jump [(.c (.v (.bool true)))])
    (.op (.bin .neq (.cell 0 2) (.cell 1 2)) (
    .ite (.x 4)
     (.jump [(.c (.v (.bool true)))])
     (.op (.lenL (.cell 0 3)) (
     .op (.lenL (.cell 1 3)) (
     .op (.bin .neq (.x 5) (.x 6)) (
     .jump [(.x 7)])))))))))) (
 .ite (.x 2)
  (.esc (.ret [(.c (.v (.bool false)))]))
  (.jump []))) (
.bind 0 (
 .loop [(.c (.v (.int .i64 0)))] (
  .op (.lenL (.cell 0 3)) (
  .op (.bin .lss (.x 2) (.x 3)) (
  .ite (.x 4)
   (.op (.elem 4 (.cell 0 3) (.x 2)) (
   .chk (.cells (.x 5) 4) (
   .op (.elem 4 (.cell 1 3) (.x 2)) (
   .chk (.cells (.x 6) 4) (
   .op (.call F.spec_SameTy [(.x 5), (.x 6)] true) (
   .op (.un .not (.x 7)) (
   .ite (.x 8)
    (.esc (.esc (.ret [(.c (.v (.bool false)))])))
    (.op (.bin .add (.x 2) (.c (.v (.int .i64 1)))) (
    .jump [(.x 9)])))))))))
   (.esc (.jump [])))))) (
.ret [(.c (.v (.bool true)))]))))
theorem T.spec_SameTy_l : leftF Try.prog CF Try.f61 = some (2, T.spec_SameTy) := by kernel_rfl
theorem T.spec_SameTy_con {args : List AV} {res : AV} (hl : args.length = 2) (hn : AV.norefs args = true) (hw : wpT Try.prog (fun _ _ _ => False) (fun a => a = res) T.spec_SameTy args []) : PCon Try.prog F.spec_SameTy args res :=
  con_auto Try.func61 T.spec_SameTy_l hl hn hw
def T.impl_tyHeadOk : T :=
.chk (.cells (.x 0) 4) (
.op (.lenL (.cell 0 3)) (
.op (.bin .eql (.x 1) (.c (.v (.int .i64 0)))) (
.op (.bin .eql (.cell 0 2) (.c (.v (.string ⟨#[]⟩)))) (
.op (.bin .eql (.cell 0 1) (.c (.v (.int .i64 0)))) (
.bind 3 (
 .bind 1 (
  .op (.bin .eql (.cell 0 0) (.c (.v (.int .i64 1)))) (
  .ite (.x 5)
   (.jump [(.x 5)])
   (.op (.bin .eql (.cell 0 0) (.c (.v (.int .i64 2)))) (
   .ite (.x 6)
    (.jump [(.x 6)])
    (.op (.bin .eql (.cell 0 0) (.c (.v (.int .i64 3)))) (
    .ite (.x 7)
     (.jump [(.x 7)])
     (.op (.bin .eql (.cell 0 0) (.c (.v (.int .i64 4)))) (
     .jump [(.x 8)])))))))) (
 .ite (.x 5)
  (.jump [(.x 2), (.x 3), (.x 4)])
  (.op (.bin .eql (.cell 0 0) (.c (.v (.int .i64 5)))) (
  .ite (.x 6)
   (.op (.lenL (.cell 0 3)) (
   .op (.bin .eql (.x 7) (.c (.v (.int .i64 2)))) (
   .jump [(.x 8), (.x 3), (.x 4)])))
   (.op (.bin .eql (.cell 0 0) (.c (.v (.int .i64 6)))) (
   .ite (.x 7)
    (.op (.lenL (.cell 0 3)) (
    .op (.bin .geq (.x 8) (.c (.v (.int .i64 2)))) (
    .jump [(.x 9), (.x 3), (.x 4)])))
    (.op (.bin .eql (.cell 0 0) (.c (.v (.int .i64 7)))) (
    .ite (.x 8)
     (.op (.call F.impl_lowOk [(.cell 0 2)] false) (
     .jump [(.c (.v (.bool true))), (.x 9), (.x 4)]))
     (.op (.bin .eql (.cell 0 0) (.c (.v (.int .i64 8)))) (
     .ite (.x 9)
      (.op (.lenL (.cell 0 3)) (
      .op (.bin .eql (.x 10) (.c (.v (.int .i64 1)))) (
      .jump [(.x 11), (.x 3), (.x 4)])))
      (.bind 1 (
       .op (.bin .eql (.cell 0 0) (.c (.v (.int .i64 9)))) (
       .ite (.x 10)
        (.jump [(.x 10)])
        (.op (.bin .eql (.cell 0 0) (.c (.v (.int .i64 10)))) (
        .ite (.x 11)
         (.jump [(.x 11)])
         (.op (.bin .eql (.cell 0 0) (.c (.v (.int .i64 11)))) (
         .jump [(.x 12)])))))) (
      .ite (.x 10)
       (.op (.bin .geq (.cell 0 1) (.c (.v (.int .i64 0)))) (
       .jump [(.x 2), (.x 3), (.x 11)]))
       (.esc (.ret [(.c (.v (.bool false)))])))))))))))))) (
.bind 1 (
 .ite (.x 5)
  (.ite (.x 6)
   (.jump [(.x 7)])
   (.jump [(.c (.v (.bool false)))]))
  (.jump [(.c (.v (.bool false)))])) (
.ret [(.x 8)])))))))
theorem T.impl_tyHeadOk_l : leftF Try.prog CF Try.f62 = some (1, T.impl_tyHeadOk) := by kernel_rfl
theorem T.impl_tyHeadOk_con {args : List AV} {res : AV} (hl : args.length = 1) (hn : AV.norefs args = true) (hw : wpT Try.prog (fun _ _ _ => False) (fun a => a = res) T.impl_tyHeadOk args []) : PCon Try.prog F.impl_tyHeadOk args res :=
  con_auto Try.func62 T.impl_tyHeadOk_l hl hn hw
def T.slices_ContainsFunc__impl_Ty_impl_Ty : T :=
.op (.call F.slices_IndexFunc__impl_Ty_impl_Ty [(.x 0), (.x 1)] false) (
.op (.bin .geq (.x 2) (.c (.v (.int .i64 0)))) (
.ret [(.x 3)]))
theorem T.slices_ContainsFunc__impl_Ty_impl_Ty_l : leftF Try.prog CF Try.f63 = some (2, T.slices_ContainsFunc__impl_Ty_impl_Ty) := by kernel_rfl
theorem T.slices_ContainsFunc__impl_Ty_impl_Ty_con {args : List AV} {res : AV} (hl : args.length = 2) (hn : AV.norefs args = true) (hw : wpT Try.prog (fun _ _ _ => False) (fun a => a = res) T.slices_ContainsFunc__impl_Ty_impl_Ty args []) : PCon Try.prog F.slices_ContainsFunc__impl_Ty_impl_Ty args res :=
  con_auto Try.func63 T.slices_ContainsFunc__impl_Ty_impl_Ty_l hl hn hw
def T.impl_TyOk_1 : T :=
.chk (.cells (.x 0) 4) (
.chk (.cells (.x 0) 4) (
.op (.call F.impl_TyOk [(.x 0)] false) (
.op (.un .not (.x 1)) (
.ret [(.x 2)]))))
theorem T.impl_TyOk_1_l : leftF Try.prog CF Try.f64 = some (1, T.impl_TyOk_1) := by kernel_rfl
theorem T.impl_TyOk_1_con {args : List AV} {res : AV} (hl : args.length = 1) (hn : AV.norefs args = true) (hw : wpT Try.prog (fun _ _ _ => False) (fun a => a = res) T.impl_TyOk_1 args []) : PCon Try.prog F.impl_TyOk_1 args res :=
  con_auto Try.func64 T.impl_TyOk_1_l hl hn hw
def T.impl_frees : T :=
.chk (.cells (.x 0) 4) (
.bind 1 (
 .op (.bin .eql (.cell 0 0) (.x 1)) (
 .ite (.x 2)
  (.chk (.one (.cell 0 1)) (
  .op (.mkl (.v (.int .i64 0)) 1 [(0, (.cell 0 1))]) (
  .op (.app 1 8 (.c (.sl [])) (.sl (.x 3))) (
  .jump [(.x 4)]))))
  (.jump [(.c (.sl []))]))) (
.bind 1 (
 .op (.lenL (.cell 0 3)) (
 .loop [(.x 2), (.c (.v (.int .i64 0)))] (
  .op (.bin .lss (.x 5) (.x 3)) (
  .ite (.x 6)
   (.bind 6 (
    .op (.elem 4 (.cell 0 3) (.x 5)) (
    .chk (.cells (.x 7) 4) (
    .chk (.cells (.x 7) 4) (
    .chk (.cells (.x 7) 4) (
    .op (.fcall true 3 1 F.impl_frees [(.x 7), (.x 1)]) (
    .op (.lenL (.sl (.x 8))) (
    .loop [(.x 4), (.c (.v (.int .i64 0)))] (
     .op (.bin .lss (.x 11) (.x 9)) (
     .ite (.x 12)
      (.bind 1 (
       .chk (.idx (.x 8) (.x 11)) (
       .op (.get (.x 8) (.x 11) 0 none) (
       .op (.call F.slices_Contains__int_int [(.sl (.x 10)), (.x 13)] true) (
       .op (.un .not (.x 14)) (
       .ite (.x 15)
        (.chk (.one (.x 13)) (
        .op (.mkl (.v (.int .i64 0)) 1 [(0, (.x 13))]) (
        .op (.app 1 8 (.x 10) (.sl (.x 16))) (
        .jump [(.x 17)]))))
        (.jump [(.x 10)])))))) (
      .op (.bin .add (.x 11) (.c (.v (.int .i64 1)))) (
      .jump [(.x 13), (.x 14)])))
      (.esc (.jump [(.x 10), (.cell 7 0), (.cell 7 1), (.cell 7 2), (.cell 7 3), (.x 8)]))))))))))) (
   .op (.bin .add (.x 5) (.c (.v (.int .i64 1)))) (
   .jump [(.x 7), (.x 13)])))
   (.esc (.jump [(.x 4)])))))) (
.ret [(.sl (.x 3))])))
theorem T.impl_frees_l : leftR Try.prog CF true 3 1 Try.f65 = some (2, T.impl_frees) := by kernel_rfl
theorem T.impl_frees_fcon {args xs : List AV} (hl : args.length = 2) (hn : AV.norefs args = true) (hw : wpT Try.prog (fun _ _ _ => False) (fun a => a = .sl xs) T.impl_frees args []) : FCon Try.prog F.impl_frees args true 3 1 xs :=
  fcon_auto Try.func65 T.impl_frees_l hl hn hw
def T.spec_l1Low : T :=
.bind 1 (
 .op (.call F.spec_l1Name [(.x 0), (.c (.v (.bool false)))] false) (
 .ite (.x 1)
  (.op (.call F.spec_l1Key [(.x 0)] false) (
  .op (.un .not (.x 2)) (
  .jump [(.x 3)])))
  (.jump [(.c (.v (.bool false)))]))) (
.ret [(.x 1)])
theorem T.spec_l1Low_l : leftF Try.prog CF Try.f71 = some (1, T.spec_l1Low) := by kernel_rfl
theorem T.spec_l1Low_con {args : List AV} {res : AV} (hl : args.length = 1) (hn : AV.norefs args = true) (hw : wpT Try.prog (fun _ _ _ => False) (fun a => a = res) T.spec_l1Low args []) : PCon Try.prog F.spec_l1Low args res :=
  con_auto Try.func71 T.spec_l1Low_l hl hn hw
def T.spec_l4Has : T :=
.bind 0 (
 .loop [(.c (.v (.int .i64 0)))] (
  .op (.lenL (.x 0)) (
  .op (.bin .lss (.x 2) (.x 3)) (
  .ite (.x 4)
   (.op (.elem 1 (.x 0) (.x 2)) (
   .chk (.lt (.x 5) 0) (
   .op (.bin .eql (.cell 5 0) (.x 1)) (
   .ite (.x 6)
    (.esc (.esc (.ret [(.c (.v (.bool true)))])))
    (.op (.bin .add (.x 2) (.c (.v (.int .i64 1)))) (
    .jump [(.x 7)]))))))
   (.esc (.jump [])))))) (
.ret [(.c (.v (.bool false)))])
theorem T.spec_l4Has_l : leftF Try.prog CF Try.f72 = some (2, T.spec_l4Has) := by kernel_rfl
theorem T.spec_l4Has_con {args : List AV} {res : AV} (hl : args.length = 2) (hn : AV.norefs args = true) (hw : wpT Try.prog (fun _ _ _ => False) (fun a => a = res) T.spec_l4Has args []) : PCon Try.prog F.spec_l4Has args res :=
  con_auto Try.func72 T.spec_l4Has_l hl hn hw
def T.impl_within : T :=
.bind 1 (
 .op (.bin .geq (.x 0) (.x 1)) (
 .ite (.x 3)
  (.op (.bin .leq (.x 0) (.x 2)) (
  .jump [(.x 4)]))
  (.jump [(.c (.v (.bool false)))]))) (
.ret [(.x 3)])
theorem T.impl_within_l : leftF Try.prog CF Try.f73 = some (3, T.impl_within) := by kernel_rfl
theorem T.impl_within_con {args : List AV} {res : AV} (hl : args.length = 3) (hn : AV.norefs args = true) (hw : wpT Try.prog (fun _ _ _ => False) (fun a => a = res) T.impl_within args []) : PCon Try.prog F.impl_within args res :=
  con_auto Try.func73 T.impl_within_l hl hn hw
def T.impl_lowOk : T :=
.bind 1 (
 .op (.call F.impl_isName [(.x 0), (.c (.fn F.impl_small []))] false) (
 .ite (.x 1)
  (.op (.call F.impl_isKey [(.x 0)] false) (
  .op (.un .not (.x 2)) (
  .jump [(.x 3)])))
  (.jump [(.c (.v (.bool false)))]))) (
.ret [(.x 1)])
theorem T.impl_lowOk_l : leftF Try.prog CF Try.f80 = some (1, T.impl_lowOk) := by kernel_rfl
theorem T.impl_lowOk_con {args : List AV} {res : AV} (hl : args.length = 1) (hn : AV.norefs args = true) (hw : wpT Try.prog (fun _ _ _ => False) (fun a => a = res) T.impl_lowOk args []) : PCon Try.prog F.impl_lowOk args res :=
  con_auto Try.func80 T.impl_lowOk_l hl hn hw
def T.slices_IndexFunc__impl_Ty_impl_Ty : T :=
.bind 0 (
 .op (.lenL (.x 0)) (
 .loop [(.c (.v (.int .i64 0)))] (
  .op (.bin .lss (.x 3) (.x 2)) (
  .ite (.x 4)
   (.op (.elem 4 (.x 0) (.x 3)) (
   .chk (.cells (.x 5) 4) (
   .op (.callv (.x 1) [(.x 5)] false) (
   .ite (.x 6)
    (.esc (.esc (.ret [(.x 3)])))
    (.op (.bin .add (.x 3) (.c (.v (.int .i64 1)))) (
    .jump [(.x 7)]))))))
   (.esc (.jump [])))))) (
.ret [(.c (.v (.int .i64 (-1))))])
theorem T.slices_IndexFunc__impl_Ty_impl_Ty_l : leftF Try.prog CF Try.f81 = some (2, T.slices_IndexFunc__impl_Ty_impl_Ty) := by kernel_rfl
theorem T.slices_IndexFunc__impl_Ty_impl_Ty_con {args : List AV} {res : AV} (hl : args.length = 2) (hn : AV.norefs args = true) (hw : wpT Try.prog (fun _ _ _ => False) (fun a => a = res) T.slices_IndexFunc__impl_Ty_impl_Ty args []) : PCon Try.prog F.slices_IndexFunc__impl_Ty_impl_Ty args res :=
  con_auto Try.func81 T.slices_IndexFunc__impl_Ty_impl_Ty_l hl hn hw
def T.slices_Contains__int_int : T :=
.op (.call F.slices_Index__int_int [(.x 0), (.x 1)] false) (
.op (.bin .geq (.x 2) (.c (.v (.int .i64 0)))) (
.ret [(.x 3)]))
theorem T.slices_Contains__int_int_l : leftF Try.prog CF Try.f82 = some (2, T.slices_Contains__int_int) := by kernel_rfl
theorem T.slices_Contains__int_int_con {args : List AV} {res : AV} (hl : args.length = 2) (hn : AV.norefs args = true) (hw : wpT Try.prog (fun _ _ _ => False) (fun a => a = res) T.slices_Contains__int_int args []) : PCon Try.prog F.slices_Contains__int_int args res :=
  con_auto Try.func82 T.slices_Contains__int_int_l hl hn hw
def T.spec_l1Name : T :=
.bind 0 (
 .bind 1 (
  .op (.lenS (.x 0)) (
  .op (.call F.spec_l1In [(.x 2), (.c (.v (.int .i64 1))), (.c (.v (.int .i64 12)))] false) (
  .op (.un .not (.x 3)) (
  .ite (.x 4)
   (.jump [(.c (.v (.bool true)))])
   (.op (.idxS (.x 0) (.c (.v (.int .i64 0)))) (
   .op (.conv .i64 (.x 5)) (
   .op (.call F.spec_l1Upper [(.x 6)] false) (
   .op (.beq true (.x 1) (.x 7)) (
   .ite (.x 8)
    (.jump [(.c (.v (.bool true)))])
    (.op (.un .not (.x 1)) (
    .ite (.x 9)
     (.op (.idxS (.x 0) (.c (.v (.int .i64 0)))) (
     .op (.conv .i64 (.x 10)) (
     .op (.call F.spec_l1Lower [(.x 11)] false) (
     .op (.un .not (.x 12)) (
     .jump [(.x 13)])))))
     (.jump [(.c (.v (.bool false)))])))))))))))) (
 .ite (.x 2)
  (.esc (.ret [(.c (.v (.bool false)))]))
  (.jump []))) (
.bind 0 (
 .loop [(.c (.v (.int .i64 0)))] (
  .op (.lenS (.x 0)) (
  .op (.bin .lss (.x 2) (.x 3)) (
  .ite (.x 4)
   (.op (.idxS (.x 0) (.x 2)) (
   .op (.conv .i64 (.x 5)) (
   .op (.call F.spec_l1NameByte [(.x 6)] false) (
   .op (.un .not (.x 7)) (
   .ite (.x 8)
    (.esc (.esc (.ret [(.c (.v (.bool false)))])))
    (.op (.bin .add (.x 2) (.c (.v (.int .i64 1)))) (
    .jump [(.x 9)])))))))
   (.esc (.jump [])))))) (
.ret [(.c (.v (.bool true)))]))
theorem T.spec_l1Name_l : leftF Try.prog CF Try.f84 = some (2, T.spec_l1Name) := by kernel_rfl
theorem T.spec_l1Name_con {args : List AV} {res : AV} (hl : args.length = 2) (hn : AV.norefs args = true) (hw : wpT Try.prog (fun _ _ _ => False) (fun a => a = res) T.spec_l1Name args []) : PCon Try.prog F.spec_l1Name args res :=
  con_auto Try.func84 T.spec_l1Name_l hl hn hw
def T.spec_l1Key : T :=
.chk (.one (.c (.v (.string ⟨#[116, 121, 112, 101]⟩)))) (
.chk (.one (.c (.v (.string ⟨#[111, 102]⟩)))) (
.chk (.one (.c (.v (.string ⟨#[108, 101, 116]⟩)))) (
.chk (.one (.c (.v (.string ⟨#[114, 101, 99]⟩)))) (
.chk (.one (.c (.v (.string ⟨#[105, 110]⟩)))) (
.chk (.one (.c (.v (.string ⟨#[102, 117, 110]⟩)))) (
.chk (.one (.c (.v (.string ⟨#[105, 102]⟩)))) (
.chk (.one (.c (.v (.string ⟨#[116, 104, 101, 110]⟩)))) (
.chk (.one (.c (.v (.string ⟨#[101, 108, 115, 101]⟩)))) (
.chk (.one (.c (.v (.string ⟨#[109, 97, 116, 99, 104]⟩)))) (
.chk (.one (.c (.v (.string ⟨#[119, 105, 116, 104]⟩)))) (
.chk (.one (.c (.v (.string ⟨#[101, 110, 100]⟩)))) (
.chk (.one (.c (.v (.string ⟨#[116, 114, 117, 101]⟩)))) (
.chk (.one (.c (.v (.string ⟨#[102, 97, 108, 115, 101]⟩)))) (
.chk (.one (.c (.v (.string ⟨#[114, 101, 102]⟩)))) (
.chk (.one (.c (.v (.string ⟨#[114, 101, 97, 100]⟩)))) (
.chk (.one (.c (.v (.string ⟨#[112, 114, 105, 110, 116]⟩)))) (
.chk (.one (.c (.v (.string ⟨#[101, 120, 105, 116]⟩)))) (
.chk (.one (.c (.v (.string ⟨#[115, 105, 122, 101]⟩)))) (
.op (.mkl (.v (.string ⟨#[]⟩)) 19 [(0, (.c (.v (.string ⟨#[116, 121, 112, 101]⟩)))), (1, (.c (.v (.string ⟨#[111, 102]⟩)))), (2, (.c (.v (.string ⟨#[108, 101, 116]⟩)))), (3, (.c (.v (.string ⟨#[114, 101, 99]⟩)))), (4, (.c (.v (.string ⟨#[105, 110]⟩)))), (5, (.c (.v (.string ⟨#[102, 117, 110]⟩)))), (6, (.c (.v (.string ⟨#[105, 102]⟩)))), (7, (.c (.v (.string ⟨#[116, 104, 101, 110]⟩)))), (8, (.c (.v (.string ⟨#[101, 108, 115, 101]⟩)))), (9, (.c (.v (.string ⟨#[109, 97, 116, 99, 104]⟩)))), (10, (.c (.v (.string ⟨#[119, 105, 116, 104]⟩)))), (11, (.c (.v (.string ⟨#[101, 110, 100]⟩)))), (12, (.c (.v (.string ⟨#[116, 114, 117, 101]⟩)))), (13, (.c (.v (.string ⟨#[102, 97, 108, 115, 101]⟩)))), (14, (.c (.v (.string ⟨#[114, 101, 102]⟩)))), (15, (.c (.v (.string ⟨#[114, 101, 97, 100]⟩)))), (16, (.c (.v (.string ⟨#[112, 114, 105, 110, 116]⟩)))), (17, (.c (.v (.string ⟨#[101, 120, 105, 116]⟩)))), (18, (.c (.v (.string ⟨#[115, 105, 122, 101]⟩))))]) (
.bind 0 (
 .loop [(.c (.v (.int .i64 0)))] (
  .op (.lenL (.sl (.x 1))) (
  .op (.bin .lss (.x 2) (.x 3)) (
  .ite (.x 4)
   (.chk (.idx (.x 1) (.x 2)) (
   .op (.get (.x 1) (.x 2) 0 none) (
   .op (.bin .eql (.x 5) (.x 0)) (
   .ite (.x 6)
    (.esc (.esc (.ret [(.c (.v (.bool true)))])))
    (.op (.bin .add (.x 2) (.c (.v (.int .i64 1)))) (
    .jump [(.x 7)]))))))
   (.esc (.jump [])))))) (
.ret [(.c (.v (.bool false)))])))))))))))))))))))))
theorem T.spec_l1Key_l : leftF Try.prog CF Try.f85 = some (1, T.spec_l1Key) := by kernel_rfl
theorem T.spec_l1Key_con {args : List AV} {res : AV} (hl : args.length = 1) (hn : AV.norefs args = true) (hw : wpT Try.prog (fun _ _ _ => False) (fun a => a = res) T.spec_l1Key args []) : PCon Try.prog F.spec_l1Key args res :=
  con_auto Try.func85 T.spec_l1Key_l hl hn hw
def T.impl_isName : T :=
.bind 1 (
 .op (.lenS (.x 0)) (
 .op (.call F.impl_within [(.x 2), (.c (.v (.int .i64 1))), (.c (.v (.int .i64 12)))] false) (
 .ite (.x 3)
  (.op (.idxS (.x 0) (.c (.v (.int .i64 0)))) (
  .op (.callv (.x 1) [(.x 4)] false) (
  .ite (.x 5)
   (.op (.call F.impl_run [(.x 0), (.c (.v (.int .i64 0))), (.c (.fn F.impl_nameByte []))] false) (
   .op (.lenS (.x 0)) (
   .op (.bin .eql (.x 6) (.x 7)) (
   .jump [(.x 8)]))))
   (.jump [(.c (.v (.bool false)))]))))
  (.jump [(.c (.v (.bool false)))])))) (
.ret [(.x 2)])
theorem T.impl_isName_l : leftF Try.prog CF Try.f88 = some (2, T.impl_isName) := by kernel_rfl
theorem T.impl_isName_con {args : List AV} {res : AV} (hl : args.length = 2) (hn : AV.norefs args = true) (hw : wpT Try.prog (fun _ _ _ => False) (fun a => a = res) T.impl_isName args []) : PCon Try.prog F.impl_isName args res :=
  con_auto Try.func88 T.impl_isName_l hl hn hw
def T.impl_small : T :=
.bind 1 (
 .op (.bin .geq (.x 0) (.c (.v (.int .u8 97)))) (
 .ite (.x 1)
  (.op (.bin .leq (.x 0) (.c (.v (.int .u8 122)))) (
  .jump [(.x 2)]))
  (.jump [(.c (.v (.bool false)))]))) (
.ret [(.x 1)])
theorem T.impl_small_l : leftF Try.prog CF Try.f89 = some (1, T.impl_small) := by kernel_rfl
theorem T.impl_small_con {args : List AV} {res : AV} (hl : args.length = 1) (hn : AV.norefs args = true) (hw : wpT Try.prog (fun _ _ _ => False) (fun a => a = res) T.impl_small args []) : PCon Try.prog F.impl_small args res :=
  con_auto Try.func89 T.impl_small_l hl hn hw
def T.impl_isKey : T :=
.chk (.one (.c (.v (.string ⟨#[116, 121, 112, 101]⟩)))) (
.chk (.one (.c (.v (.string ⟨#[111, 102]⟩)))) (
.chk (.one (.c (.v (.string ⟨#[108, 101, 116]⟩)))) (
.chk (.one (.c (.v (.string ⟨#[114, 101, 99]⟩)))) (
.chk (.one (.c (.v (.string ⟨#[105, 110]⟩)))) (
.chk (.one (.c (.v (.string ⟨#[102, 117, 110]⟩)))) (
.chk (.one (.c (.v (.string ⟨#[105, 102]⟩)))) (
.chk (.one (.c (.v (.string ⟨#[116, 104, 101, 110]⟩)))) (
.chk (.one (.c (.v (.string ⟨#[101, 108, 115, 101]⟩)))) (
.chk (.one (.c (.v (.string ⟨#[109, 97, 116, 99, 104]⟩)))) (
.chk (.one (.c (.v (.string ⟨#[119, 105, 116, 104]⟩)))) (
.chk (.one (.c (.v (.string ⟨#[101, 110, 100]⟩)))) (
.chk (.one (.c (.v (.string ⟨#[116, 114, 117, 101]⟩)))) (
.chk (.one (.c (.v (.string ⟨#[102, 97, 108, 115, 101]⟩)))) (
.chk (.one (.c (.v (.string ⟨#[114, 101, 102]⟩)))) (
.chk (.one (.c (.v (.string ⟨#[114, 101, 97, 100]⟩)))) (
.chk (.one (.c (.v (.string ⟨#[112, 114, 105, 110, 116]⟩)))) (
.chk (.one (.c (.v (.string ⟨#[101, 120, 105, 116]⟩)))) (
.chk (.one (.c (.v (.string ⟨#[115, 105, 122, 101]⟩)))) (
.op (.mkl (.v (.string ⟨#[]⟩)) 19 [(0, (.c (.v (.string ⟨#[116, 121, 112, 101]⟩)))), (1, (.c (.v (.string ⟨#[111, 102]⟩)))), (2, (.c (.v (.string ⟨#[108, 101, 116]⟩)))), (3, (.c (.v (.string ⟨#[114, 101, 99]⟩)))), (4, (.c (.v (.string ⟨#[105, 110]⟩)))), (5, (.c (.v (.string ⟨#[102, 117, 110]⟩)))), (6, (.c (.v (.string ⟨#[105, 102]⟩)))), (7, (.c (.v (.string ⟨#[116, 104, 101, 110]⟩)))), (8, (.c (.v (.string ⟨#[101, 108, 115, 101]⟩)))), (9, (.c (.v (.string ⟨#[109, 97, 116, 99, 104]⟩)))), (10, (.c (.v (.string ⟨#[119, 105, 116, 104]⟩)))), (11, (.c (.v (.string ⟨#[101, 110, 100]⟩)))), (12, (.c (.v (.string ⟨#[116, 114, 117, 101]⟩)))), (13, (.c (.v (.string ⟨#[102, 97, 108, 115, 101]⟩)))), (14, (.c (.v (.string ⟨#[114, 101, 102]⟩)))), (15, (.c (.v (.string ⟨#[114, 101, 97, 100]⟩)))), (16, (.c (.v (.string ⟨#[112, 114, 105, 110, 116]⟩)))), (17, (.c (.v (.string ⟨#[101, 120, 105, 116]⟩)))), (18, (.c (.v (.string ⟨#[115, 105, 122, 101]⟩))))]) (
.op (.call F.slices_Contains__string_string [(.sl (.x 1)), (.x 0)] true) (
.ret [(.x 2)])))))))))))))))))))))
theorem T.impl_isKey_l : leftF Try.prog CF Try.f90 = some (1, T.impl_isKey) := by kernel_rfl
theorem T.impl_isKey_con {args : List AV} {res : AV} (hl : args.length = 1) (hn : AV.norefs args = true) (hw : wpT Try.prog (fun _ _ _ => False) (fun a => a = res) T.impl_isKey args []) : PCon Try.prog F.impl_isKey args res :=
  con_auto Try.func90 T.impl_isKey_l hl hn hw
def T.slices_Index__int_int : T :=
.bind 0 (
 .op (.lenL (.x 0)) (
 .loop [(.c (.v (.int .i64 0)))] (
  .op (.bin .lss (.x 3) (.x 2)) (
  .ite (.x 4)
   (.op (.elem 1 (.x 0) (.x 3)) (
   .chk (.lt (.x 5) 0) (
   .op (.bin .eql (.x 1) (.cell 5 0)) (
   .ite (.x 6)
    (.esc (.esc (.ret [(.x 3)])))
    (.op (.bin .add (.x 3) (.c (.v (.int .i64 1)))) (
    .jump [(.x 7)]))))))
   (.esc (.jump [])))))) (
.ret [(.c (.v (.int .i64 (-1))))])
theorem T.slices_Index__int_int_l : leftF Try.prog CF Try.f91 = some (2, T.slices_Index__int_int) := by kernel_rfl
theorem T.slices_Index__int_int_con {args : List AV} {res : AV} (hl : args.length = 2) (hn : AV.norefs args = true) (hw : wpT Try.prog (fun _ _ _ => False) (fun a => a = res) T.slices_Index__int_int args []) : PCon Try.prog F.slices_Index__int_int args res :=
  con_auto Try.func91 T.slices_Index__int_int_l hl hn hw
def T.spec_l1Upper : T :=
.op (.call F.spec_l1In [(.x 0), (.c (.v (.int .i64 65))), (.c (.v (.int .i64 90)))] false) (
.ret [(.x 1)])
theorem T.spec_l1Upper_l : leftF Try.prog CF Try.f92 = some (1, T.spec_l1Upper) := by kernel_rfl
theorem T.spec_l1Upper_con {args : List AV} {res : AV} (hl : args.length = 1) (hn : AV.norefs args = true) (hw : wpT Try.prog (fun _ _ _ => False) (fun a => a = res) T.spec_l1Upper args []) : PCon Try.prog F.spec_l1Upper args res :=
  con_auto Try.func92 T.spec_l1Upper_l hl hn hw
def T.spec_l1Lower : T :=
.op (.call F.spec_l1In [(.x 0), (.c (.v (.int .i64 97))), (.c (.v (.int .i64 122)))] false) (
.ret [(.x 1)])
theorem T.spec_l1Lower_l : leftF Try.prog CF Try.f93 = some (1, T.spec_l1Lower) := by kernel_rfl
theorem T.spec_l1Lower_con {args : List AV} {res : AV} (hl : args.length = 1) (hn : AV.norefs args = true) (hw : wpT Try.prog (fun _ _ _ => False) (fun a => a = res) T.spec_l1Lower args []) : PCon Try.prog F.spec_l1Lower args res :=
  con_auto Try.func93 T.spec_l1Lower_l hl hn hw
def T.spec_l1NameByte : T :=
.bind 1 (
 .op (.call F.spec_l1Lower [(.x 0)] false) (
 .ite (.x 1)
  (.jump [(.c (.v (.bool true)))])
  (.op (.call F.spec_l1Upper [(.x 0)] false) (
  .ite (.x 2)
   (.jump [(.c (.v (.bool true)))])
   (.op (.call F.spec_l1Num [(.x 0)] false) (
   .ite (.x 3)
    (.jump [(.c (.v (.bool true)))])
    (.op (.bin .eql (.x 0) (.c (.v (.int .i64 95)))) (
    .jump [(.x 4)])))))))) (
.ret [(.x 1)])
theorem T.spec_l1NameByte_l : leftF Try.prog CF Try.f94 = some (1, T.spec_l1NameByte) := by kernel_rfl
theorem T.spec_l1NameByte_con {args : List AV} {res : AV} (hl : args.length = 1) (hn : AV.norefs args = true) (hw : wpT Try.prog (fun _ _ _ => False) (fun a => a = res) T.spec_l1NameByte args []) : PCon Try.prog F.spec_l1NameByte args res :=
  con_auto Try.func94 T.spec_l1NameByte_l hl hn hw
def T.impl_run : T :=
.bind 1 (
 .loop [(.x 1)] (
  .bind 0 (
   .bind 1 (
    .op (.lenS (.x 0)) (
    .op (.bin .lss (.x 3) (.x 4)) (
    .ite (.x 5)
     (.op (.idxS (.x 0) (.x 3)) (
     .op (.callv (.x 2) [(.x 6)] false) (
     .jump [(.x 7)])))
     (.jump [(.c (.v (.bool false)))])))) (
   .ite (.x 4)
    (.jump [])
    (.esc (.esc (.jump [(.x 3)]))))) (
  .op (.bin .add (.x 3) (.c (.v (.int .i64 1)))) (
  .jump [(.x 4)])))) (
.ret [(.x 3)])
theorem T.impl_run_l : leftF Try.prog CF Try.f95 = some (3, T.impl_run) := by kernel_rfl
theorem T.impl_run_con {args : List AV} {res : AV} (hl : args.length = 3) (hn : AV.norefs args = true) (hw : wpT Try.prog (fun _ _ _ => False) (fun a => a = res) T.impl_run args []) : PCon Try.prog F.impl_run args res :=
  con_auto Try.func95 T.impl_run_l hl hn hw
def T.impl_nameByte : T :=
.bind 1 (
 .op (.call F.impl_small [(.x 0)] false) (
 .ite (.x 1)
  (.jump [(.c (.v (.bool true)))])
  (.op (.call F.impl_great [(.x 0)] false) (
  .ite (.x 2)
   (.jump [(.c (.v (.bool true)))])
   (.op (.call F.impl_digit [(.x 0)] false) (
   .ite (.x 3)
    (.jump [(.c (.v (.bool true)))])
    (.op (.bin .eql (.x 0) (.c (.v (.int .u8 95)))) (
    .jump [(.x 4)])))))))) (
.ret [(.x 1)])
theorem T.impl_nameByte_l : leftF Try.prog CF Try.f96 = some (1, T.impl_nameByte) := by kernel_rfl
theorem T.impl_nameByte_con {args : List AV} {res : AV} (hl : args.length = 1) (hn : AV.norefs args = true) (hw : wpT Try.prog (fun _ _ _ => False) (fun a => a = res) T.impl_nameByte args []) : PCon Try.prog F.impl_nameByte args res :=
  con_auto Try.func96 T.impl_nameByte_l hl hn hw
def T.slices_Contains__string_string : T :=
.op (.call F.slices_Index__string_string [(.x 0), (.x 1)] false) (
.op (.bin .geq (.x 2) (.c (.v (.int .i64 0)))) (
.ret [(.x 3)]))
theorem T.slices_Contains__string_string_l : leftF Try.prog CF Try.f97 = some (2, T.slices_Contains__string_string) := by kernel_rfl
theorem T.slices_Contains__string_string_con {args : List AV} {res : AV} (hl : args.length = 2) (hn : AV.norefs args = true) (hw : wpT Try.prog (fun _ _ _ => False) (fun a => a = res) T.slices_Contains__string_string args []) : PCon Try.prog F.slices_Contains__string_string args res :=
  con_auto Try.func97 T.slices_Contains__string_string_l hl hn hw
def T.spec_l1Num : T :=
.op (.call F.spec_l1In [(.x 0), (.c (.v (.int .i64 48))), (.c (.v (.int .i64 57)))] false) (
.ret [(.x 1)])
theorem T.spec_l1Num_l : leftF Try.prog CF Try.f98 = some (1, T.spec_l1Num) := by kernel_rfl
theorem T.spec_l1Num_con {args : List AV} {res : AV} (hl : args.length = 1) (hn : AV.norefs args = true) (hw : wpT Try.prog (fun _ _ _ => False) (fun a => a = res) T.spec_l1Num args []) : PCon Try.prog F.spec_l1Num args res :=
  con_auto Try.func98 T.spec_l1Num_l hl hn hw
def T.impl_great : T :=
.bind 1 (
 .op (.bin .geq (.x 0) (.c (.v (.int .u8 65)))) (
 .ite (.x 1)
  (.op (.bin .leq (.x 0) (.c (.v (.int .u8 90)))) (
  .jump [(.x 2)]))
  (.jump [(.c (.v (.bool false)))]))) (
.ret [(.x 1)])
theorem T.impl_great_l : leftF Try.prog CF Try.f99 = some (1, T.impl_great) := by kernel_rfl
theorem T.impl_great_con {args : List AV} {res : AV} (hl : args.length = 1) (hn : AV.norefs args = true) (hw : wpT Try.prog (fun _ _ _ => False) (fun a => a = res) T.impl_great args []) : PCon Try.prog F.impl_great args res :=
  con_auto Try.func99 T.impl_great_l hl hn hw
def T.impl_digit : T :=
.bind 1 (
 .op (.bin .geq (.x 0) (.c (.v (.int .u8 48)))) (
 .ite (.x 1)
  (.op (.bin .leq (.x 0) (.c (.v (.int .u8 57)))) (
  .jump [(.x 2)]))
  (.jump [(.c (.v (.bool false)))]))) (
.ret [(.x 1)])
theorem T.impl_digit_l : leftF Try.prog CF Try.f100 = some (1, T.impl_digit) := by kernel_rfl
theorem T.impl_digit_con {args : List AV} {res : AV} (hl : args.length = 1) (hn : AV.norefs args = true) (hw : wpT Try.prog (fun _ _ _ => False) (fun a => a = res) T.impl_digit args []) : PCon Try.prog F.impl_digit args res :=
  con_auto Try.func100 T.impl_digit_l hl hn hw
def T.slices_Index__string_string : T :=
.bind 0 (
 .op (.lenL (.x 0)) (
 .loop [(.c (.v (.int .i64 0)))] (
  .op (.bin .lss (.x 3) (.x 2)) (
  .ite (.x 4)
   (.op (.elem 1 (.x 0) (.x 3)) (
   .chk (.lt (.x 5) 0) (
   .op (.bin .eql (.x 1) (.cell 5 0)) (
   .ite (.x 6)
    (.esc (.esc (.ret [(.x 3)])))
    (.op (.bin .add (.x 3) (.c (.v (.int .i64 1)))) (
    .jump [(.x 7)]))))))
   (.esc (.jump [])))))) (
.ret [(.c (.v (.int .i64 (-1))))])
theorem T.slices_Index__string_string_l : leftF Try.prog CF Try.f101 = some (2, T.slices_Index__string_string) := by kernel_rfl
theorem T.slices_Index__string_string_con {args : List AV} {res : AV} (hl : args.length = 2) (hn : AV.norefs args = true) (hw : wpT Try.prog (fun _ _ _ => False) (fun a => a = res) T.slices_Index__string_string args []) : PCon Try.prog F.slices_Index__string_string args res :=
  con_auto Try.func101 T.slices_Index__string_string_l hl hn hw
end Go.Proofs.Ab
