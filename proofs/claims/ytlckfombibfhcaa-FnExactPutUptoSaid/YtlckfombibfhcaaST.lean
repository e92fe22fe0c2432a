/-
  WHAT IS LEFT of this seat's functions, printed by a program of ours (wip/tool/Gen2.lean) from the translation; each with the theorem that it is what is left of that function.
-/
import Derived.Test.YtlckfombibfhcaaChecked
import Derived.KernelRfl
import Derived.Test.YtlckfombibfhcaaAbM4
set_option linter.unusedVariables false
set_option linter.unusedSimpArgs false
set_option linter.defProp false
namespace Go.Proofs.Ab
open Go.Ab
set_option maxRecDepth 100000
namespace F
abbrev laws_FnExactPut : FuncId := 5
abbrev laws_szTy : FuncId := 15
abbrev laws_toTy : FuncId := 17
abbrev laws_eqTy : FuncId := 20
abbrev laws_markTy : FuncId := 21
abbrev laws_markIntS : FuncId := 22
abbrev laws_szTyS : FuncId := 24
abbrev spec_Put : FuncId := 25
abbrev laws_toTyS : FuncId := 26
abbrev impl_Put : FuncId := 27
abbrev laws_eqTyS : FuncId := 28
abbrev laws_markTyS : FuncId := 29
abbrev laws_heldTy : FuncId := 30
abbrev laws_heldTyS : FuncId := 41
abbrev spec_l1In : FuncId := 44
abbrev impl_within : FuncId := 47
abbrev spec_TyOk : FuncId := 49
abbrev spec_l4Free : FuncId := 50
abbrev impl_isVarKind : FuncId := 51
abbrev impl_TyOk : FuncId := 52
abbrev spec_l4Copy : FuncId := 54
abbrev spec_l4Put : FuncId := 55
abbrev impl_copyTy : FuncId := 56
abbrev impl_put : FuncId := 57
abbrev laws_markText : FuncId := 58
abbrev spec_l13Uses : FuncId := 63
abbrev spec_l4Node : FuncId := 93
abbrev spec_l4Has : FuncId := 94
abbrev impl_tyHeadOk : FuncId := 95
abbrev slices_ContainsFunc__impl_Ty_impl_Ty : FuncId := 96
abbrev impl_TyOk_1 : FuncId := 97
abbrev spec_l1Low : FuncId := 116
abbrev impl_lowOk : FuncId := 117
abbrev slices_IndexFunc__impl_Ty_impl_Ty : FuncId := 118
abbrev slices_Grow__impl_Ty_impl_Ty : FuncId := 120
abbrev spec_l1Name : FuncId := 122
abbrev spec_l1Key : FuncId := 123
abbrev impl_isName : FuncId := 124
abbrev impl_small : FuncId := 125
abbrev impl_isKey : FuncId := 126
abbrev spec_l1Upper : FuncId := 127
abbrev spec_l1Lower : FuncId := 128
abbrev spec_l1NameByte : FuncId := 129
abbrev impl_run : FuncId := 130
abbrev impl_nameByte : FuncId := 131
abbrev slices_Contains__string_string : FuncId := 132
abbrev spec_l1Num : FuncId := 133
abbrev impl_great : FuncId := 134
abbrev impl_digit : FuncId := 135
abbrev slices_Index__string_string : FuncId := 136
end F
def FL : List Nat := [3, 4, 5, 6, 7, 8, 9, 13, 14, 15, 19, 20, 21, 22, 23, 24, 28, 29, 30, 31, 35, 36, 41, 42, 43, 44, 47, 48, 49, 51, 52, 58, 59, 60, 61, 62, 66, 67, 70, 71, 72, 73, 74, 75, 77, 78, 79, 80, 82, 84, 86, 87, 90, 92, 93, 94, 95, 96, 97, 98, 99, 100, 101, 102, 103, 105, 106, 107, 108, 109, 110, 112, 113, 114, 116, 117, 118, 119, 121, 122, 123, 124, 125, 126, 127, 128, 129, 130, 131, 132, 133, 134, 135, 136]
def FR : List (Nat × Bool × Nat × Nat) := [(18, true, 3, 1), (16, false, 3, 1), (53, true, 3, 1)]
abbrev G.laws_markIntS : Sig := ⟨2, [(.row 0 (.x 0)), (.d (.x 1))], [(.row true 3 1 (.x 0))], 2, (.d (.x 1)), [(.row true 3 1 (.x 0))], [0]⟩
abbrev G.spec_l4Free : Sig := ⟨3, [(.d (.x 0)), (.d (.x 1)), (.row 0 (.x 2))], [(.row false 3 1 (.x 2))], 1, (.row 0 (.x 0)), [(.row false 3 1 (.x 0))], []⟩
abbrev G.spec_l13Uses : Sig := ⟨4, [(.d (.x 0)), (.d (.x 1)), (.d (.x 2)), (.row 0 (.x 3))], [(.row false 3 1 (.x 3))], 1, (.tup []), [(.row false 3 1 (.x 0))], [0]⟩
abbrev G.slices_Grow__impl_Ty_impl_Ty : Sig := ⟨1, [(.d (.c .nils)), (.d (.x 0))], [], 1, (.row 0 (.x 0)), [(.row false 43 4 (.x 0))], []⟩
abbrev G.slices_Grow__impl_Ty_impl_Ty_s1 : Sig := ⟨1, [(.d (.c .nils)), (.d (.x 0))], [], 0, (.d (.c .nils)), [], []⟩
def SG : List (Nat × List Sig) := [(22, [G.laws_markIntS]), (50, [G.spec_l4Free]), (63, [G.spec_l13Uses]), (120, [G.slices_Grow__impl_Ty_impl_Ty, G.slices_Grow__impl_Ty_impl_Ty_s1])]
abbrev CF : Cfg := ⟨FL, FR, SG, false⟩
def T.laws_szTy : T :=
.chk (.cells (.x 0) 4) (
.op (.lenS (.cell 0 2)) (
.op (.bin .sub (.x 1) (.x 2)) (
.op (.bin .lss (.x 3) (.c (.v (.int .i64 0)))) (
.ite (.x 4)
 (.ret [(.c (.v (.int .i64 (-1))))])
 (.op (.call F.laws_szTyS [(.cell 0 3), (.x 3)] false) (
 .op (.bin .lss (.x 5) (.c (.v (.int .i64 0)))) (
 .ite (.x 6)
  (.ret [(.c (.v (.int .i64 (-1))))])
  (.ret [(.x 5)]))))))))
theorem T.laws_szTy_l : leftF Try.prog CF Try.f15 = some (2, T.laws_szTy) := by kernel_rfl
theorem T.laws_szTy_con {args : List AV} {res : AV} (hl : args.length = 2) (hn : AV.norefs args = true) (hw : wpT Try.prog (fun _ _ _ => False) (fun a => a = res) T.laws_szTy args []) : PCon Try.prog F.laws_szTy args res :=
  con_auto Try.func15 T.laws_szTy_l hl hn hw
def T.laws_toTy : T :=
.chk (.cells (.x 0) 4) (
.chk (.one (.cell 0 0)) (
.chk (.one (.cell 0 1)) (
.chk (.one (.cell 0 2)) (
.op (.call F.laws_toTyS [(.cell 0 3)] false) (
.chk (.one (.x 1)) (
.chk (.cells (.agg [(.cell 0 0), (.cell 0 1), (.cell 0 2), (.x 1)]) 4) (
.ret [(.agg [(.cell 0 0), (.cell 0 1), (.cell 0 2), (.x 1)])])))))))
theorem T.laws_toTy_l : leftF Try.prog CF Try.f17 = some (1, T.laws_toTy) := by kernel_rfl
theorem T.laws_toTy_con {args : List AV} {res : AV} (hl : args.length = 1) (hn : AV.norefs args = true) (hw : wpT Try.prog (fun _ _ _ => False) (fun a => a = res) T.laws_toTy args []) : PCon Try.prog F.laws_toTy args res :=
  con_auto Try.func17 T.laws_toTy_l hl hn hw
def T.laws_eqTy : T :=
.chk (.cells (.x 0) 4) (
.chk (.cells (.x 1) 4) (
.op (.bin .neq (.cell 0 0) (.cell 1 0)) (
.ite (.x 2)
 (.ret [(.c (.v (.bool false)))])
 (.op (.bin .neq (.cell 0 1) (.cell 1 1)) (
 .ite (.x 3)
  (.ret [(.c (.v (.bool false)))])
  (.op (.bin .neq (.cell 0 2) (.cell 1 2)) (
  .ite (.x 4)
   (.ret [(.c (.v (.bool false)))])
   (.op (.call F.laws_eqTyS [(.cell 0 3), (.cell 1 3)] false) (
   .op (.un .not (.x 5)) (
   .ite (.x 6)
    (.ret [(.c (.v (.bool false)))])
    (.ret [(.c (.v (.bool true)))])))))))))))
theorem T.laws_eqTy_l : leftF Try.prog CF Try.f20 = some (2, T.laws_eqTy) := by kernel_rfl
theorem T.laws_eqTy_con {args : List AV} {res : AV} (hl : args.length = 2) (hn : AV.norefs args = true) (hw : wpT Try.prog (fun _ _ _ => False) (fun a => a = res) T.laws_eqTy args []) : PCon Try.prog F.laws_eqTy args res :=
  con_auto Try.func20 T.laws_eqTy_l hl hn hw
def T.laws_szTyS : T :=
.op (.lenL (.x 0)) (
.op (.bin .sub (.x 1) (.x 2)) (
.op (.bin .lss (.x 3) (.c (.v (.int .i64 0)))) (
.ite (.x 4)
 (.ret [(.c (.v (.int .i64 (-1))))])
 (.bind 1 (
  .loop [(.x 3), (.c (.v (.int .i64 0)))] (
   .op (.lenL (.x 0)) (
   .op (.bin .lss (.x 6) (.x 7)) (
   .ite (.x 8)
    (.op (.elem 4 (.x 0) (.x 6)) (
    .chk (.cells (.x 9) 4) (
    .op (.call F.laws_szTy [(.x 9), (.x 5)] false) (
    .op (.bin .lss (.x 10) (.c (.v (.int .i64 0)))) (
    .ite (.x 11)
     (.esc (.esc (.ret [(.c (.v (.int .i64 (-1))))])))
     (.op (.bin .add (.x 6) (.c (.v (.int .i64 1)))) (
     .jump [(.x 10), (.x 12)])))))))
    (.esc (.jump [(.x 5)])))))) (
 .ret [(.x 5)])))))
theorem T.laws_szTyS_l : leftF Try.prog CF Try.f24 = some (2, T.laws_szTyS) := by kernel_rfl
theorem T.laws_szTyS_con {args : List AV} {res : AV} (hl : args.length = 2) (hn : AV.norefs args = true) (hw : wpT Try.prog (fun _ _ _ => False) (fun a => a = res) T.laws_szTyS args []) : PCon Try.prog F.laws_szTyS args res :=
  con_auto Try.func24 T.laws_szTyS_l hl hn hw
def T.spec_Put : T :=
.chk (.cells (.x 0) 4) (
.bind 0 (
 .bind 1 (
  .chk (.cells (.x 0) 4) (
  .op (.call F.spec_TyOk [(.x 0)] false) (
  .op (.un .not (.x 3)) (
  .ite (.x 4)
   (.jump [(.c (.v (.bool true)))])
   (.op (.call F.spec_l1In [(.x 1), (.c (.v (.int .i64 9))), (.c (.v (.int .i64 11)))] false) (
   .op (.un .not (.x 5)) (
   .jump [(.x 6)]))))))) (
 .ite (.x 3)
  (.chk (.cells (.x 0) 4) (
  .op (.call F.spec_l4Copy [(.x 0)] false) (
  .chk (.cells (.x 4) 4) (
  .esc (.ret [(.agg [(.cell 4 0), (.cell 4 1), (.cell 4 2), (.cell 4 3)])])))))
  (.jump []))) (
.chk (.cells (.x 0) 4) (
.op (.call F.spec_l4Put [(.x 0), (.x 1), (.x 2)] false) (
.chk (.cells (.x 3) 4) (
.ret [(.agg [(.cell 3 0), (.cell 3 1), (.cell 3 2), (.cell 3 3)])])))))
theorem T.spec_Put_l : leftF Try.prog CF Try.f25 = some (3, T.spec_Put) := by kernel_rfl
theorem T.spec_Put_con {args : List AV} {res : AV} (hl : args.length = 3) (hn : AV.norefs args = true) (hw : wpT Try.prog (fun _ _ _ => False) (fun a => a = res) T.spec_Put args []) : PCon Try.prog F.spec_Put args res :=
  con_auto Try.func25 T.spec_Put_l hl hn hw
def T.laws_toTyS : T :=
.op (.lenL (.x 0)) (
.op (.rep 56 (.agg [(.v (.int .i64 0)), (.v (.int .i64 0)), (.v (.string ⟨#[]⟩)), .nils]) (.x 1) (.x 1)) (
.bind 1 (
 .loop [(.x 2), (.c (.v (.int .i64 0)))] (
  .op (.lenL (.x 0)) (
  .op (.bin .lss (.x 4) (.x 5)) (
  .ite (.x 6)
   (.op (.elem 4 (.x 0) (.x 4)) (
   .chk (.cells (.x 7) 4) (
   .op (.call F.laws_toTy [(.x 7)] false) (
   .chk (.idx (.x 3) (.x 4)) (
   .chk (.cells (.x 8) 4) (
   .op (.set (.x 3) (.x 4) 0 4 (.x 8)) (
   .op (.bin .add (.x 4) (.c (.v (.int .i64 1)))) (
   .jump [(.x 9), (.x 10)]))))))))
   (.esc (.jump [(.x 3)])))))) (
.ret [(.sl (.x 3))])))
theorem T.laws_toTyS_l : leftF Try.prog CF Try.f26 = some (1, T.laws_toTyS) := by kernel_rfl
theorem T.laws_toTyS_con {args : List AV} {res : AV} (hl : args.length = 1) (hn : AV.norefs args = true) (hw : wpT Try.prog (fun _ _ _ => False) (fun a => a = res) T.laws_toTyS args []) : PCon Try.prog F.laws_toTyS args res :=
  con_auto Try.func26 T.laws_toTyS_l hl hn hw
def T.laws_eqTyS : T :=
.op (.lenL (.x 0)) (
.op (.lenL (.x 1)) (
.op (.bin .neq (.x 2) (.x 3)) (
.ite (.x 4)
 (.ret [(.c (.v (.bool false)))])
 (.bind 0 (
  .loop [(.c (.v (.int .i64 0)))] (
   .op (.lenL (.x 0)) (
   .op (.bin .lss (.x 5) (.x 6)) (
   .ite (.x 7)
    (.op (.elem 4 (.x 0) (.x 5)) (
    .chk (.cells (.x 8) 4) (
    .op (.elem 4 (.x 1) (.x 5)) (
    .chk (.cells (.x 9) 4) (
    .op (.call F.laws_eqTy [(.x 8), (.x 9)] true) (
    .op (.un .not (.x 10)) (
    .ite (.x 11)
     (.esc (.esc (.ret [(.c (.v (.bool false)))])))
     (.op (.bin .add (.x 5) (.c (.v (.int .i64 1)))) (
     .jump [(.x 12)])))))))))
    (.esc (.jump [])))))) (
 .ret [(.c (.v (.bool true)))])))))
theorem T.laws_eqTyS_l : leftF Try.prog CF Try.f28 = some (2, T.laws_eqTyS) := by kernel_rfl
theorem T.laws_eqTyS_con {args : List AV} {res : AV} (hl : args.length = 2) (hn : AV.norefs args = true) (hw : wpT Try.prog (fun _ _ _ => False) (fun a => a = res) T.laws_eqTyS args []) : PCon Try.prog F.laws_eqTyS args res :=
  con_auto Try.func28 T.laws_eqTyS_l hl hn hw
-- laws_markTyS: no walk
def T.laws_heldTy : T :=
.chk (.cells (.x 0) 4) (
.op (.call F.laws_heldTyS [(.cell 0 3), (.x 1)] false) (
.op (.bin .lss (.x 2) (.c (.v (.int .i64 0)))) (
.ite (.x 3)
 (.ret [(.c (.v (.int .i64 (-1))))])
 (.ret [(.x 2)]))))
theorem T.laws_heldTy_l : leftF Try.prog CF Try.f30 = some (2, T.laws_heldTy) := by kernel_rfl
theorem T.laws_heldTy_con {args : List AV} {res : AV} (hl : args.length = 2) (hn : AV.norefs args = true) (hw : wpT Try.prog (fun _ _ _ => False) (fun a => a = res) T.laws_heldTy args []) : PCon Try.prog F.laws_heldTy args res :=
  con_auto Try.func30 T.laws_heldTy_l hl hn hw
def T.laws_heldTyS : T :=
.bind 1 (
 .loop [(.x 1), (.c (.v (.int .i64 0)))] (
  .op (.lenL (.x 0)) (
  .op (.bin .lss (.x 3) (.x 4)) (
  .ite (.x 5)
   (.op (.elem 4 (.x 0) (.x 3)) (
   .chk (.lt (.x 6) 0) (
   .op (.bin .neq (.cell 6 0) (.x 2)) (
   .ite (.x 7)
    (.esc (.esc (.ret [(.c (.v (.int .i64 (-1))))])))
    (.op (.bin .add (.x 2) (.c (.v (.int .i64 1)))) (
    .op (.elem 4 (.x 0) (.x 3)) (
    .chk (.lt (.x 9) 1) (
    .op (.bin .neq (.cell 9 1) (.x 8)) (
    .ite (.x 10)
     (.esc (.esc (.ret [(.c (.v (.int .i64 (-1))))])))
     (.op (.bin .add (.x 8) (.c (.v (.int .i64 1)))) (
     .op (.elem 4 (.x 0) (.x 3)) (
     .chk (.lt (.x 12) 2) (
     .op (.call F.laws_markText [(.x 11)] true) (
     .op (.bin .neq (.cell 12 2) (.x 13)) (
     .ite (.x 14)
      (.esc (.esc (.ret [(.c (.v (.int .i64 (-1))))])))
      (.op (.bin .add (.x 11) (.c (.v (.int .i64 1)))) (
      .op (.elem 4 (.x 0) (.x 3)) (
      .chk (.lt (.x 16) 3) (
      .op (.call F.laws_heldTyS [(.cell 16 3), (.x 15)] false) (
      .op (.bin .lss (.x 17) (.c (.v (.int .i64 0)))) (
      .ite (.x 18)
       (.esc (.esc (.ret [(.c (.v (.int .i64 (-1))))])))
       (.op (.bin .add (.x 3) (.c (.v (.int .i64 1)))) (
       .jump [(.x 17), (.x 19)])))))))))))))))))))))))
   (.esc (.jump [(.x 2)])))))) (
.ret [(.x 2)])
theorem T.laws_heldTyS_l : leftF Try.prog CF Try.f41 = some (2, T.laws_heldTyS) := by kernel_rfl
theorem T.laws_heldTyS_con {args : List AV} {res : AV} (hl : args.length = 2) (hn : AV.norefs args = true) (hw : wpT Try.prog (fun _ _ _ => False) (fun a => a = res) T.laws_heldTyS args []) : PCon Try.prog F.laws_heldTyS args res :=
  con_auto Try.func41 T.laws_heldTyS_l hl hn hw
def T.spec_l1In : T :=
.bind 1 (
 .op (.bin .geq (.x 0) (.x 1)) (
 .ite (.x 3)
  (.op (.bin .leq (.x 0) (.x 2)) (
  .jump [(.x 4)]))
  (.jump [(.c (.v (.bool false)))]))) (
.ret [(.x 3)])
theorem T.spec_l1In_l : leftF Try.prog CF Try.f44 = some (3, T.spec_l1In) := by kernel_rfl
theorem T.spec_l1In_con {args : List AV} {res : AV} (hl : args.length = 3) (hn : AV.norefs args = true) (hw : wpT Try.prog (fun _ _ _ => False) (fun a => a = res) T.spec_l1In args []) : PCon Try.prog F.spec_l1In args res :=
  con_auto Try.func44 T.spec_l1In_l hl hn hw
def T.impl_within : T :=
.bind 1 (
 .op (.bin .geq (.x 0) (.x 1)) (
 .ite (.x 3)
  (.op (.bin .leq (.x 0) (.x 2)) (
  .jump [(.x 4)]))
  (.jump [(.c (.v (.bool false)))]))) (
.ret [(.x 3)])
theorem T.impl_within_l : leftF Try.prog CF Try.f47 = some (3, T.impl_within) := by kernel_rfl
theorem T.impl_within_con {args : List AV} {res : AV} (hl : args.length = 3) (hn : AV.norefs args = true) (hw : wpT Try.prog (fun _ _ _ => False) (fun a => a = res) T.impl_within args []) : PCon Try.prog F.impl_within args res :=
  con_auto Try.func47 T.impl_within_l hl hn hw
def T.spec_TyOk : T :=
.chk (.cells (.x 0) 4) (
.chk (.cells (.x 0) 4) (
.op (.call F.spec_l4Node [(.x 0)] false) (
.op (.un .not (.x 1)) (
.ite (.x 2)
 (.ret [(.c (.v (.bool false)))])
 (.bind 0 (
  .loop [(.c (.v (.int .i64 0)))] (
   .op (.lenL (.cell 0 3)) (
   .op (.bin .lss (.x 3) (.x 4)) (
   .ite (.x 5)
    (.op (.elem 4 (.cell 0 3) (.x 3)) (
    .chk (.cells (.x 6) 4) (
    .op (.call F.spec_TyOk [(.x 6)] false) (
    .op (.un .not (.x 7)) (
    .ite (.x 8)
     (.esc (.esc (.ret [(.c (.v (.bool false)))])))
     (.op (.bin .add (.x 3) (.c (.v (.int .i64 1)))) (
     .jump [(.x 9)])))))))
    (.esc (.jump [])))))) (
 .ret [(.c (.v (.bool true)))]))))))
theorem T.spec_TyOk_l : leftF Try.prog CF Try.f49 = some (1, T.spec_TyOk) := by kernel_rfl
theorem T.spec_TyOk_con {args : List AV} {res : AV} (hl : args.length = 1) (hn : AV.norefs args = true) (hw : wpT Try.prog (fun _ _ _ => False) (fun a => a = res) T.spec_TyOk args []) : PCon Try.prog F.spec_TyOk args res :=
  con_auto Try.func49 T.spec_TyOk_l hl hn hw
def T.impl_isVarKind : T :=
.op (.call F.impl_within [(.x 0), (.c (.v (.int .i64 9))), (.c (.v (.int .i64 11)))] false) (
.ret [(.x 1)])
theorem T.impl_isVarKind_l : leftF Try.prog CF Try.f51 = some (1, T.impl_isVarKind) := by kernel_rfl
theorem T.impl_isVarKind_con {args : List AV} {res : AV} (hl : args.length = 1) (hn : AV.norefs args = true) (hw : wpT Try.prog (fun _ _ _ => False) (fun a => a = res) T.impl_isVarKind args []) : PCon Try.prog F.impl_isVarKind args res :=
  con_auto Try.func51 T.impl_isVarKind_l hl hn hw
def T.impl_TyOk : T :=
.chk (.cells (.x 0) 4) (
.bind 1 (
 .chk (.cells (.x 0) 4) (
 .op (.call F.impl_tyHeadOk [(.x 0)] false) (
 .ite (.x 1)
  (.op (.call F.slices_ContainsFunc__impl_Ty_impl_Ty [(.cell 0 3), (.c (.fn F.impl_TyOk_1 []))] false) (
  .op (.un .not (.x 2)) (
  .jump [(.x 3)])))
  (.jump [(.c (.v (.bool false)))])))) (
.ret [(.x 1)]))
theorem T.impl_TyOk_l : leftF Try.prog CF Try.f52 = some (1, T.impl_TyOk) := by kernel_rfl
theorem T.impl_TyOk_con {args : List AV} {res : AV} (hl : args.length = 1) (hn : AV.norefs args = true) (hw : wpT Try.prog (fun _ _ _ => False) (fun a => a = res) T.impl_TyOk args []) : PCon Try.prog F.impl_TyOk args res :=
  con_auto Try.func52 T.impl_TyOk_l hl hn hw
def T.spec_l4Copy : T :=
.chk (.cells (.x 0) 4) (
.chk (.cells (.x 0) 4) (
.chk (.cells (.x 0) 4) (
.op (.mkl (.agg [(.v (.int .i64 0)), (.v (.int .i64 0)), (.v (.string ⟨#[]⟩)), .nils]) 0 []) (
.bind 1 (
 .loop [(.x 1), (.c (.v (.int .i64 0)))] (
  .op (.lenL (.cell 0 3)) (
  .op (.bin .lss (.x 3) (.x 4)) (
  .ite (.x 5)
   (.op (.elem 4 (.cell 0 3) (.x 3)) (
   .chk (.cells (.x 6) 4) (
   .op (.call F.spec_l4Copy [(.x 6)] false) (
   .chk (.cells (.x 7) 4) (
   .op (.mkl (.agg [(.v (.int .i64 0)), (.v (.int .i64 0)), (.v (.string ⟨#[]⟩)), .nils]) 1 [(0, (.x 7))]) (
   .op (.app 4 56 (.x 2) (.x 8)) (
   .op (.bin .add (.x 3) (.c (.v (.int .i64 1)))) (
   .jump [(.x 9), (.x 10)]))))))))
   (.esc (.jump [(.x 2)])))))) (
.chk (.one (.cell 0 0)) (
.chk (.one (.cell 0 1)) (
.chk (.one (.cell 0 2)) (
.ret [(.agg [(.cell 0 0), (.cell 0 1), (.cell 0 2), (.sl (.x 2))])]))))))))
theorem T.spec_l4Copy_l : leftF Try.prog CF Try.f54 = some (1, T.spec_l4Copy) := by kernel_rfl
theorem T.spec_l4Copy_con {args : List AV} {res : AV} (hl : args.length = 1) (hn : AV.norefs args = true) (hw : wpT Try.prog (fun _ _ _ => False) (fun a => a = res) T.spec_l4Copy args []) : PCon Try.prog F.spec_l4Copy args res :=
  con_auto Try.func54 T.spec_l4Copy_l hl hn hw
def T.spec_l4Put : T :=
.chk (.cells (.x 0) 4) (
.bind 0 (
 .bind 1 (
  .op (.bin .eql (.cell 0 0) (.x 1)) (
  .ite (.x 3)
   (.op (.lenL (.x 2)) (
   .op (.bin .lss (.cell 0 1) (.x 4)) (
   .jump [(.x 5)])))
   (.jump [(.c (.v (.bool false)))]))) (
 .ite (.x 3)
  (.op (.elem 4 (.x 2) (.cell 0 1)) (
  .chk (.cells (.x 4) 4) (
  .op (.call F.spec_l4Copy [(.x 4)] false) (
  .chk (.cells (.x 5) 4) (
  .esc (.ret [(.agg [(.cell 5 0), (.cell 5 1), (.cell 5 2), (.cell 5 3)])]))))))
  (.jump []))) (
.chk (.cells (.x 0) 4) (
.chk (.cells (.x 0) 4) (
.op (.mkl (.agg [(.v (.int .i64 0)), (.v (.int .i64 0)), (.v (.string ⟨#[]⟩)), .nils]) 0 []) (
.bind 1 (
 .loop [(.x 3), (.c (.v (.int .i64 0)))] (
  .op (.lenL (.cell 0 3)) (
  .op (.bin .lss (.x 5) (.x 6)) (
  .ite (.x 7)
   (.op (.elem 4 (.cell 0 3) (.x 5)) (
   .chk (.cells (.x 8) 4) (
   .op (.call F.spec_l4Put [(.x 8), (.x 1), (.x 2)] false) (
   .chk (.cells (.x 9) 4) (
   .op (.mkl (.agg [(.v (.int .i64 0)), (.v (.int .i64 0)), (.v (.string ⟨#[]⟩)), .nils]) 1 [(0, (.x 9))]) (
   .op (.app 4 56 (.x 4) (.x 10)) (
   .op (.bin .add (.x 5) (.c (.v (.int .i64 1)))) (
   .jump [(.x 11), (.x 12)]))))))))
   (.esc (.jump [(.x 4)])))))) (
.chk (.one (.cell 0 0)) (
.chk (.one (.cell 0 1)) (
.chk (.one (.cell 0 2)) (
.ret [(.agg [(.cell 0 0), (.cell 0 1), (.cell 0 2), (.sl (.x 4))])])))))))))
theorem T.spec_l4Put_l : leftF Try.prog CF Try.f55 = some (3, T.spec_l4Put) := by kernel_rfl
theorem T.spec_l4Put_con {args : List AV} {res : AV} (hl : args.length = 3) (hn : AV.norefs args = true) (hw : wpT Try.prog (fun _ _ _ => False) (fun a => a = res) T.spec_l4Put args []) : PCon Try.prog F.spec_l4Put args res :=
  con_auto Try.func55 T.spec_l4Put_l hl hn hw
def T.laws_markText : T :=
.op (.bin .leq (.x 0) (.c (.v (.int .i64 0)))) (
.ite (.x 1)
 (.ret [(.c (.v (.string ⟨#[109, 48]⟩)))])
 (.bind 1 (
  .loop [(.x 0), (.c (.v (.string ⟨#[]⟩)))] (
   .op (.bin .gtr (.x 2) (.c (.v (.int .i64 0)))) (
   .ite (.x 4)
    (.op (.bin .rem (.x 2) (.c (.v (.int .i64 10)))) (
    .op (.bin .add (.c (.v (.int .i64 48))) (.x 5)) (
    .op (.conv .u8 (.x 6)) (
    .chk (.one (.x 7)) (
    .op (.mkl (.v (.int .u8 0)) 1 [(0, (.x 7))]) (
    .op (.pu .b2s [(.sl (.x 8))]) (
    .op (.bin .add (.x 9) (.x 3)) (
    .op (.bin .quo (.x 2) (.c (.v (.int .i64 10)))) (
    .jump [(.x 11), (.x 10)])))))))))
    (.esc (.jump [(.x 3)]))))) (
 .op (.bin .add (.c (.v (.string ⟨#[109]⟩))) (.x 2)) (
 .ret [(.x 3)]))))
theorem T.laws_markText_l : leftF Try.prog CF Try.f58 = some (1, T.laws_markText) := by kernel_rfl
theorem T.laws_markText_con {args : List AV} {res : AV} (hl : args.length = 1) (hn : AV.norefs args = true) (hw : wpT Try.prog (fun _ _ _ => False) (fun a => a = res) T.laws_markText args []) : PCon Try.prog F.laws_markText args res :=
  con_auto Try.func58 T.laws_markText_l hl hn hw
def T.spec_l4Node : T :=
.chk (.cells (.x 0) 4) (
.op (.lenL (.cell 0 3)) (
.bind 0 (
 .bind 1 (
  .op (.bin .neq (.cell 0 0) (.c (.v (.int .i64 7)))) (
  .ite (.x 2)
   (.op (.bin .neq (.cell 0 2) (.c (.v (.string ⟨#[]⟩)))) (
   .ite (.x 3)
    (.jump [(.c (.v (.bool true)))])
    (.op (.bin .lss (.cell 0 0) (.c (.v (.int .i64 9)))) (
    .ite (.x 4)
     (.op (.bin .neq (.cell 0 1) (.c (.v (.int .i64 0)))) (
     .jump [(.x 5)]))
     (.jump [(.c (.v (.bool false)))])))))
   (.op (.bin .lss (.cell 0 0) (.c (.v (.int .i64 9)))) (
   .ite (.x 3)
    (.op (.bin .neq (.cell 0 1) (.c (.v (.int .i64 0)))) (
    .jump [(.x 4)]))
    (.jump [(.c (.v (.bool false)))]))))) (
 .ite (.x 2)
  (.esc (.ret [(.c (.v (.bool false)))]))
  (.jump []))) (
.bind 0 (
 .bind 1 (
  .op (.bin .eql (.cell 0 0) (.c (.v (.int .i64 1)))) (
  .ite (.x 2)
   (.jump [(.x 2)])
   (.op (.bin .eql (.cell 0 0) (.c (.v (.int .i64 2)))) (
   .ite (.x 3)
    (.jump [(.x 3)])
    (.op (.bin .eql (.cell 0 0) (.c (.v (.int .i64 3)))) (
    .ite (.x 4)
     (.jump [(.x 4)])
     (.op (.bin .eql (.cell 0 0) (.c (.v (.int .i64 4)))) (
     .jump [(.x 5)])))))))) (
 .ite (.x 2)
  (.op (.bin .eql (.x 1) (.c (.v (.int .i64 0)))) (
  .esc (.ret [(.x 3)])))
  (.op (.bin .eql (.cell 0 0) (.c (.v (.int .i64 5)))) (
  .ite (.x 3)
   (.op (.bin .eql (.x 1) (.c (.v (.int .i64 2)))) (
   .esc (.ret [(.x 4)])))
   (.op (.bin .eql (.cell 0 0) (.c (.v (.int .i64 6)))) (
   .ite (.x 4)
    (.op (.bin .geq (.x 1) (.c (.v (.int .i64 2)))) (
    .esc (.ret [(.x 5)])))
    (.op (.bin .eql (.cell 0 0) (.c (.v (.int .i64 7)))) (
    .ite (.x 5)
     (.op (.call F.spec_l1Low [(.cell 0 2)] false) (
     .esc (.ret [(.x 6)])))
     (.op (.bin .eql (.cell 0 0) (.c (.v (.int .i64 8)))) (
     .ite (.x 6)
      (.op (.bin .eql (.x 1) (.c (.v (.int .i64 1)))) (
      .esc (.ret [(.x 7)])))
      (.bind 1 (
       .op (.bin .eql (.cell 0 0) (.c (.v (.int .i64 9)))) (
       .ite (.x 7)
        (.jump [(.x 7)])
        (.op (.bin .eql (.cell 0 0) (.c (.v (.int .i64 10)))) (
        .ite (.x 8)
         (.jump [(.x 8)])
         (.op (.bin .eql (.cell 0 0) (.c (.v (.int .i64 11)))) (
         .jump [(.x 9)])))))) (
      .ite (.x 7)
       (.bind 1 (
        .op (.bin .eql (.x 1) (.c (.v (.int .i64 0)))) (
        .ite (.x 8)
         (.op (.bin .geq (.cell 0 1) (.c (.v (.int .i64 0)))) (
         .jump [(.x 9)]))
         (.jump [(.c (.v (.bool false)))]))) (
       .esc (.ret [(.x 8)])))
       (.jump []))))))))))))) (
.ret [(.c (.v (.bool false)))]))))
theorem T.spec_l4Node_l : leftF Try.prog CF Try.f93 = some (1, T.spec_l4Node) := by kernel_rfl
theorem T.spec_l4Node_con {args : List AV} {res : AV} (hl : args.length = 1) (hn : AV.norefs args = true) (hw : wpT Try.prog (fun _ _ _ => False) (fun a => a = res) T.spec_l4Node args []) : PCon Try.prog F.spec_l4Node args res :=
  con_auto Try.func93 T.spec_l4Node_l hl hn hw
def T.spec_l4Has : T :=
.bind 0 (
 .loop [(.c (.v (.int .i64 0)))] (
  .op (.lenL (.x 0)) (
  .op (.bin .lss (.x 2) (.x 3)) (
  .ite (.x 4)
   (.op (.elem 1 (.x 0) (.x 2)) (
   .chk (.lt (.x 5) 0) (
   .op (.bin .eql (.cell 5 0) (.x 1)) (
   .ite (.x 6)
    (.esc (.esc (.ret [(.c (.v (.bool true)))])))
    (.op (.bin .add (.x 2) (.c (.v (.int .i64 1)))) (
    .jump [(.x 7)]))))))
   (.esc (.jump [])))))) (
.ret [(.c (.v (.bool false)))])
theorem T.spec_l4Has_l : leftF Try.prog CF Try.f94 = some (2, T.spec_l4Has) := by kernel_rfl
theorem T.spec_l4Has_con {args : List AV} {res : AV} (hl : args.length = 2) (hn : AV.norefs args = true) (hw : wpT Try.prog (fun _ _ _ => False) (fun a => a = res) T.spec_l4Has args []) : PCon Try.prog F.spec_l4Has args res :=
  con_auto Try.func94 T.spec_l4Has_l hl hn hw
def T.impl_tyHeadOk : T :=
.chk (.cells (.x 0) 4) (
.op (.lenL (.cell 0 3)) (
.op (.bin .eql (.x 1) (.c (.v (.int .i64 0)))) (
.op (.bin .eql (.cell 0 2) (.c (.v (.string ⟨#[]⟩)))) (
.op (.bin .eql (.cell 0 1) (.c (.v (.int .i64 0)))) (
.bind 3 (
 .bind 1 (
  .op (.bin .eql (.cell 0 0) (.c (.v (.int .i64 1)))) (
  .ite (.x 5)
   (.jump [(.x 5)])
   (.op (.bin .eql (.cell 0 0) (.c (.v (.int .i64 2)))) (
   .ite (.x 6)
    (.jump [(.x 6)])
    (.op (.bin .eql (.cell 0 0) (.c (.v (.int .i64 3)))) (
    .ite (.x 7)
     (.jump [(.x 7)])
     (.op (.bin .eql (.cell 0 0) (.c (.v (.int .i64 4)))) (
     .jump [(.x 8)])))))))) (
 .ite (.x 5)
  (.jump [(.x 2), (.x 3), (.x 4)])
  (.op (.bin .eql (.cell 0 0) (.c (.v (.int .i64 5)))) (
  .ite (.x 6)
   (.op (.lenL (.cell 0 3)) (
   .op (.bin .eql (.x 7) (.c (.v (.int .i64 2)))) (
   .jump [(.x 8), (.x 3), (.x 4)])))
   (.op (.bin .eql (.cell 0 0) (.c (.v (.int .i64 6)))) (
   .ite (.x 7)
    (.op (.lenL (.cell 0 3)) (
    .op (.bin .geq (.x 8) (.c (.v (.int .i64 2)))) (
    .jump [(.x 9), (.x 3), (.x 4)])))
    (.op (.bin .eql (.cell 0 0) (.c (.v (.int .i64 7)))) (
    .ite (.x 8)
     (.op (.call F.impl_lowOk [(.cell 0 2)] false) (
     .jump [(.c (.v (.bool true))), (.x 9), (.x 4)]))
     (.op (.bin .eql (.cell 0 0) (.c (.v (.int .i64 8)))) (
     .ite (.x 9)
      (.op (.lenL (.cell 0 3)) (
      .op (.bin .eql (.x 10) (.c (.v (.int .i64 1)))) (
      .jump [(.x 11), (.x 3), (.x 4)])))
      (.bind 1 (
       .op (.bin .eql (.cell 0 0) (.c (.v (.int .i64 9)))) (
       .ite (.x 10)
        (.jump [(.x 10)])
        (.op (.bin .eql (.cell 0 0) (.c (.v (.int .i64 10)))) (
        .ite (.x 11)
         (.jump [(.x 11)])
         (.op (.bin .eql (.cell 0 0) (.c (.v (.int .i64 11)))) (
         .jump [(.x 12)])))))) (
      .ite (.x 10)
       (.op (.bin .geq (.cell 0 1) (.c (.v (.int .i64 0)))) (
       .jump [(.x 2), (.x 3), (.x 11)]))
       (.esc (.ret [(.c (.v (.bool false)))])))))))))))))) (
.bind 1 (
 .ite (.x 5)
  (.ite (.x 6)
   (.jump [(.x 7)])
   (.jump [(.c (.v (.bool false)))]))
  (.jump [(.c (.v (.bool false)))])) (
.ret [(.x 8)])))))))
theorem T.impl_tyHeadOk_l : leftF Try.prog CF Try.f95 = some (1, T.impl_tyHeadOk) := by kernel_rfl
theorem T.impl_tyHeadOk_con {args : List AV} {res : AV} (hl : args.length = 1) (hn : AV.norefs args = true) (hw : wpT Try.prog (fun _ _ _ => False) (fun a => a = res) T.impl_tyHeadOk args []) : PCon Try.prog F.impl_tyHeadOk args res :=
  con_auto Try.func95 T.impl_tyHeadOk_l hl hn hw
def T.slices_ContainsFunc__impl_Ty_impl_Ty : T :=
.op (.call F.slices_IndexFunc__impl_Ty_impl_Ty [(.x 0), (.x 1)] false) (
.op (.bin .geq (.x 2) (.c (.v (.int .i64 0)))) (
.ret [(.x 3)]))
theorem T.slices_ContainsFunc__impl_Ty_impl_Ty_l : leftF Try.prog CF Try.f96 = some (2, T.slices_ContainsFunc__impl_Ty_impl_Ty) := by kernel_rfl
theorem T.slices_ContainsFunc__impl_Ty_impl_Ty_con {args : List AV} {res : AV} (hl : args.length = 2) (hn : AV.norefs args = true) (hw : wpT Try.prog (fun _ _ _ => False) (fun a => a = res) T.slices_ContainsFunc__impl_Ty_impl_Ty args []) : PCon Try.prog F.slices_ContainsFunc__impl_Ty_impl_Ty args res :=
  con_auto Try.func96 T.slices_ContainsFunc__impl_Ty_impl_Ty_l hl hn hw
def T.impl_TyOk_1 : T :=
.chk (.cells (.x 0) 4) (
.chk (.cells (.x 0) 4) (
.op (.call F.impl_TyOk [(.x 0)] false) (
.op (.un .not (.x 1)) (
.ret [(.x 2)]))))
theorem T.impl_TyOk_1_l : leftF Try.prog CF Try.f97 = some (1, T.impl_TyOk_1) := by kernel_rfl
theorem T.impl_TyOk_1_con {args : List AV} {res : AV} (hl : args.length = 1) (hn : AV.norefs args = true) (hw : wpT Try.prog (fun _ _ _ => False) (fun a => a = res) T.impl_TyOk_1 args []) : PCon Try.prog F.impl_TyOk_1 args res :=
  con_auto Try.func97 T.impl_TyOk_1_l hl hn hw
def T.spec_l1Low : T :=
.bind 1 (
 .op (.call F.spec_l1Name [(.x 0), (.c (.v (.bool false)))] false) (
 .ite (.x 1)
  (.op (.call F.spec_l1Key [(.x 0)] false) (
  .op (.un .not (.x 2)) (
  .jump [(.x 3)])))
  (.jump [(.c (.v (.bool false)))]))) (
.ret [(.x 1)])
theorem T.spec_l1Low_l : leftF Try.prog CF Try.f116 = some (1, T.spec_l1Low) := by kernel_rfl
theorem T.spec_l1Low_con {args : List AV} {res : AV} (hl : args.length = 1) (hn : AV.norefs args = true) (hw : wpT Try.prog (fun _ _ _ => False) (fun a => a = res) T.spec_l1Low args []) : PCon Try.prog F.spec_l1Low args res :=
  con_auto Try.func116 T.spec_l1Low_l hl hn hw
def T.impl_lowOk : T :=
.bind 1 (
 .op (.call F.impl_isName [(.x 0), (.c (.fn F.impl_small []))] false) (
 .ite (.x 1)
  (.op (.call F.impl_isKey [(.x 0)] false) (
  .op (.un .not (.x 2)) (
  .jump [(.x 3)])))
  (.jump [(.c (.v (.bool false)))]))) (
.ret [(.x 1)])
theorem T.impl_lowOk_l : leftF Try.prog CF Try.f117 = some (1, T.impl_lowOk) := by kernel_rfl
theorem T.impl_lowOk_con {args : List AV} {res : AV} (hl : args.length = 1) (hn : AV.norefs args = true) (hw : wpT Try.prog (fun _ _ _ => False) (fun a => a = res) T.impl_lowOk args []) : PCon Try.prog F.impl_lowOk args res :=
  con_auto Try.func117 T.impl_lowOk_l hl hn hw
def T.slices_IndexFunc__impl_Ty_impl_Ty : T :=
.bind 0 (
 .op (.lenL (.x 0)) (
 .loop [(.c (.v (.int .i64 0)))] (
  .op (.bin .lss (.x 3) (.x 2)) (
  .ite (.x 4)
   (.op (.elem 4 (.x 0) (.x 3)) (
   .chk (.cells (.x 5) 4) (
   .op (.callv (.x 1) [(.x 5)] false) (
   .ite (.x 6)
    (.esc (.esc (.ret [(.x 3)])))
    (.op (.bin .add (.x 3) (.c (.v (.int .i64 1)))) (
    .jump [(.x 7)]))))))
   (.esc (.jump [])))))) (
.ret [(.c (.v (.int .i64 (-1))))])
theorem T.slices_IndexFunc__impl_Ty_impl_Ty_l : leftF Try.prog CF Try.f118 = some (2, T.slices_IndexFunc__impl_Ty_impl_Ty) := by kernel_rfl
theorem T.slices_IndexFunc__impl_Ty_impl_Ty_con {args : List AV} {res : AV} (hl : args.length = 2) (hn : AV.norefs args = true) (hw : wpT Try.prog (fun _ _ _ => False) (fun a => a = res) T.slices_IndexFunc__impl_Ty_impl_Ty args []) : PCon Try.prog F.slices_IndexFunc__impl_Ty_impl_Ty args res :=
  con_auto Try.func118 T.slices_IndexFunc__impl_Ty_impl_Ty_l hl hn hw
def T.spec_l1Name : T :=
.bind 0 (
 .bind 1 (
  .op (.lenS (.x 0)) (
  .op (.call F.spec_l1In [(.x 2), (.c (.v (.int .i64 1))), (.c (.v (.int .i64 12)))] false) (
  .op (.un .not (.x 3)) (
  .ite (.x 4)
   (.jump [(.c (.v (.bool true)))])
   (.op (.idxS (.x 0) (.c (.v (.int .i64 0)))) (
   .op (.conv .i64 (.x 5)) (
   .op (.call F.spec_l1Upper [(.x 6)] false) (
   .op (.beq true (.x 1) (.x 7)) (
   .ite (.x 8)
    (.jump [(.c (.v (.bool true)))])
    (.op (.un .not (.x 1)) (
    .ite (.x 9)
     (.op (.idxS (.x 0) (.c (.v (.int .i64 0)))) (
     .op (.conv .i64 (.x 10)) (
     .op (.call F.spec_l1Lower [(.x 11)] false) (
     .op (.un .not (.x 12)) (
     .jump [(.x 13)])))))
     (.jump [(.c (.v (.bool false)))])))))))))))) (
 .ite (.x 2)
  (.esc (.ret [(.c (.v (.bool false)))]))
  (.jump []))) (
.bind 0 (
 .loop [(.c (.v (.int .i64 0)))] (
  .op (.lenS (.x 0)) (
  .op (.bin .lss (.x 2) (.x 3)) (
  .ite (.x 4)
   (.op (.idxS (.x 0) (.x 2)) (
   .op (.conv .i64 (.x 5)) (
   .op (.call F.spec_l1NameByte [(.x 6)] false) (
   .op (.un .not (.x 7)) (
   .ite (.x 8)
    (.esc (.esc (.ret [(.c (.v (.bool false)))])))
    (.op (.bin .add (.x 2) (.c (.v (.int .i64 1)))) (
    .jump [(.x 9)])))))))
   (.esc (.jump [])))))) (
.ret [(.c (.v (.bool true)))]))
theorem T.spec_l1Name_l : leftF Try.prog CF Try.f122 = some (2, T.spec_l1Name) := by kernel_rfl
theorem T.spec_l1Name_con {args : List AV} {res : AV} (hl : args.length = 2) (hn : AV.norefs args = true) (hw : wpT Try.prog (fun _ _ _ => False) (fun a => a = res) T.spec_l1Name args []) : PCon Try.prog F.spec_l1Name args res :=
  con_auto Try.func122 T.spec_l1Name_l hl hn hw
def T.spec_l1Key : T :=
.chk (.one (.c (.v (.string ⟨#[116, 121, 112, 101]⟩)))) (
.chk (.one (.c (.v (.string ⟨#[111, 102]⟩)))) (
.chk (.one (.c (.v (.string ⟨#[108, 101, 116]⟩)))) (
.chk (.one (.c (.v (.string ⟨#[114, 101, 99]⟩)))) (
.chk (.one (.c (.v (.string ⟨#[105, 110]⟩)))) (
.chk (.one (.c (.v (.string ⟨#[102, 117, 110]⟩)))) (
.chk (.one (.c (.v (.string ⟨#[105, 102]⟩)))) (
.chk (.one (.c (.v (.string ⟨#[116, 104, 101, 110]⟩)))) (
.chk (.one (.c (.v (.string ⟨#[101, 108, 115, 101]⟩)))) (
.chk (.one (.c (.v (.string ⟨#[109, 97, 116, 99, 104]⟩)))) (
.chk (.one (.c (.v (.string ⟨#[119, 105, 116, 104]⟩)))) (
.chk (.one (.c (.v (.string ⟨#[101, 110, 100]⟩)))) (
.chk (.one (.c (.v (.string ⟨#[116, 114, 117, 101]⟩)))) (
.chk (.one (.c (.v (.string ⟨#[102, 97, 108, 115, 101]⟩)))) (
.chk (.one (.c (.v (.string ⟨#[114, 101, 102]⟩)))) (
.chk (.one (.c (.v (.string ⟨#[114, 101, 97, 100]⟩)))) (
.chk (.one (.c (.v (.string ⟨#[112, 114, 105, 110, 116]⟩)))) (
.chk (.one (.c (.v (.string ⟨#[101, 120, 105, 116]⟩)))) (
.chk (.one (.c (.v (.string ⟨#[115, 105, 122, 101]⟩)))) (
.op (.mkl (.v (.string ⟨#[]⟩)) 19 [(0, (.c (.v (.string ⟨#[116, 121, 112, 101]⟩)))), (1, (.c (.v (.string ⟨#[111, 102]⟩)))), (2, (.c (.v (.string ⟨#[108, 101, 116]⟩)))), (3, (.c (.v (.string ⟨#[114, 101, 99]⟩)))), (4, (.c (.v (.string ⟨#[105, 110]⟩)))), (5, (.c (.v (.string ⟨#[102, 117, 110]⟩)))), (6, (.c (.v (.string ⟨#[105, 102]⟩)))), (7, (.c (.v (.string ⟨#[116, 104, 101, 110]⟩)))), (8, (.c (.v (.string ⟨#[101, 108, 115, 101]⟩)))), (9, (.c (.v (.string ⟨#[109, 97, 116, 99, 104]⟩)))), (10, (.c (.v (.string ⟨#[119, 105, 116, 104]⟩)))), (11, (.c (.v (.string ⟨#[101, 110, 100]⟩)))), (12, (.c (.v (.string ⟨#[116, 114, 117, 101]⟩)))), (13, (.c (.v (.string ⟨#[102, 97, 108, 115, 101]⟩)))), (14, (.c (.v (.string ⟨#[114, 101, 102]⟩)))), (15, (.c (.v (.string ⟨#[114, 101, 97, 100]⟩)))), (16, (.c (.v (.string ⟨#[112, 114, 105, 110, 116]⟩)))), (17, (.c (.v (.string ⟨#[101, 120, 105, 116]⟩)))), (18, (.c (.v (.string ⟨#[115, 105, 122, 101]⟩))))]) (
.bind 0 (
 .loop [(.c (.v (.int .i64 0)))] (
  .op (.lenL (.sl (.x 1))) (
  .op (.bin .lss (.x 2) (.x 3)) (
  .ite (.x 4)
   (.chk (.idx (.x 1) (.x 2)) (
   .op (.get (.x 1) (.x 2) 0 none) (
   .op (.bin .eql (.x 5) (.x 0)) (
   .ite (.x 6)
    (.esc (.esc (.ret [(.c (.v (.bool true)))])))
    (.op (.bin .add (.x 2) (.c (.v (.int .i64 1)))) (
    .jump [(.x 7)]))))))
   (.esc (.jump [])))))) (
.ret [(.c (.v (.bool false)))])))))))))))))))))))))
theorem T.spec_l1Key_l : leftF Try.prog CF Try.f123 = some (1, T.spec_l1Key) := by kernel_rfl
theorem T.spec_l1Key_con {args : List AV} {res : AV} (hl : args.length = 1) (hn : AV.norefs args = true) (hw : wpT Try.prog (fun _ _ _ => False) (fun a => a = res) T.spec_l1Key args []) : PCon Try.prog F.spec_l1Key args res :=
  con_auto Try.func123 T.spec_l1Key_l hl hn hw
def T.impl_isName : T :=
.bind 1 (
 .op (.lenS (.x 0)) (
 .op (.call F.impl_within [(.x 2), (.c (.v (.int .i64 1))), (.c (.v (.int .i64 12)))] false) (
 .ite (.x 3)
  (.op (.idxS (.x 0) (.c (.v (.int .i64 0)))) (
  .op (.callv (.x 1) [(.x 4)] false) (
  .ite (.x 5)
   (.op (.call F.impl_run [(.x 0), (.c (.v (.int .i64 0))), (.c (.fn F.impl_nameByte []))] false) (
   .op (.lenS (.x 0)) (
   .op (.bin .eql (.x 6) (.x 7)) (
   .jump [(.x 8)]))))
   (.jump [(.c (.v (.bool false)))]))))
  (.jump [(.c (.v (.bool false)))])))) (
.ret [(.x 2)])
theorem T.impl_isName_l : leftF Try.prog CF Try.f124 = some (2, T.impl_isName) := by kernel_rfl
theorem T.impl_isName_con {args : List AV} {res : AV} (hl : args.length = 2) (hn : AV.norefs args = true) (hw : wpT Try.prog (fun _ _ _ => False) (fun a => a = res) T.impl_isName args []) : PCon Try.prog F.impl_isName args res :=
  con_auto Try.func124 T.impl_isName_l hl hn hw
def T.impl_small : T :=
.bind 1 (
 .op (.bin .geq (.x 0) (.c (.v (.int .u8 97)))) (
 .ite (.x 1)
  (.op (.bin .leq (.x 0) (.c (.v (.int .u8 122)))) (
  .jump [(.x 2)]))
  (.jump [(.c (.v (.bool false)))]))) (
.ret [(.x 1)])
theorem T.impl_small_l : leftF Try.prog CF Try.f125 = some (1, T.impl_small) := by kernel_rfl
theorem T.impl_small_con {args : List AV} {res : AV} (hl : args.length = 1) (hn : AV.norefs args = true) (hw : wpT Try.prog (fun _ _ _ => False) (fun a => a = res) T.impl_small args []) : PCon Try.prog F.impl_small args res :=
  con_auto Try.func125 T.impl_small_l hl hn hw
def T.impl_isKey : T :=
.chk (.one (.c (.v (.string ⟨#[116, 121, 112, 101]⟩)))) (
.chk (.one (.c (.v (.string ⟨#[111, 102]⟩)))) (
.chk (.one (.c (.v (.string ⟨#[108, 101, 116]⟩)))) (
.chk (.one (.c (.v (.string ⟨#[114, 101, 99]⟩)))) (
.chk (.one (.c (.v (.string ⟨#[105, 110]⟩)))) (
.chk (.one (.c (.v (.string ⟨#[102, 117, 110]⟩)))) (
.chk (.one (.c (.v (.string ⟨#[105, 102]⟩)))) (
.chk (.one (.c (.v (.string ⟨#[116, 104, 101, 110]⟩)))) (
.chk (.one (.c (.v (.string ⟨#[101, 108, 115, 101]⟩)))) (
.chk (.one (.c (.v (.string ⟨#[109, 97, 116, 99, 104]⟩)))) (
.chk (.one (.c (.v (.string ⟨#[119, 105, 116, 104]⟩)))) (
.chk (.one (.c (.v (.string ⟨#[101, 110, 100]⟩)))) (
.chk (.one (.c (.v (.string ⟨#[116, 114, 117, 101]⟩)))) (
.chk (.one (.c (.v (.string ⟨#[102, 97, 108, 115, 101]⟩)))) (
.chk (.one (.c (.v (.string ⟨#[114, 101, 102]⟩)))) (
.chk (.one (.c (.v (.string ⟨#[114, 101, 97, 100]⟩)))) (
.chk (.one (.c (.v (.string ⟨#[112, 114, 105, 110, 116]⟩)))) (
.chk (.one (.c (.v (.string ⟨#[101, 120, 105, 116]⟩)))) (
.chk (.one (.c (.v (.string ⟨#[115, 105, 122, 101]⟩)))) (
.op (.mkl (.v (.string ⟨#[]⟩)) 19 [(0, (.c (.v (.string ⟨#[116, 121, 112, 101]⟩)))), (1, (.c (.v (.string ⟨#[111, 102]⟩)))), (2, (.c (.v (.string ⟨#[108, 101, 116]⟩)))), (3, (.c (.v (.string ⟨#[114, 101, 99]⟩)))), (4, (.c (.v (.string ⟨#[105, 110]⟩)))), (5, (.c (.v (.string ⟨#[102, 117, 110]⟩)))), (6, (.c (.v (.string ⟨#[105, 102]⟩)))), (7, (.c (.v (.string ⟨#[116, 104, 101, 110]⟩)))), (8, (.c (.v (.string ⟨#[101, 108, 115, 101]⟩)))), (9, (.c (.v (.string ⟨#[109, 97, 116, 99, 104]⟩)))), (10, (.c (.v (.string ⟨#[119, 105, 116, 104]⟩)))), (11, (.c (.v (.string ⟨#[101, 110, 100]⟩)))), (12, (.c (.v (.string ⟨#[116, 114, 117, 101]⟩)))), (13, (.c (.v (.string ⟨#[102, 97, 108, 115, 101]⟩)))), (14, (.c (.v (.string ⟨#[114, 101, 102]⟩)))), (15, (.c (.v (.string ⟨#[114, 101, 97, 100]⟩)))), (16, (.c (.v (.string ⟨#[112, 114, 105, 110, 116]⟩)))), (17, (.c (.v (.string ⟨#[101, 120, 105, 116]⟩)))), (18, (.c (.v (.string ⟨#[115, 105, 122, 101]⟩))))]) (
.op (.call F.slices_Contains__string_string [(.sl (.x 1)), (.x 0)] true) (
.ret [(.x 2)])))))))))))))))))))))
theorem T.impl_isKey_l : leftF Try.prog CF Try.f126 = some (1, T.impl_isKey) := by kernel_rfl
theorem T.impl_isKey_con {args : List AV} {res : AV} (hl : args.length = 1) (hn : AV.norefs args = true) (hw : wpT Try.prog (fun _ _ _ => False) (fun a => a = res) T.impl_isKey args []) : PCon Try.prog F.impl_isKey args res :=
  con_auto Try.func126 T.impl_isKey_l hl hn hw
def T.spec_l1Upper : T :=
.op (.call F.spec_l1In [(.x 0), (.c (.v (.int .i64 65))), (.c (.v (.int .i64 90)))] false) (
.ret [(.x 1)])
theorem T.spec_l1Upper_l : leftF Try.prog CF Try.f127 = some (1, T.spec_l1Upper) := by kernel_rfl
theorem T.spec_l1Upper_con {args : List AV} {res : AV} (hl : args.length = 1) (hn : AV.norefs args = true) (hw : wpT Try.prog (fun _ _ _ => False) (fun a => a = res) T.spec_l1Upper args []) : PCon Try.prog F.spec_l1Upper args res :=
  con_auto Try.func127 T.spec_l1Upper_l hl hn hw
def T.spec_l1Lower : T :=
.op (.call F.spec_l1In [(.x 0), (.c (.v (.int .i64 97))), (.c (.v (.int .i64 122)))] false) (
.ret [(.x 1)])
theorem T.spec_l1Lower_l : leftF Try.prog CF Try.f128 = some (1, T.spec_l1Lower) := by kernel_rfl
theorem T.spec_l1Lower_con {args : List AV} {res : AV} (hl : args.length = 1) (hn : AV.norefs args = true) (hw : wpT Try.prog (fun _ _ _ => False) (fun a => a = res) T.spec_l1Lower args []) : PCon Try.prog F.spec_l1Lower args res :=
  con_auto Try.func128 T.spec_l1Lower_l hl hn hw
def T.spec_l1NameByte : T :=
.bind 1 (
 .op (.call F.spec_l1Lower [(.x 0)] false) (
 .ite (.x 1)
  (.jump [(.c (.v (.bool true)))])
  (.op (.call F.spec_l1Upper [(.x 0)] false) (
  .ite (.x 2)
   (.jump [(.c (.v (.bool true)))])
   (.op (.call F.spec_l1Num [(.x 0)] false) (
   .ite (.x 3)
    (.jump [(.c (.v (.bool true)))])
    (.op (.bin .eql (.x 0) (.c (.v (.int .i64 95)))) (
    .jump [(.x 4)])))))))) (
.ret [(.x 1)])
theorem T.spec_l1NameByte_l : leftF Try.prog CF Try.f129 = some (1, T.spec_l1NameByte) := by kernel_rfl
theorem T.spec_l1NameByte_con {args : List AV} {res : AV} (hl : args.length = 1) (hn : AV.norefs args = true) (hw : wpT Try.prog (fun _ _ _ => False) (fun a => a = res) T.spec_l1NameByte args []) : PCon Try.prog F.spec_l1NameByte args res :=
  con_auto Try.func129 T.spec_l1NameByte_l hl hn hw
def T.impl_run : T :=
.bind 1 (
 .loop [(.x 1)] (
  .bind 0 (
   .bind 1 (
    .op (.lenS (.x 0)) (
    .op (.bin .lss (.x 3) (.x 4)) (
    .ite (.x 5)
     (.op (.idxS (.x 0) (.x 3)) (
     .op (.callv (.x 2) [(.x 6)] false) (
     .jump [(.x 7)])))
     (.jump [(.c (.v (.bool false)))])))) (
   .ite (.x 4)
    (.jump [])
    (.esc (.esc (.jump [(.x 3)]))))) (
  .op (.bin .add (.x 3) (.c (.v (.int .i64 1)))) (
  .jump [(.x 4)])))) (
.ret [(.x 3)])
theorem T.impl_run_l : leftF Try.prog CF Try.f130 = some (3, T.impl_run) := by kernel_rfl
theorem T.impl_run_con {args : List AV} {res : AV} (hl : args.length = 3) (hn : AV.norefs args = true) (hw : wpT Try.prog (fun _ _ _ => False) (fun a => a = res) T.impl_run args []) : PCon Try.prog F.impl_run args res :=
  con_auto Try.func130 T.impl_run_l hl hn hw
def T.impl_nameByte : T :=
.bind 1 (
 .op (.call F.impl_small [(.x 0)] false) (
 .ite (.x 1)
  (.jump [(.c (.v (.bool true)))])
  (.op (.call F.impl_great [(.x 0)] false) (
  .ite (.x 2)
   (.jump [(.c (.v (.bool true)))])
   (.op (.call F.impl_digit [(.x 0)] false) (
   .ite (.x 3)
    (.jump [(.c (.v (.bool true)))])
    (.op (.bin .eql (.x 0) (.c (.v (.int .u8 95)))) (
    .jump [(.x 4)])))))))) (
.ret [(.x 1)])
theorem T.impl_nameByte_l : leftF Try.prog CF Try.f131 = some (1, T.impl_nameByte) := by kernel_rfl
theorem T.impl_nameByte_con {args : List AV} {res : AV} (hl : args.length = 1) (hn : AV.norefs args = true) (hw : wpT Try.prog (fun _ _ _ => False) (fun a => a = res) T.impl_nameByte args []) : PCon Try.prog F.impl_nameByte args res :=
  con_auto Try.func131 T.impl_nameByte_l hl hn hw
def T.slices_Contains__string_string : T :=
.op (.call F.slices_Index__string_string [(.x 0), (.x 1)] false) (
.op (.bin .geq (.x 2) (.c (.v (.int .i64 0)))) (
.ret [(.x 3)]))
theorem T.slices_Contains__string_string_l : leftF Try.prog CF Try.f132 = some (2, T.slices_Contains__string_string) := by kernel_rfl
theorem T.slices_Contains__string_string_con {args : List AV} {res : AV} (hl : args.length = 2) (hn : AV.norefs args = true) (hw : wpT Try.prog (fun _ _ _ => False) (fun a => a = res) T.slices_Contains__string_string args []) : PCon Try.prog F.slices_Contains__string_string args res :=
  con_auto Try.func132 T.slices_Contains__string_string_l hl hn hw
def T.spec_l1Num : T :=
.op (.call F.spec_l1In [(.x 0), (.c (.v (.int .i64 48))), (.c (.v (.int .i64 57)))] false) (
.ret [(.x 1)])
theorem T.spec_l1Num_l : leftF Try.prog CF Try.f133 = some (1, T.spec_l1Num) := by kernel_rfl
theorem T.spec_l1Num_con {args : List AV} {res : AV} (hl : args.length = 1) (hn : AV.norefs args = true) (hw : wpT Try.prog (fun _ _ _ => False) (fun a => a = res) T.spec_l1Num args []) : PCon Try.prog F.spec_l1Num args res :=
  con_auto Try.func133 T.spec_l1Num_l hl hn hw
def T.impl_great : T :=
.bind 1 (
 .op (.bin .geq (.x 0) (.c (.v (.int .u8 65)))) (
 .ite (.x 1)
  (.op (.bin .leq (.x 0) (.c (.v (.int .u8 90)))) (
  .jump [(.x 2)]))
  (.jump [(.c (.v (.bool false)))]))) (
.ret [(.x 1)])
theorem T.impl_great_l : leftF Try.prog CF Try.f134 = some (1, T.impl_great) := by kernel_rfl
theorem T.impl_great_con {args : List AV} {res : AV} (hl : args.length = 1) (hn : AV.norefs args = true) (hw : wpT Try.prog (fun _ _ _ => False) (fun a => a = res) T.impl_great args []) : PCon Try.prog F.impl_great args res :=
  con_auto Try.func134 T.impl_great_l hl hn hw
def T.impl_digit : T :=
.bind 1 (
 .op (.bin .geq (.x 0) (.c (.v (.int .u8 48)))) (
 .ite (.x 1)
  (.op (.bin .leq (.x 0) (.c (.v (.int .u8 57)))) (
  .jump [(.x 2)]))
  (.jump [(.c (.v (.bool false)))]))) (
.ret [(.x 1)])
theorem T.impl_digit_l : leftF Try.prog CF Try.f135 = some (1, T.impl_digit) := by kernel_rfl
theorem T.impl_digit_con {args : List AV} {res : AV} (hl : args.length = 1) (hn : AV.norefs args = true) (hw : wpT Try.prog (fun _ _ _ => False) (fun a => a = res) T.impl_digit args []) : PCon Try.prog F.impl_digit args res :=
  con_auto Try.func135 T.impl_digit_l hl hn hw
def T.slices_Index__string_string : T :=
.bind 0 (
 .op (.lenL (.x 0)) (
 .loop [(.c (.v (.int .i64 0)))] (
  .op (.bin .lss (.x 3) (.x 2)) (
  .ite (.x 4)
   (.op (.elem 1 (.x 0) (.x 3)) (
   .chk (.lt (.x 5) 0) (
   .op (.bin .eql (.x 1) (.cell 5 0)) (
   .ite (.x 6)
    (.esc (.esc (.ret [(.x 3)])))
    (.op (.bin .add (.x 3) (.c (.v (.int .i64 1)))) (
    .jump [(.x 7)]))))))
   (.esc (.jump [])))))) (
.ret [(.c (.v (.int .i64 (-1))))])
theorem T.slices_Index__string_string_l : leftF Try.prog CF Try.f136 = some (2, T.slices_Index__string_string) := by kernel_rfl
theorem T.slices_Index__string_string_con {args : List AV} {res : AV} (hl : args.length = 2) (hn : AV.norefs args = true) (hw : wpT Try.prog (fun _ _ _ => False) (fun a => a = res) T.slices_Index__string_string args []) : PCon Try.prog F.slices_Index__string_string args res :=
  con_auto Try.func136 T.slices_Index__string_string_l hl hn hw
end Go.Proofs.Ab
