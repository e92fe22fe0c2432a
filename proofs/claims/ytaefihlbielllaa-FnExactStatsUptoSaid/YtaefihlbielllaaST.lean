/-
  WHAT IS LEFT of this seat's functions, printed by a program of ours (wip/tool/Gen2.lean) from the translation; each with the theorem that it is what is left of that function.
-/
import Derived.Test.YtaefihlbielllaaChecked
import Derived.KernelRfl
import Derived.Test.YtaefihlbielllaaAbM4
set_option linter.unusedVariables false
set_option linter.unusedSimpArgs false
set_option linter.defProp false
namespace Go.Proofs.Ab
open Go.Ab
set_option maxRecDepth 100000
namespace F
abbrev laws_FnExactStats : FuncId := 3
abbrev laws_szCode : FuncId := 8
abbrev spec_Stats : FuncId := 9
abbrev laws_toCode : FuncId := 10
abbrev impl_Stats : FuncId := 11
abbrev laws_eqIntA16 : FuncId := 12
abbrev laws_eqCode : FuncId := 13
abbrev laws_szTy : FuncId := 14
abbrev spec_Principal : FuncId := 15
abbrev laws_szTyS : FuncId := 28
abbrev laws_szInstrS : FuncId := 34
abbrev laws_szIntS : FuncId := 35
abbrev spec_l1In : FuncId := 36
abbrev laws_toInstrS : FuncId := 37
abbrev laws_toIntS : FuncId := 38
abbrev impl_within : FuncId := 39
abbrev laws_eqInstrS : FuncId := 40
abbrev laws_eqIntS : FuncId := 41
abbrev spec_l1New : FuncId := 47
abbrev spec_l1Below : FuncId := 50
abbrev spec_l1Int : FuncId := 51
abbrev spec_l4DrawAny : FuncId := 52
abbrev spec_l4Free : FuncId := 54
abbrev laws_szInstr : FuncId := 75
abbrev laws_toInstr : FuncId := 76
abbrev laws_eqInstr : FuncId := 77
abbrev spec_l4Draw : FuncId := 83
abbrev spec_l1Once : FuncId := 84
abbrev spec_l1Byte : FuncId := 86
abbrev spec_l1Str : FuncId := 87
abbrev slices_Grow__impl_Ty_impl_Ty : FuncId := 102
end F
def FL : List Nat := [3, 4, 5, 6, 7, 8, 12, 13, 14, 15, 17, 18, 19, 21, 22, 23, 27, 28, 31, 32, 33, 34, 35, 36, 39, 40, 41, 43, 44, 46, 49, 50, 51, 53, 55, 57, 59, 60, 63, 66, 67, 69, 70, 71, 72, 74, 75, 77, 78, 79, 80, 81, 84, 86, 87, 88, 89, 91, 92, 93, 95, 96, 97, 98, 100, 101, 103, 104, 105, 106, 107, 108, 109, 110, 111, 112, 113, 114, 115, 116, 117]
def FR : List (Nat × Bool × Nat × Nat) := [(45, true, 3, 1), (24, false, 3, 1), (82, true, 3, 1)]
abbrev G.spec_l1New : Sig := ⟨1, [(.d (.x 0))], [], 3, (.ptr 0 0), [(.box 118 [(.d (.x 0)), (.d (.x 1)), (.d (.x 2))])], []⟩
abbrev G.spec_l1Below : Sig := ⟨4, [(.ptr 0 0), (.d (.x 3))], [(.box 118 [(.d (.x 0)), (.d (.x 1)), (.d (.x 2))])], 4, (.d (.x 0)), [(.box 118 [(.d (.x 1)), (.d (.x 2)), (.d (.x 3))])], []⟩
abbrev G.spec_l1Int : Sig := ⟨4, [(.ptr 0 0), (.d (.x 3))], [(.box 118 [(.d (.x 0)), (.d (.x 1)), (.d (.x 2))])], 4, (.d (.x 0)), [(.box 118 [(.d (.x 1)), (.d (.x 2)), (.d (.x 3))])], []⟩
abbrev G.spec_l4DrawAny : Sig := ⟨3, [(.ptr 0 0)], [(.box 118 [(.d (.x 0)), (.d (.x 1)), (.d (.x 2))])], 4, (.d (.x 0)), [(.box 118 [(.d (.x 1)), (.d (.x 2)), (.d (.x 3))])], []⟩
abbrev G.spec_l4Free : Sig := ⟨3, [(.d (.x 0)), (.d (.x 1)), (.row 0 (.x 2))], [(.row false 3 1 (.x 2))], 1, (.row 0 (.x 0)), [(.row false 3 1 (.x 0))], []⟩
abbrev G.spec_l4Draw : Sig := ⟨5, [(.ptr 0 0), (.d (.x 3)), (.d (.x 4))], [(.box 118 [(.d (.x 0)), (.d (.x 1)), (.d (.x 2))])], 7, (.agg [(.d (.x 0)), (.d (.x 4)), (.d (.x 5)), (.row 1 (.x 6))]), [(.box 118 [(.d (.x 1)), (.d (.x 2)), (.d (.x 3))]), (.row true 38 4 (.x 6))], []⟩
abbrev G.spec_l4Draw_s1 : Sig := ⟨5, [(.ptr 0 0), (.d (.x 3)), (.d (.x 4))], [(.box 118 [(.d (.x 0)), (.d (.x 1)), (.d (.x 2))])], 4, (.d (.x 0)), [(.box 118 [(.d (.x 1)), (.d (.x 2)), (.d (.x 3))])], []⟩
abbrev G.spec_l1Once : Sig := ⟨4, [(.ptr 0 0), (.d (.x 3))], [(.box 118 [(.d (.x 0)), (.d (.x 1)), (.d (.x 2))])], 4, (.d (.x 0)), [(.box 118 [(.d (.x 1)), (.d (.x 2)), (.d (.x 3))])], []⟩
abbrev G.spec_l1Byte : Sig := ⟨3, [(.ptr 0 0)], [(.box 118 [(.d (.x 0)), (.d (.x 1)), (.d (.x 2))])], 4, (.d (.x 0)), [(.box 118 [(.d (.x 1)), (.d (.x 2)), (.d (.x 3))])], []⟩
abbrev G.spec_l1Str : Sig := ⟨4, [(.ptr 0 0), (.d (.x 3))], [(.box 118 [(.d (.x 0)), (.d (.x 1)), (.d (.x 2))])], 4, (.d (.x 0)), [(.box 118 [(.d (.x 1)), (.d (.x 2)), (.d (.x 3))])], []⟩
abbrev G.slices_Grow__impl_Ty_impl_Ty : Sig := ⟨1, [(.d (.c .nils)), (.d (.x 0))], [], 1, (.row 0 (.x 0)), [(.row false 43 4 (.x 0))], []⟩
abbrev G.slices_Grow__impl_Ty_impl_Ty_s1 : Sig := ⟨1, [(.d (.c .nils)), (.d (.x 0))], [], 0, (.d (.c .nils)), [], []⟩
def SG : List (Nat × List Sig) := [(47, [G.spec_l1New]), (50, [G.spec_l1Below]), (51, [G.spec_l1Int]), (52, [G.spec_l4DrawAny]), (54, [G.spec_l4Free]), (83, [G.spec_l4Draw, G.spec_l4Draw_s1]), (84, [G.spec_l1Once]), (86, [G.spec_l1Byte]), (87, [G.spec_l1Str]), (102, [G.slices_Grow__impl_Ty_impl_Ty, G.slices_Grow__impl_Ty_impl_Ty_s1])]
abbrev CF : Cfg := ⟨FL, FR, SG, false⟩
def T.laws_FnExactStats : T :=
.chk (.cells (.x 0) 2) (
.chk (.cells (.x 0) 2) (
.op (.call F.laws_szCode [(.x 0), (.c (.v (.int .i64 1048576)))] false) (
.op (.bin .lss (.x 1) (.c (.v (.int .i64 0)))) (
.ite (.x 2)
 (.ret [(.c (.v (.bool true)))])
 (.chk (.cells (.x 0) 2) (
 .op (.call F.laws_toCode [(.x 0)] false) (
 .op (.call F.spec_Stats [(.x 3)] false) (
 .chk (.cells (.x 4) 16) (
 .chk (.cells (.x 0) 2) (
 .op (.call F.laws_toCode [(.x 0)] false) (
 .chk (.cells (.x 5) 2) (
 .chk (.cells (.x 5) 2) (
 .op (.call F.impl_Stats [(.x 5)] false) (
 .chk (.cells (.x 6) 16) (
 .chk (.cells (.x 6) 16) (
 .chk (.cells (.x 4) 16) (
 .op (.call F.laws_eqIntA16 [(.x 6), (.x 4)] false) (
 .op (.un .not (.x 7)) (
 .ite (.x 8)
  (.ret [(.c (.v (.bool false)))])
  (.chk (.cells (.x 5) 2) (
  .chk (.cells (.x 0) 2) (
  .op (.call F.laws_toCode [(.x 0)] false) (
  .op (.call F.laws_eqCode [(.x 5), (.x 9)] true) (
  .op (.un .not (.x 10)) (
  .ite (.x 11)
   (.ret [(.c (.v (.bool false)))])
   (.ret [(.c (.v (.bool true)))]))))))))))))))))))))))))))
theorem T.laws_FnExactStats_l : leftF Try.prog CF Try.f3 = some (1, T.laws_FnExactStats) := by kernel_rfl
theorem T.laws_FnExactStats_con {args : List AV} {res : AV} (hl : args.length = 1) (hn : AV.norefs args = true) (hw : wpT Try.prog (fun _ _ _ => False) (fun a => a = res) T.laws_FnExactStats args []) : PCon Try.prog F.laws_FnExactStats args res :=
  con_auto Try.func3 T.laws_FnExactStats_l hl hn hw
def T.laws_szCode : T :=
.chk (.cells (.x 0) 2) (
.op (.call F.laws_szInstrS [(.cell 0 0), (.x 1)] false) (
.op (.bin .lss (.x 2) (.c (.v (.int .i64 0)))) (
.ite (.x 3)
 (.ret [(.c (.v (.int .i64 (-1))))])
 (.op (.call F.laws_szIntS [(.cell 0 1), (.x 2)] false) (
 .op (.bin .lss (.x 4) (.c (.v (.int .i64 0)))) (
 .ite (.x 5)
  (.ret [(.c (.v (.int .i64 (-1))))])
  (.ret [(.x 4)])))))))
theorem T.laws_szCode_l : leftF Try.prog CF Try.f8 = some (2, T.laws_szCode) := by kernel_rfl
theorem T.laws_szCode_con {args : List AV} {res : AV} (hl : args.length = 2) (hn : AV.norefs args = true) (hw : wpT Try.prog (fun _ _ _ => False) (fun a => a = res) T.laws_szCode args []) : PCon Try.prog F.laws_szCode args res :=
  con_auto Try.func8 T.laws_szCode_l hl hn hw
-- spec_Stats: no walk
def T.laws_toCode : T :=
.chk (.cells (.x 0) 2) (
.op (.call F.laws_toInstrS [(.cell 0 0)] false) (
.chk (.one (.x 1)) (
.op (.call F.laws_toIntS [(.cell 0 1)] false) (
.chk (.one (.x 2)) (
.chk (.cells (.agg [(.x 1), (.x 2)]) 2) (
.ret [(.agg [(.x 1), (.x 2)])]))))))
theorem T.laws_toCode_l : leftF Try.prog CF Try.f10 = some (1, T.laws_toCode) := by kernel_rfl
theorem T.laws_toCode_con {args : List AV} {res : AV} (hl : args.length = 1) (hn : AV.norefs args = true) (hw : wpT Try.prog (fun _ _ _ => False) (fun a => a = res) T.laws_toCode args []) : PCon Try.prog F.laws_toCode args res :=
  con_auto Try.func10 T.laws_toCode_l hl hn hw
-- impl_Stats: no walk
-- laws_eqIntA16: no walk
def T.laws_eqCode : T :=
.chk (.cells (.x 0) 2) (
.chk (.cells (.x 1) 2) (
.op (.call F.laws_eqInstrS [(.cell 0 0), (.cell 1 0)] false) (
.op (.un .not (.x 2)) (
.ite (.x 3)
 (.ret [(.c (.v (.bool false)))])
 (.op (.call F.laws_eqIntS [(.cell 0 1), (.cell 1 1)] false) (
 .op (.un .not (.x 4)) (
 .ite (.x 5)
  (.ret [(.c (.v (.bool false)))])
  (.ret [(.c (.v (.bool true)))]))))))))
theorem T.laws_eqCode_l : leftF Try.prog CF Try.f13 = some (2, T.laws_eqCode) := by kernel_rfl
theorem T.laws_eqCode_con {args : List AV} {res : AV} (hl : args.length = 2) (hn : AV.norefs args = true) (hw : wpT Try.prog (fun _ _ _ => False) (fun a => a = res) T.laws_eqCode args []) : PCon Try.prog F.laws_eqCode args res :=
  con_auto Try.func13 T.laws_eqCode_l hl hn hw
def T.laws_szTy : T :=
.chk (.cells (.x 0) 4) (
.op (.lenS (.cell 0 2)) (
.op (.bin .sub (.x 1) (.x 2)) (
.op (.bin .lss (.x 3) (.c (.v (.int .i64 0)))) (
.ite (.x 4)
 (.ret [(.c (.v (.int .i64 (-1))))])
 (.op (.call F.laws_szTyS [(.cell 0 3), (.x 3)] false) (
 .op (.bin .lss (.x 5) (.c (.v (.int .i64 0)))) (
 .ite (.x 6)
  (.ret [(.c (.v (.int .i64 (-1))))])
  (.ret [(.x 5)]))))))))
theorem T.laws_szTy_l : leftF Try.prog CF Try.f14 = some (2, T.laws_szTy) := by kernel_rfl
theorem T.laws_szTy_con {args : List AV} {res : AV} (hl : args.length = 2) (hn : AV.norefs args = true) (hw : wpT Try.prog (fun _ _ _ => False) (fun a => a = res) T.laws_szTy args []) : PCon Try.prog F.laws_szTy args res :=
  con_auto Try.func14 T.laws_szTy_l hl hn hw
-- spec_Principal: no walk
def T.laws_szTyS : T :=
.op (.lenL (.x 0)) (
.op (.bin .sub (.x 1) (.x 2)) (
.op (.bin .lss (.x 3) (.c (.v (.int .i64 0)))) (
.ite (.x 4)
 (.ret [(.c (.v (.int .i64 (-1))))])
 (.bind 1 (
  .loop [(.x 3), (.c (.v (.int .i64 0)))] (
   .op (.lenL (.x 0)) (
   .op (.bin .lss (.x 6) (.x 7)) (
   .ite (.x 8)
    (.op (.elem 4 (.x 0) (.x 6)) (
    .chk (.cells (.x 9) 4) (
    .op (.call F.laws_szTy [(.x 9), (.x 5)] false) (
    .op (.bin .lss (.x 10) (.c (.v (.int .i64 0)))) (
    .ite (.x 11)
     (.esc (.esc (.ret [(.c (.v (.int .i64 (-1))))])))
     (.op (.bin .add (.x 6) (.c (.v (.int .i64 1)))) (
     .jump [(.x 10), (.x 12)])))))))
    (.esc (.jump [(.x 5)])))))) (
 .ret [(.x 5)])))))
theorem T.laws_szTyS_l : leftF Try.prog CF Try.f28 = some (2, T.laws_szTyS) := by kernel_rfl
theorem T.laws_szTyS_con {args : List AV} {res : AV} (hl : args.length = 2) (hn : AV.norefs args = true) (hw : wpT Try.prog (fun _ _ _ => False) (fun a => a = res) T.laws_szTyS args []) : PCon Try.prog F.laws_szTyS args res :=
  con_auto Try.func28 T.laws_szTyS_l hl hn hw
def T.laws_szInstrS : T :=
.op (.lenL (.x 0)) (
.op (.bin .sub (.x 1) (.x 2)) (
.op (.bin .lss (.x 3) (.c (.v (.int .i64 0)))) (
.ite (.x 4)
 (.ret [(.c (.v (.int .i64 (-1))))])
 (.bind 1 (
  .loop [(.x 3), (.c (.v (.int .i64 0)))] (
   .op (.lenL (.x 0)) (
   .op (.bin .lss (.x 6) (.x 7)) (
   .ite (.x 8)
    (.op (.elem 6 (.x 0) (.x 6)) (
    .chk (.cells (.x 9) 6) (
    .op (.call F.laws_szInstr [(.x 9), (.x 5)] false) (
    .op (.bin .lss (.x 10) (.c (.v (.int .i64 0)))) (
    .ite (.x 11)
     (.esc (.esc (.ret [(.c (.v (.int .i64 (-1))))])))
     (.op (.bin .add (.x 6) (.c (.v (.int .i64 1)))) (
     .jump [(.x 10), (.x 12)])))))))
    (.esc (.jump [(.x 5)])))))) (
 .ret [(.x 5)])))))
theorem T.laws_szInstrS_l : leftF Try.prog CF Try.f34 = some (2, T.laws_szInstrS) := by kernel_rfl
theorem T.laws_szInstrS_con {args : List AV} {res : AV} (hl : args.length = 2) (hn : AV.norefs args = true) (hw : wpT Try.prog (fun _ _ _ => False) (fun a => a = res) T.laws_szInstrS args []) : PCon Try.prog F.laws_szInstrS args res :=
  con_auto Try.func34 T.laws_szInstrS_l hl hn hw
def T.laws_szIntS : T :=
.op (.lenL (.x 0)) (
.op (.bin .sub (.x 1) (.x 2)) (
.op (.bin .lss (.x 3) (.c (.v (.int .i64 0)))) (
.ite (.x 4)
 (.ret [(.c (.v (.int .i64 (-1))))])
 (.ret [(.x 3)]))))
theorem T.laws_szIntS_l : leftF Try.prog CF Try.f35 = some (2, T.laws_szIntS) := by kernel_rfl
theorem T.laws_szIntS_con {args : List AV} {res : AV} (hl : args.length = 2) (hn : AV.norefs args = true) (hw : wpT Try.prog (fun _ _ _ => False) (fun a => a = res) T.laws_szIntS args []) : PCon Try.prog F.laws_szIntS args res :=
  con_auto Try.func35 T.laws_szIntS_l hl hn hw
def T.spec_l1In : T :=
.bind 1 (
 .op (.bin .geq (.x 0) (.x 1)) (
 .ite (.x 3)
  (.op (.bin .leq (.x 0) (.x 2)) (
  .jump [(.x 4)]))
  (.jump [(.c (.v (.bool false)))]))) (
.ret [(.x 3)])
theorem T.spec_l1In_l : leftF Try.prog CF Try.f36 = some (3, T.spec_l1In) := by kernel_rfl
theorem T.spec_l1In_con {args : List AV} {res : AV} (hl : args.length = 3) (hn : AV.norefs args = true) (hw : wpT Try.prog (fun _ _ _ => False) (fun a => a = res) T.spec_l1In args []) : PCon Try.prog F.spec_l1In args res :=
  con_auto Try.func36 T.spec_l1In_l hl hn hw
def T.laws_toInstrS : T :=
.op (.lenL (.x 0)) (
.op (.rep 56 (.agg [(.v (.int .i64 0)), (.v (.int .i64 0)), (.v (.int .i64 0)), (.v (.int .i64 0)), (.v (.int .i64 0)), (.v (.string ⟨#[]⟩))]) (.x 1) (.x 1)) (
.bind 1 (
 .loop [(.x 2), (.c (.v (.int .i64 0)))] (
  .op (.lenL (.x 0)) (
  .op (.bin .lss (.x 4) (.x 5)) (
  .ite (.x 6)
   (.op (.elem 6 (.x 0) (.x 4)) (
   .chk (.cells (.x 7) 6) (
   .op (.call F.laws_toInstr [(.x 7)] false) (
   .chk (.idx (.x 3) (.x 4)) (
   .chk (.cells (.x 8) 6) (
   .op (.set (.x 3) (.x 4) 0 6 (.x 8)) (
   .op (.bin .add (.x 4) (.c (.v (.int .i64 1)))) (
   .jump [(.x 9), (.x 10)]))))))))
   (.esc (.jump [(.x 3)])))))) (
.ret [(.sl (.x 3))])))
theorem T.laws_toInstrS_l : leftF Try.prog CF Try.f37 = some (1, T.laws_toInstrS) := by kernel_rfl
theorem T.laws_toInstrS_con {args : List AV} {res : AV} (hl : args.length = 1) (hn : AV.norefs args = true) (hw : wpT Try.prog (fun _ _ _ => False) (fun a => a = res) T.laws_toInstrS args []) : PCon Try.prog F.laws_toInstrS args res :=
  con_auto Try.func37 T.laws_toInstrS_l hl hn hw
def T.laws_toIntS : T :=
.op (.lenL (.x 0)) (
.op (.rep 8 (.v (.int .i64 0)) (.x 1) (.x 1)) (
.bind 1 (
 .loop [(.x 2), (.c (.v (.int .i64 0)))] (
  .op (.lenL (.x 0)) (
  .op (.bin .lss (.x 4) (.x 5)) (
  .ite (.x 6)
   (.op (.elem 1 (.x 0) (.x 4)) (
   .chk (.lt (.x 7) 0) (
   .chk (.idx (.x 3) (.x 4)) (
   .chk (.one (.cell 7 0)) (
   .op (.set (.x 3) (.x 4) 0 1 (.cell 7 0)) (
   .op (.bin .add (.x 4) (.c (.v (.int .i64 1)))) (
   .jump [(.x 8), (.x 9)])))))))
   (.esc (.jump [(.x 3)])))))) (
.ret [(.sl (.x 3))])))
theorem T.laws_toIntS_l : leftF Try.prog CF Try.f38 = some (1, T.laws_toIntS) := by kernel_rfl
theorem T.laws_toIntS_con {args : List AV} {res : AV} (hl : args.length = 1) (hn : AV.norefs args = true) (hw : wpT Try.prog (fun _ _ _ => False) (fun a => a = res) T.laws_toIntS args []) : PCon Try.prog F.laws_toIntS args res :=
  con_auto Try.func38 T.laws_toIntS_l hl hn hw
def T.impl_within : T :=
.bind 1 (
 .op (.bin .geq (.x 0) (.x 1)) (
 .ite (.x 3)
  (.op (.bin .leq (.x 0) (.x 2)) (
  .jump [(.x 4)]))
  (.jump [(.c (.v (.bool false)))]))) (
.ret [(.x 3)])
theorem T.impl_within_l : leftF Try.prog CF Try.f39 = some (3, T.impl_within) := by kernel_rfl
theorem T.impl_within_con {args : List AV} {res : AV} (hl : args.length = 3) (hn : AV.norefs args = true) (hw : wpT Try.prog (fun _ _ _ => False) (fun a => a = res) T.impl_within args []) : PCon Try.prog F.impl_within args res :=
  con_auto Try.func39 T.impl_within_l hl hn hw
def T.laws_eqInstrS : T :=
.op (.lenL (.x 0)) (
.op (.lenL (.x 1)) (
.op (.bin .neq (.x 2) (.x 3)) (
.ite (.x 4)
 (.ret [(.c (.v (.bool false)))])
 (.bind 0 (
  .loop [(.c (.v (.int .i64 0)))] (
   .op (.lenL (.x 0)) (
   .op (.bin .lss (.x 5) (.x 6)) (
   .ite (.x 7)
    (.op (.elem 6 (.x 0) (.x 5)) (
    .chk (.cells (.x 8) 6) (
    .op (.elem 6 (.x 1) (.x 5)) (
    .chk (.cells (.x 9) 6) (
    .op (.call F.laws_eqInstr [(.x 8), (.x 9)] true) (
    .op (.un .not (.x 10)) (
    .ite (.x 11)
     (.esc (.esc (.ret [(.c (.v (.bool false)))])))
     (.op (.bin .add (.x 5) (.c (.v (.int .i64 1)))) (
     .jump [(.x 12)])))))))))
    (.esc (.jump [])))))) (
 .ret [(.c (.v (.bool true)))])))))
theorem T.laws_eqInstrS_l : leftF Try.prog CF Try.f40 = some (2, T.laws_eqInstrS) := by kernel_rfl
theorem T.laws_eqInstrS_con {args : List AV} {res : AV} (hl : args.length = 2) (hn : AV.norefs args = true) (hw : wpT Try.prog (fun _ _ _ => False) (fun a => a = res) T.laws_eqInstrS args []) : PCon Try.prog F.laws_eqInstrS args res :=
  con_auto Try.func40 T.laws_eqInstrS_l hl hn hw
def T.laws_eqIntS : T :=
.op (.lenL (.x 0)) (
.op (.lenL (.x 1)) (
.op (.bin .neq (.x 2) (.x 3)) (
.ite (.x 4)
 (.ret [(.c (.v (.bool false)))])
 (.bind 0 (
  .loop [(.c (.v (.int .i64 0)))] (
   .op (.lenL (.x 0)) (
   .op (.bin .lss (.x 5) (.x 6)) (
   .ite (.x 7)
    (.op (.elem 1 (.x 0) (.x 5)) (
    .chk (.lt (.x 8) 0) (
    .op (.elem 1 (.x 1) (.x 5)) (
    .chk (.lt (.x 9) 0) (
    .op (.bin .neq (.cell 8 0) (.cell 9 0)) (
    .ite (.x 10)
     (.esc (.esc (.ret [(.c (.v (.bool false)))])))
     (.op (.bin .add (.x 5) (.c (.v (.int .i64 1)))) (
     .jump [(.x 11)]))))))))
    (.esc (.jump [])))))) (
 .ret [(.c (.v (.bool true)))])))))
theorem T.laws_eqIntS_l : leftF Try.prog CF Try.f41 = some (2, T.laws_eqIntS) := by kernel_rfl
theorem T.laws_eqIntS_con {args : List AV} {res : AV} (hl : args.length = 2) (hn : AV.norefs args = true) (hw : wpT Try.prog (fun _ _ _ => False) (fun a => a = res) T.laws_eqIntS args []) : PCon Try.prog F.laws_eqIntS args res :=
  con_auto Try.func41 T.laws_eqIntS_l hl hn hw
def T.laws_szInstr : T :=
.chk (.cells (.x 0) 6) (
.op (.lenS (.cell 0 5)) (
.op (.bin .sub (.x 1) (.x 2)) (
.op (.bin .lss (.x 3) (.c (.v (.int .i64 0)))) (
.ite (.x 4)
 (.ret [(.c (.v (.int .i64 (-1))))])
 (.ret [(.x 3)])))))
theorem T.laws_szInstr_l : leftF Try.prog CF Try.f75 = some (2, T.laws_szInstr) := by kernel_rfl
theorem T.laws_szInstr_con {args : List AV} {res : AV} (hl : args.length = 2) (hn : AV.norefs args = true) (hw : wpT Try.prog (fun _ _ _ => False) (fun a => a = res) T.laws_szInstr args []) : PCon Try.prog F.laws_szInstr args res :=
  con_auto Try.func75 T.laws_szInstr_l hl hn hw
def T.laws_toInstr : T :=
.chk (.cells (.x 0) 6) (
.chk (.one (.cell 0 0)) (
.chk (.one (.cell 0 1)) (
.chk (.one (.cell 0 2)) (
.chk (.one (.cell 0 3)) (
.chk (.one (.cell 0 4)) (
.chk (.one (.cell 0 5)) (
.chk (.cells (.x 0) 6) (
.chk (.cells (.x 0) 6) (
.ret [(.agg [(.cell 0 0), (.cell 0 1), (.cell 0 2), (.cell 0 3), (.cell 0 4), (.cell 0 5)])])))))))))
theorem T.laws_toInstr_l : leftF Try.prog CF Try.f76 = some (1, T.laws_toInstr) := by kernel_rfl
theorem T.laws_toInstr_con {args : List AV} {res : AV} (hl : args.length = 1) (hn : AV.norefs args = true) (hw : wpT Try.prog (fun _ _ _ => False) (fun a => a = res) T.laws_toInstr args []) : PCon Try.prog F.laws_toInstr args res :=
  con_auto Try.func76 T.laws_toInstr_l hl hn hw
def T.laws_eqInstr : T :=
.chk (.cells (.x 0) 6) (
.chk (.cells (.x 1) 6) (
.op (.bin .neq (.cell 0 0) (.cell 1 0)) (
.ite (.x 2)
 (.ret [(.c (.v (.bool false)))])
 (.op (.bin .neq (.cell 0 1) (.cell 1 1)) (
 .ite (.x 3)
  (.ret [(.c (.v (.bool false)))])
  (.op (.bin .neq (.cell 0 2) (.cell 1 2)) (
  .ite (.x 4)
   (.ret [(.c (.v (.bool false)))])
   (.op (.bin .neq (.cell 0 3) (.cell 1 3)) (
   .ite (.x 5)
    (.ret [(.c (.v (.bool false)))])
    (.op (.bin .neq (.cell 0 4) (.cell 1 4)) (
    .ite (.x 6)
     (.ret [(.c (.v (.bool false)))])
     (.op (.bin .neq (.cell 0 5) (.cell 1 5)) (
     .ite (.x 7)
      (.ret [(.c (.v (.bool false)))])
      (.ret [(.c (.v (.bool true)))]))))))))))))))
theorem T.laws_eqInstr_l : leftF Try.prog CF Try.f77 = some (2, T.laws_eqInstr) := by kernel_rfl
theorem T.laws_eqInstr_con {args : List AV} {res : AV} (hl : args.length = 2) (hn : AV.norefs args = true) (hw : wpT Try.prog (fun _ _ _ => False) (fun a => a = res) T.laws_eqInstr args []) : PCon Try.prog F.laws_eqInstr args res :=
  con_auto Try.func77 T.laws_eqInstr_l hl hn hw
end Go.Proofs.Ab
