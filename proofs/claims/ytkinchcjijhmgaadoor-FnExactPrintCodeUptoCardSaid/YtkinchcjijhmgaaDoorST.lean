/-
  WHAT IS LEFT of this seat's functions, printed by a program of ours (wip/tool/Gen2.lean) from the translation; each with the theorem that it is what is left of that function.
-/
import Derived.Test.YtkinchcjijhmgaaDoorChecked
import Derived.KernelRfl
import Derived.Test.YtkinchcjijhmgaaDoorAbM5
set_option linter.unusedVariables false
set_option linter.unusedSimpArgs false
set_option linter.defProp false
namespace Go.Proofs.Ab
open Go.Ab
set_option maxRecDepth 100000
namespace F
abbrev laws_FnExactPrintCode : FuncId := 3
abbrev laws_szCode : FuncId := 4
abbrev spec_PrintCode : FuncId := 5
abbrev laws_toCode : FuncId := 6
abbrev impl_PrintCode : FuncId := 7
abbrev laws_eqCode : FuncId := 8
abbrev laws_szInstrS : FuncId := 9
abbrev laws_szIntS : FuncId := 10
abbrev spec_CodeOk : FuncId := 11
abbrev spec_l1Decimal : FuncId := 12
abbrev spec_l16Line : FuncId := 13
abbrev laws_toInstrS : FuncId := 14
abbrev laws_toIntS : FuncId := 15
abbrev impl_CodeOk : FuncId := 16
abbrev strconv_Itoa : FuncId := 17
abbrev impl_instrLine : FuncId := 18
abbrev laws_eqInstrS : FuncId := 19
abbrev laws_eqIntS : FuncId := 20
abbrev laws_szInstr : FuncId := 21
abbrev spec_l1In : FuncId := 22
abbrev spec_l14InstrOk : FuncId := 23
abbrev spec_l1Figures : FuncId := 24
abbrev spec_l16Word : FuncId := 25
abbrev spec_l16Form : FuncId := 26
abbrev spec_l16Reg : FuncId := 27
abbrev spec_l1Quoted : FuncId := 28
abbrev laws_toInstr : FuncId := 29
abbrev impl_within : FuncId := 30
abbrev slices_ContainsFunc__impl_Instr_impl_Instr : FuncId := 31
abbrev impl_CodeOk_1 : FuncId := 32
abbrev impl_instrOk : FuncId := 33
abbrev slices_ContainsFunc__int_int : FuncId := 34
abbrev impl_CodeOk_2 : FuncId := 35
abbrev impl_formOf : FuncId := 37
abbrev impl_quoted : FuncId := 38
abbrev laws_eqInstr : FuncId := 39
abbrev spec_l14Reg : FuncId := 40
abbrev spec_l14Zero : FuncId := 41
abbrev spec_l1Chars : FuncId := 42
abbrev spec_l14Op : FuncId := 43
abbrev spec_l16Name : FuncId := 44
abbrev slices_IndexFunc__impl_Instr_impl_Instr : FuncId := 45
abbrev impl_wants : FuncId := 46
abbrev impl_instrOk_1 : FuncId := 47
abbrev strings_Contains : FuncId := 48
abbrev impl_instrOk_2 : FuncId := 49
abbrev impl_plain : FuncId := 50
abbrev slices_IndexFunc__int_int : FuncId := 51
abbrev internalstrconv_FormatInt : FuncId := 52
end F
def FL : List Nat := [3, 4, 5, 7, 8, 9, 10, 11, 12, 13, 16, 17, 18, 19, 20, 21, 22, 23, 24, 25, 26, 27, 28, 30, 31, 32, 33, 34, 35, 36, 38, 39, 40, 41, 42, 43, 44, 45, 46, 47, 48, 49, 50, 51, 52, 53, 54, 55, 58, 59, 60, 61, 62, 63, 64, 66, 67, 68, 69, 71]
def FR : List (Nat × Bool × Nat × Nat) := []
def SG : List (Nat × List Sig) := []
abbrev CF : Cfg := ⟨FL, FR, SG, false⟩
def T.laws_FnExactPrintCode : T :=
.chk (.cells (.x 0) 2) (
.chk (.cells (.x 0) 2) (
.op (.call F.laws_szCode [(.x 0), (.c (.v (.int .i64 1048576)))] false) (
.op (.bin .lss (.x 1) (.c (.v (.int .i64 0)))) (
.ite (.x 2)
 (.ret [(.c (.v (.bool true)))])
 (.chk (.cells (.x 0) 2) (
 .op (.call F.laws_toCode [(.x 0)] false) (
 .op (.call F.spec_PrintCode [(.x 3)] false) (
 .chk (.cells (.x 0) 2) (
 .op (.call F.laws_toCode [(.x 0)] false) (
 .chk (.cells (.x 5) 2) (
 .chk (.cells (.x 5) 2) (
 .op (.call F.impl_PrintCode [(.x 5)] false) (
 .op (.bin .neq (.x 6) (.x 4)) (
 .ite (.x 7)
  (.ret [(.c (.v (.bool false)))])
  (.chk (.cells (.x 5) 2) (
  .chk (.cells (.x 0) 2) (
  .op (.call F.laws_toCode [(.x 0)] false) (
  .op (.call F.laws_eqCode [(.x 5), (.x 8)] true) (
  .op (.un .not (.x 9)) (
  .ite (.x 10)
   (.ret [(.c (.v (.bool false)))])
   (.ret [(.c (.v (.bool true)))])))))))))))))))))))))
theorem T.laws_FnExactPrintCode_l : leftF Tryd.prog CF Tryd.f3 = some (1, T.laws_FnExactPrintCode) := by kernel_rfl
theorem T.laws_FnExactPrintCode_con {args : List AV} {res : AV} (hl : args.length = 1) (hn : AV.norefs args = true) (hw : wpT Tryd.prog (fun _ _ _ => False) (fun a => a = res) T.laws_FnExactPrintCode args []) : PCon Tryd.prog F.laws_FnExactPrintCode args res :=
  con_auto Tryd.func3 T.laws_FnExactPrintCode_l hl hn hw
def T.laws_szCode : T :=
.chk (.cells (.x 0) 2) (
.op (.call F.laws_szInstrS [(.cell 0 0), (.x 1)] false) (
.op (.bin .lss (.x 2) (.c (.v (.int .i64 0)))) (
.ite (.x 3)
 (.ret [(.c (.v (.int .i64 (-1))))])
 (.op (.call F.laws_szIntS [(.cell 0 1), (.x 2)] false) (
 .op (.bin .lss (.x 4) (.c (.v (.int .i64 0)))) (
 .ite (.x 5)
  (.ret [(.c (.v (.int .i64 (-1))))])
  (.ret [(.x 4)])))))))
theorem T.laws_szCode_l : leftF Tryd.prog CF Tryd.f4 = some (2, T.laws_szCode) := by kernel_rfl
theorem T.laws_szCode_con {args : List AV} {res : AV} (hl : args.length = 2) (hn : AV.norefs args = true) (hw : wpT Tryd.prog (fun _ _ _ => False) (fun a => a = res) T.laws_szCode args []) : PCon Tryd.prog F.laws_szCode args res :=
  con_auto Tryd.func4 T.laws_szCode_l hl hn hw
-- spec_PrintCode: no walk
def T.laws_toCode : T :=
.chk (.cells (.x 0) 2) (
.op (.call F.laws_toInstrS [(.cell 0 0)] false) (
.chk (.one (.x 1)) (
.op (.call F.laws_toIntS [(.cell 0 1)] false) (
.chk (.one (.x 2)) (
.chk (.cells (.agg [(.x 1), (.x 2)]) 2) (
.ret [(.agg [(.x 1), (.x 2)])]))))))
theorem T.laws_toCode_l : leftF Tryd.prog CF Tryd.f6 = some (1, T.laws_toCode) := by kernel_rfl
theorem T.laws_toCode_con {args : List AV} {res : AV} (hl : args.length = 1) (hn : AV.norefs args = true) (hw : wpT Tryd.prog (fun _ _ _ => False) (fun a => a = res) T.laws_toCode args []) : PCon Tryd.prog F.laws_toCode args res :=
  con_auto Tryd.func6 T.laws_toCode_l hl hn hw
-- impl_PrintCode: no walk
def T.laws_eqCode : T :=
.chk (.cells (.x 0) 2) (
.chk (.cells (.x 1) 2) (
.op (.call F.laws_eqInstrS [(.cell 0 0), (.cell 1 0)] false) (
.op (.un .not (.x 2)) (
.ite (.x 3)
 (.ret [(.c (.v (.bool false)))])
 (.op (.call F.laws_eqIntS [(.cell 0 1), (.cell 1 1)] false) (
 .op (.un .not (.x 4)) (
 .ite (.x 5)
  (.ret [(.c (.v (.bool false)))])
  (.ret [(.c (.v (.bool true)))]))))))))
theorem T.laws_eqCode_l : leftF Tryd.prog CF Tryd.f8 = some (2, T.laws_eqCode) := by kernel_rfl
theorem T.laws_eqCode_con {args : List AV} {res : AV} (hl : args.length = 2) (hn : AV.norefs args = true) (hw : wpT Tryd.prog (fun _ _ _ => False) (fun a => a = res) T.laws_eqCode args []) : PCon Tryd.prog F.laws_eqCode args res :=
  con_auto Tryd.func8 T.laws_eqCode_l hl hn hw
def T.laws_szInstrS : T :=
.op (.lenL (.x 0)) (
.op (.bin .sub (.x 1) (.x 2)) (
.op (.bin .lss (.x 3) (.c (.v (.int .i64 0)))) (
.ite (.x 4)
 (.ret [(.c (.v (.int .i64 (-1))))])
 (.bind 1 (
  .loop [(.x 3), (.c (.v (.int .i64 0)))] (
   .op (.lenL (.x 0)) (
   .op (.bin .lss (.x 6) (.x 7)) (
   .ite (.x 8)
    (.op (.elem 6 (.x 0) (.x 6)) (
    .chk (.cells (.x 9) 6) (
    .op (.call F.laws_szInstr [(.x 9), (.x 5)] false) (
    .op (.bin .lss (.x 10) (.c (.v (.int .i64 0)))) (
    .ite (.x 11)
     (.esc (.esc (.ret [(.c (.v (.int .i64 (-1))))])))
     (.op (.bin .add (.x 6) (.c (.v (.int .i64 1)))) (
     .jump [(.x 10), (.x 12)])))))))
    (.esc (.jump [(.x 5)])))))) (
 .ret [(.x 5)])))))
theorem T.laws_szInstrS_l : leftF Tryd.prog CF Tryd.f9 = some (2, T.laws_szInstrS) := by kernel_rfl
theorem T.laws_szInstrS_con {args : List AV} {res : AV} (hl : args.length = 2) (hn : AV.norefs args = true) (hw : wpT Tryd.prog (fun _ _ _ => False) (fun a => a = res) T.laws_szInstrS args []) : PCon Tryd.prog F.laws_szInstrS args res :=
  con_auto Tryd.func9 T.laws_szInstrS_l hl hn hw
def T.laws_szIntS : T :=
.op (.lenL (.x 0)) (
.op (.bin .sub (.x 1) (.x 2)) (
.op (.bin .lss (.x 3) (.c (.v (.int .i64 0)))) (
.ite (.x 4)
 (.ret [(.c (.v (.int .i64 (-1))))])
 (.ret [(.x 3)]))))
theorem T.laws_szIntS_l : leftF Tryd.prog CF Tryd.f10 = some (2, T.laws_szIntS) := by kernel_rfl
theorem T.laws_szIntS_con {args : List AV} {res : AV} (hl : args.length = 2) (hn : AV.norefs args = true) (hw : wpT Tryd.prog (fun _ _ _ => False) (fun a => a = res) T.laws_szIntS args []) : PCon Tryd.prog F.laws_szIntS args res :=
  con_auto Tryd.func10 T.laws_szIntS_l hl hn hw
def T.spec_CodeOk : T :=
.chk (.cells (.x 0) 2) (
.bind 0 (
 .bind 1 (
  .op (.lenL (.cell 0 0)) (
  .op (.call F.spec_l1In [(.x 1), (.c (.v (.int .i64 1))), (.c (.v (.int .i64 40000)))] false) (
  .op (.un .not (.x 2)) (
  .ite (.x 3)
   (.jump [(.c (.v (.bool true)))])
   (.op (.lenL (.cell 0 1)) (
   .op (.bin .gtr (.x 4) (.c (.v (.int .i64 400)))) (
   .jump [(.x 5)]))))))) (
 .ite (.x 1)
  (.esc (.ret [(.c (.v (.bool false)))]))
  (.jump []))) (
.bind 0 (
 .loop [(.c (.v (.int .i64 0)))] (
  .op (.lenL (.cell 0 0)) (
  .op (.bin .lss (.x 1) (.x 2)) (
  .ite (.x 3)
   (.op (.elem 6 (.cell 0 0) (.x 1)) (
   .chk (.cells (.x 4) 6) (
   .chk (.cells (.x 0) 2) (
   .op (.call F.spec_l14InstrOk [(.x 4), (.x 0)] true) (
   .op (.un .not (.x 5)) (
   .ite (.x 6)
    (.esc (.esc (.ret [(.c (.v (.bool false)))])))
    (.op (.bin .add (.x 1) (.c (.v (.int .i64 1)))) (
    .jump [(.x 7)]))))))))
   (.esc (.jump [])))))) (
.bind 0 (
 .loop [(.c (.v (.int .i64 0)))] (
  .op (.lenL (.cell 0 1)) (
  .op (.bin .lss (.x 1) (.x 2)) (
  .ite (.x 3)
   (.op (.elem 1 (.cell 0 1) (.x 1)) (
   .chk (.lt (.x 4) 0) (
   .op (.lenL (.cell 0 0)) (
   .op (.bin .sub (.x 5) (.c (.v (.int .i64 1)))) (
   .op (.call F.spec_l1In [(.cell 4 0), (.c (.v (.int .i64 0))), (.x 6)] true) (
   .op (.un .not (.x 7)) (
   .ite (.x 8)
    (.esc (.esc (.ret [(.c (.v (.bool false)))])))
    (.op (.bin .add (.x 1) (.c (.v (.int .i64 1)))) (
    .jump [(.x 9)])))))))))
   (.esc (.jump [])))))) (
.op (.lenL (.cell 0 0)) (
.op (.bin .sub (.x 1) (.c (.v (.int .i64 1)))) (
.op (.elem 6 (.cell 0 0) (.x 2)) (
.chk (.lt (.x 3) 0) (
.bind 1 (
 .op (.bin .eql (.cell 3 0) (.c (.v (.int .i64 12)))) (
 .ite (.x 4)
  (.jump [(.c (.v (.bool true)))])
  (.op (.bin .eql (.cell 3 0) (.c (.v (.int .i64 13)))) (
  .ite (.x 5)
   (.jump [(.c (.v (.bool true)))])
   (.op (.bin .eql (.cell 3 0) (.c (.v (.int .i64 14)))) (
   .ite (.x 6)
    (.jump [(.c (.v (.bool true)))])
    (.op (.bin .eql (.cell 3 0) (.c (.v (.int .i64 15)))) (
    .jump [(.x 7)])))))))) (
.ret [(.x 4)])))))))))
theorem T.spec_CodeOk_l : leftF Tryd.prog CF Tryd.f11 = some (1, T.spec_CodeOk) := by kernel_rfl
theorem T.spec_CodeOk_con {args : List AV} {res : AV} (hl : args.length = 1) (hn : AV.norefs args = true) (hw : wpT Tryd.prog (fun _ _ _ => False) (fun a => a = res) T.spec_CodeOk args []) : PCon Tryd.prog F.spec_CodeOk args res :=
  con_auto Tryd.func11 T.spec_CodeOk_l hl hn hw
def T.spec_l1Decimal : T :=
.op (.bin .lss (.x 0) (.c (.v (.int .i64 0)))) (
.ite (.x 1)
 (.op (.bin .add (.x 0) (.c (.v (.int .i64 1)))) (
 .op (.un .neg (.x 2)) (
 .op (.conv .u64 (.x 3)) (
 .op (.bin .add (.x 4) (.c (.v (.int .u64 1)))) (
 .op (.call F.spec_l1Figures [(.x 5)] false) (
 .op (.bin .add (.c (.v (.string ⟨#[45]⟩))) (.x 6)) (
 .ret [(.x 7)])))))))
 (.op (.conv .u64 (.x 0)) (
 .op (.call F.spec_l1Figures [(.x 2)] false) (
 .ret [(.x 3)]))))
theorem T.spec_l1Decimal_l : leftF Tryd.prog CF Tryd.f12 = some (1, T.spec_l1Decimal) := by kernel_rfl
theorem T.spec_l1Decimal_con {args : List AV} {res : AV} (hl : args.length = 1) (hn : AV.norefs args = true) (hw : wpT Tryd.prog (fun _ _ _ => False) (fun a => a = res) T.spec_l1Decimal args []) : PCon Tryd.prog F.spec_l1Decimal args res :=
  con_auto Tryd.func12 T.spec_l1Decimal_l hl hn hw
def T.spec_l16Line : T :=
.chk (.cells (.x 0) 6) (
.chk (.cells (.x 0) 6) (
.op (.call F.spec_l16Word [(.x 0)] false) (
.op (.call F.spec_l16Form [(.x 1)] false) (
.chk (.tup (.x 2) 0) (
.chk (.tup (.x 2) 1) (
.chk (.tup (.x 2) 2) (
.bind 1 (
 .loop [(.x 1), (.c (.v (.int .i64 0)))] (
  .op (.lenS (.ext 2 2)) (
  .op (.bin .lss (.x 4) (.x 5)) (
  .ite (.x 6)
   (.bind 1 (
    .op (.idxS (.ext 2 2) (.x 4)) (
    .op (.bin .eql (.x 7) (.c (.v (.int .u8 97)))) (
    .ite (.x 8)
     (.op (.bin .add (.x 3) (.c (.v (.string ⟨#[32]⟩)))) (
     .op (.call F.spec_l16Reg [(.cell 0 1)] false) (
     .op (.bin .add (.x 9) (.x 10)) (
     .jump [(.x 11)]))))
     (.op (.bin .eql (.x 7) (.c (.v (.int .u8 98)))) (
     .ite (.x 9)
      (.op (.bin .add (.x 3) (.c (.v (.string ⟨#[32]⟩)))) (
      .op (.call F.spec_l16Reg [(.cell 0 2)] false) (
      .op (.bin .add (.x 10) (.x 11)) (
      .jump [(.x 12)]))))
      (.op (.bin .eql (.x 7) (.c (.v (.int .u8 99)))) (
      .ite (.x 10)
       (.op (.bin .add (.x 3) (.c (.v (.string ⟨#[32]⟩)))) (
       .op (.call F.spec_l16Reg [(.cell 0 3)] false) (
       .op (.bin .add (.x 11) (.x 12)) (
       .jump [(.x 13)]))))
       (.op (.bin .eql (.x 7) (.c (.v (.int .u8 110)))) (
       .ite (.x 11)
        (.op (.bin .add (.x 3) (.c (.v (.string ⟨#[32]⟩)))) (
        .op (.call F.spec_l1Decimal [(.cell 0 4)] false) (
        .op (.bin .add (.x 12) (.x 13)) (
        .jump [(.x 14)]))))
        (.op (.bin .eql (.x 7) (.c (.v (.int .u8 116)))) (
        .ite (.x 12)
         (.op (.bin .add (.x 3) (.c (.v (.string ⟨#[32]⟩)))) (
         .op (.call F.spec_l1Quoted [(.cell 0 5)] false) (
         .op (.bin .add (.x 13) (.x 14)) (
         .jump [(.x 15)]))))
         (.jump [(.x 3)])))))))))))) (
   .op (.bin .add (.x 4) (.c (.v (.int .i64 1)))) (
   .jump [(.x 7), (.x 8)])))
   (.esc (.jump [(.x 3)])))))) (
.ret [(.x 3)]))))))))
theorem T.spec_l16Line_l : leftF Tryd.prog CF Tryd.f13 = some (1, T.spec_l16Line) := by kernel_rfl
theorem T.spec_l16Line_con {args : List AV} {res : AV} (hl : args.length = 1) (hn : AV.norefs args = true) (hw : wpT Tryd.prog (fun _ _ _ => False) (fun a => a = res) T.spec_l16Line args []) : PCon Tryd.prog F.spec_l16Line args res :=
  con_auto Tryd.func13 T.spec_l16Line_l hl hn hw
def T.laws_toInstrS : T :=
.op (.lenL (.x 0)) (
.op (.rep 56 (.agg [(.v (.int .i64 0)), (.v (.int .i64 0)), (.v (.int .i64 0)), (.v (.int .i64 0)), (.v (.int .i64 0)), (.v (.string ⟨#[]⟩))]) (.x 1) (.x 1)) (
.bind 1 (
 .loop [(.x 2), (.c (.v (.int .i64 0)))] (
  .op (.lenL (.x 0)) (
  .op (.bin .lss (.x 4) (.x 5)) (
  .ite (.x 6)
   (.op (.elem 6 (.x 0) (.x 4)) (
   .chk (.cells (.x 7) 6) (
   .op (.call F.laws_toInstr [(.x 7)] false) (
   .chk (.idx (.x 3) (.x 4)) (
   .chk (.cells (.x 8) 6) (
   .op (.set (.x 3) (.x 4) 0 6 (.x 8)) (
   .op (.bin .add (.x 4) (.c (.v (.int .i64 1)))) (
   .jump [(.x 9), (.x 10)]))))))))
   (.esc (.jump [(.x 3)])))))) (
.ret [(.sl (.x 3))])))
theorem T.laws_toInstrS_l : leftF Tryd.prog CF Tryd.f14 = some (1, T.laws_toInstrS) := by kernel_rfl
theorem T.laws_toInstrS_con {args : List AV} {res : AV} (hl : args.length = 1) (hn : AV.norefs args = true) (hw : wpT Tryd.prog (fun _ _ _ => False) (fun a => a = res) T.laws_toInstrS args []) : PCon Tryd.prog F.laws_toInstrS args res :=
  con_auto Tryd.func14 T.laws_toInstrS_l hl hn hw
def T.laws_toIntS : T :=
.op (.lenL (.x 0)) (
.op (.rep 8 (.v (.int .i64 0)) (.x 1) (.x 1)) (
.bind 1 (
 .loop [(.x 2), (.c (.v (.int .i64 0)))] (
  .op (.lenL (.x 0)) (
  .op (.bin .lss (.x 4) (.x 5)) (
  .ite (.x 6)
   (.op (.elem 1 (.x 0) (.x 4)) (
   .chk (.lt (.x 7) 0) (
   .chk (.idx (.x 3) (.x 4)) (
   .chk (.one (.cell 7 0)) (
   .op (.set (.x 3) (.x 4) 0 1 (.cell 7 0)) (
   .op (.bin .add (.x 4) (.c (.v (.int .i64 1)))) (
   .jump [(.x 8), (.x 9)])))))))
   (.esc (.jump [(.x 3)])))))) (
.ret [(.sl (.x 3))])))
theorem T.laws_toIntS_l : leftF Tryd.prog CF Tryd.f15 = some (1, T.laws_toIntS) := by kernel_rfl
theorem T.laws_toIntS_con {args : List AV} {res : AV} (hl : args.length = 1) (hn : AV.norefs args = true) (hw : wpT Tryd.prog (fun _ _ _ => False) (fun a => a = res) T.laws_toIntS args []) : PCon Tryd.prog F.laws_toIntS args res :=
  con_auto Tryd.func15 T.laws_toIntS_l hl hn hw
def T.impl_CodeOk : T :=
.chk (.cells (.x 0) 2) (
.bind 0 (
 .bind 1 (
  .op (.lenL (.cell 0 0)) (
  .op (.call F.impl_within [(.x 1), (.c (.v (.int .i64 1))), (.c (.v (.int .i64 40000)))] false) (
  .op (.un .not (.x 2)) (
  .ite (.x 3)
   (.jump [(.c (.v (.bool true)))])
   (.op (.lenL (.cell 0 1)) (
   .op (.bin .gtr (.x 4) (.c (.v (.int .i64 400)))) (
   .jump [(.x 5)]))))))) (
 .ite (.x 1)
  (.esc (.ret [(.c (.v (.bool false)))]))
  (.jump []))) (
.bind 0 (
 .bind 1 (
  .op (.call F.slices_ContainsFunc__impl_Instr_impl_Instr [(.cell 0 0), (.fn F.impl_CodeOk_1 [(.ip (.agg [(.cell 0 0), (.cell 0 1)]) 0)])] false) (
  .ite (.x 1)
   (.jump [(.c (.v (.bool true)))])
   (.op (.call F.slices_ContainsFunc__int_int [(.cell 0 1), (.fn F.impl_CodeOk_2 [(.ip (.agg [(.cell 0 0), (.cell 0 1)]) 0)])] false) (
   .jump [(.x 2)])))) (
 .ite (.x 1)
  (.esc (.ret [(.c (.v (.bool false)))]))
  (.jump []))) (
.bind 0 (
 .op (.lenL (.cell 0 0)) (
 .op (.bin .sub (.x 1) (.c (.v (.int .i64 1)))) (
 .op (.elem 6 (.cell 0 0) (.x 2)) (
 .chk (.lt (.x 3) 0) (
 .bind 1 (
  .op (.bin .eql (.cell 3 0) (.c (.v (.int .i64 12)))) (
  .ite (.x 4)
   (.jump [(.x 4)])
   (.op (.bin .eql (.cell 3 0) (.c (.v (.int .i64 13)))) (
   .ite (.x 5)
    (.jump [(.x 5)])
    (.op (.bin .eql (.cell 3 0) (.c (.v (.int .i64 14)))) (
    .ite (.x 6)
     (.jump [(.x 6)])
     (.op (.bin .eql (.cell 3 0) (.c (.v (.int .i64 15)))) (
     .jump [(.x 7)])))))))) (
 .ite (.x 4)
  (.esc (.ret [(.c (.v (.bool true)))]))
  (.jump []))))))) (
.ret [(.c (.v (.bool false)))]))))
theorem T.impl_CodeOk_l : leftF Tryd.prog CF Tryd.f16 = some (1, T.impl_CodeOk) := by kernel_rfl
theorem T.impl_CodeOk_con {args : List AV} {res : AV} (hl : args.length = 1) (hn : AV.norefs args = true) (hw : wpT Tryd.prog (fun _ _ _ => False) (fun a => a = res) T.impl_CodeOk args []) : PCon Tryd.prog F.impl_CodeOk args res :=
  con_auto Tryd.func16 T.impl_CodeOk_l hl hn hw
def T.laws_eqInstrS : T :=
.op (.lenL (.x 0)) (
.op (.lenL (.x 1)) (
.op (.bin .neq (.x 2) (.x 3)) (
.ite (.x 4)
 (.ret [(.c (.v (.bool false)))])
 (.bind 0 (
  .loop [(.c (.v (.int .i64 0)))] (
   .op (.lenL (.x 0)) (
   .op (.bin .lss (.x 5) (.x 6)) (
   .ite (.x 7)
    (.op (.elem 6 (.x 0) (.x 5)) (
    .chk (.cells (.x 8) 6) (
    .op (.elem 6 (.x 1) (.x 5)) (
    .chk (.cells (.x 9) 6) (
    .op (.call F.laws_eqInstr [(.x 8), (.x 9)] true) (
    .op (.un .not (.x 10)) (
    .ite (.x 11)
     (.esc (.esc (.ret [(.c (.v (.bool false)))])))
     (.op (.bin .add (.x 5) (.c (.v (.int .i64 1)))) (
     .jump [(.x 12)])))))))))
    (.esc (.jump [])))))) (
 .ret [(.c (.v (.bool true)))])))))
theorem T.laws_eqInstrS_l : leftF Tryd.prog CF Tryd.f19 = some (2, T.laws_eqInstrS) := by kernel_rfl
theorem T.laws_eqInstrS_con {args : List AV} {res : AV} (hl : args.length = 2) (hn : AV.norefs args = true) (hw : wpT Tryd.prog (fun _ _ _ => False) (fun a => a = res) T.laws_eqInstrS args []) : PCon Tryd.prog F.laws_eqInstrS args res :=
  con_auto Tryd.func19 T.laws_eqInstrS_l hl hn hw
def T.laws_eqIntS : T :=
.op (.lenL (.x 0)) (
.op (.lenL (.x 1)) (
.op (.bin .neq (.x 2) (.x 3)) (
.ite (.x 4)
 (.ret [(.c (.v (.bool false)))])
 (.bind 0 (
  .loop [(.c (.v (.int .i64 0)))] (
   .op (.lenL (.x 0)) (
   .op (.bin .lss (.x 5) (.x 6)) (
   .ite (.x 7)
    (.op (.elem 1 (.x 0) (.x 5)) (
    .chk (.lt (.x 8) 0) (
    .op (.elem 1 (.x 1) (.x 5)) (
    .chk (.lt (.x 9) 0) (
    .op (.bin .neq (.cell 8 0) (.cell 9 0)) (
    .ite (.x 10)
     (.esc (.esc (.ret [(.c (.v (.bool false)))])))
     (.op (.bin .add (.x 5) (.c (.v (.int .i64 1)))) (
     .jump [(.x 11)]))))))))
    (.esc (.jump [])))))) (
 .ret [(.c (.v (.bool true)))])))))
theorem T.laws_eqIntS_l : leftF Tryd.prog CF Tryd.f20 = some (2, T.laws_eqIntS) := by kernel_rfl
theorem T.laws_eqIntS_con {args : List AV} {res : AV} (hl : args.length = 2) (hn : AV.norefs args = true) (hw : wpT Tryd.prog (fun _ _ _ => False) (fun a => a = res) T.laws_eqIntS args []) : PCon Tryd.prog F.laws_eqIntS args res :=
  con_auto Tryd.func20 T.laws_eqIntS_l hl hn hw
def T.laws_szInstr : T :=
.chk (.cells (.x 0) 6) (
.op (.lenS (.cell 0 5)) (
.op (.bin .sub (.x 1) (.x 2)) (
.op (.bin .lss (.x 3) (.c (.v (.int .i64 0)))) (
.ite (.x 4)
 (.ret [(.c (.v (.int .i64 (-1))))])
 (.ret [(.x 3)])))))
theorem T.laws_szInstr_l : leftF Tryd.prog CF Tryd.f21 = some (2, T.laws_szInstr) := by kernel_rfl
theorem T.laws_szInstr_con {args : List AV} {res : AV} (hl : args.length = 2) (hn : AV.norefs args = true) (hw : wpT Tryd.prog (fun _ _ _ => False) (fun a => a = res) T.laws_szInstr args []) : PCon Tryd.prog F.laws_szInstr args res :=
  con_auto Tryd.func21 T.laws_szInstr_l hl hn hw
def T.spec_l1In : T :=
.bind 1 (
 .op (.bin .geq (.x 0) (.x 1)) (
 .ite (.x 3)
  (.op (.bin .leq (.x 0) (.x 2)) (
  .jump [(.x 4)]))
  (.jump [(.c (.v (.bool false)))]))) (
.ret [(.x 3)])
theorem T.spec_l1In_l : leftF Tryd.prog CF Tryd.f22 = some (3, T.spec_l1In) := by kernel_rfl
theorem T.spec_l1In_con {args : List AV} {res : AV} (hl : args.length = 3) (hn : AV.norefs args = true) (hw : wpT Tryd.prog (fun _ _ _ => False) (fun a => a = res) T.spec_l1In args []) : PCon Tryd.prog F.spec_l1In args res :=
  con_auto Tryd.func22 T.spec_l1In_l hl hn hw
def T.spec_l14InstrOk : T :=
.chk (.cells (.x 0) 6) (
.chk (.cells (.x 1) 2) (
.bind 0 (
 .bind 1 (
  .op (.call F.spec_l14Reg [(.cell 0 1)] false) (
  .op (.un .not (.x 2)) (
  .ite (.x 3)
   (.jump [(.c (.v (.bool true)))])
   (.op (.call F.spec_l14Reg [(.cell 0 2)] false) (
   .op (.un .not (.x 4)) (
   .ite (.x 5)
    (.jump [(.c (.v (.bool true)))])
    (.op (.call F.spec_l14Reg [(.cell 0 3)] false) (
    .op (.un .not (.x 6)) (
    .jump [(.x 7)]))))))))) (
 .ite (.x 2)
  (.esc (.ret [(.c (.v (.bool false)))]))
  (.jump []))) (
.op (.lenL (.cell 1 0)) (
.op (.bin .sub (.x 2) (.c (.v (.int .i64 1)))) (
.op (.call F.spec_l1In [(.cell 0 4), (.c (.v (.int .i64 0))), (.x 3)] false) (
.bind 0 (
 .op (.bin .eql (.cell 0 0) (.c (.v (.int .i64 1)))) (
 .ite (.x 5)
  (.chk (.cells (.x 0) 6) (
  .op (.call F.spec_l14Zero [(.x 0), (.c (.v (.string ⟨#[97, 110]⟩)))] false) (
  .esc (.ret [(.x 6)]))))
  (.op (.bin .eql (.cell 0 0) (.c (.v (.int .i64 2)))) (
  .ite (.x 6)
   (.bind 1 (
    .chk (.cells (.x 0) 6) (
    .op (.call F.spec_l14Zero [(.x 0), (.c (.v (.string ⟨#[97, 116]⟩)))] false) (
    .ite (.x 7)
     (.op (.call F.spec_l1Chars [(.cell 0 5)] false) (
     .ite (.x 8)
      (.op (.lenS (.cell 0 5)) (
      .op (.bin .leq (.x 9) (.c (.v (.int .i64 4000)))) (
      .jump [(.x 10)])))
      (.jump [(.c (.v (.bool false)))])))
     (.jump [(.c (.v (.bool false)))])))) (
   .esc (.ret [(.x 7)])))
   (.op (.bin .eql (.cell 0 0) (.c (.v (.int .i64 3)))) (
   .ite (.x 7)
    (.bind 1 (
     .chk (.cells (.x 0) 6) (
     .op (.call F.spec_l14Zero [(.x 0), (.c (.v (.string ⟨#[97, 110]⟩)))] false) (
     .ite (.x 8)
      (.op (.lenL (.cell 1 1)) (
      .op (.bin .sub (.x 9) (.c (.v (.int .i64 1)))) (
      .op (.call F.spec_l1In [(.cell 0 4), (.c (.v (.int .i64 0))), (.x 10)] false) (
      .jump [(.x 11)]))))
      (.jump [(.c (.v (.bool false)))])))) (
    .esc (.ret [(.x 8)])))
    (.op (.bin .eql (.cell 0 0) (.c (.v (.int .i64 4)))) (
    .ite (.x 8)
     (.chk (.cells (.x 0) 6) (
     .op (.call F.spec_l14Zero [(.x 0), (.c (.v (.string ⟨#[97, 98]⟩)))] false) (
     .esc (.ret [(.x 9)]))))
     (.bind 1 (
      .op (.bin .eql (.cell 0 0) (.c (.v (.int .i64 5)))) (
      .ite (.x 9)
       (.jump [(.x 9)])
       (.op (.bin .eql (.cell 0 0) (.c (.v (.int .i64 6)))) (
       .jump [(.x 10)])))) (
     .ite (.x 9)
      (.bind 1 (
       .chk (.cells (.x 0) 6) (
       .op (.call F.spec_l14Zero [(.x 0), (.c (.v (.string ⟨#[97, 110]⟩)))] false) (
       .ite (.x 10)
        (.op (.call F.spec_l1In [(.cell 0 4), (.c (.v (.int .i64 0))), (.c (.v (.int .i64 63)))] false) (
        .jump [(.x 11)]))
        (.jump [(.c (.v (.bool false)))])))) (
      .esc (.ret [(.x 10)])))
      (.op (.bin .eql (.cell 0 0) (.c (.v (.int .i64 7)))) (
      .ite (.x 10)
       (.chk (.cells (.x 0) 6) (
       .op (.call F.spec_l14Op [(.x 0)] false) (
       .esc (.ret [(.x 11)]))))
       (.op (.bin .eql (.cell 0 0) (.c (.v (.int .i64 8)))) (
       .ite (.x 11)
        (.bind 1 (
         .chk (.cells (.x 0) 6) (
         .op (.call F.spec_l14Zero [(.x 0), (.c (.v (.string ⟨#[97, 110]⟩)))] false) (
         .ite (.x 12)
          (.op (.call F.spec_l1In [(.cell 0 4), (.c (.v (.int .i64 1))), (.c (.v (.int .i64 4000)))] false) (
          .jump [(.x 13)]))
          (.jump [(.c (.v (.bool false)))])))) (
        .esc (.ret [(.x 12)])))
        (.bind 1 (
         .op (.bin .eql (.cell 0 0) (.c (.v (.int .i64 9)))) (
         .ite (.x 12)
          (.jump [(.x 12)])
          (.op (.bin .eql (.cell 0 0) (.c (.v (.int .i64 10)))) (
          .jump [(.x 13)])))) (
        .ite (.x 12)
         (.bind 1 (
          .chk (.cells (.x 0) 6) (
          .op (.call F.spec_l14Zero [(.x 0), (.c (.v (.string ⟨#[97, 98, 110]⟩)))] false) (
          .ite (.x 13)
           (.op (.bin .geq (.cell 0 4) (.c (.v (.int .i64 0)))) (
           .jump [(.x 14)]))
           (.jump [(.c (.v (.bool false)))])))) (
         .esc (.ret [(.x 13)])))
         (.op (.bin .eql (.cell 0 0) (.c (.v (.int .i64 11)))) (
         .ite (.x 13)
          (.bind 1 (
           .chk (.cells (.x 0) 6) (
           .op (.call F.spec_l14Zero [(.x 0), (.c (.v (.string ⟨#[97, 110]⟩)))] false) (
           .ite (.x 14)
            (.jump [(.x 4)])
            (.jump [(.c (.v (.bool false)))])))) (
          .esc (.ret [(.x 14)])))
          (.op (.bin .eql (.cell 0 0) (.c (.v (.int .i64 12)))) (
          .ite (.x 14)
           (.bind 1 (
            .chk (.cells (.x 0) 6) (
            .op (.call F.spec_l14Zero [(.x 0), (.c (.v (.string ⟨#[110]⟩)))] false) (
            .ite (.x 15)
             (.jump [(.x 4)])
             (.jump [(.c (.v (.bool false)))])))) (
           .esc (.ret [(.x 15)])))
           (.bind 1 (
            .op (.bin .eql (.cell 0 0) (.c (.v (.int .i64 13)))) (
            .ite (.x 15)
             (.jump [(.x 15)])
             (.op (.bin .eql (.cell 0 0) (.c (.v (.int .i64 14)))) (
             .jump [(.x 16)])))) (
           .ite (.x 15)
            (.chk (.cells (.x 0) 6) (
            .op (.call F.spec_l14Zero [(.x 0), (.c (.v (.string ⟨#[97]⟩)))] false) (
            .esc (.ret [(.x 16)]))))
            (.op (.bin .eql (.cell 0 0) (.c (.v (.int .i64 15)))) (
            .ite (.x 16)
             (.bind 1 (
              .chk (.cells (.x 0) 6) (
              .op (.call F.spec_l14Zero [(.x 0), (.c (.v (.string ⟨#[110]⟩)))] false) (
              .ite (.x 17)
               (.op (.call F.spec_l1In [(.cell 0 4), (.c (.v (.int .i64 1))), (.c (.v (.int .i64 2)))] false) (
               .jump [(.x 18)]))
               (.jump [(.c (.v (.bool false)))])))) (
             .esc (.ret [(.x 17)])))
             (.jump []))))))))))))))))))))))))) (
.ret [(.c (.v (.bool false)))])))))))
theorem T.spec_l14InstrOk_l : leftF Tryd.prog CF Tryd.f23 = some (2, T.spec_l14InstrOk) := by kernel_rfl
theorem T.spec_l14InstrOk_con {args : List AV} {res : AV} (hl : args.length = 2) (hn : AV.norefs args = true) (hw : wpT Tryd.prog (fun _ _ _ => False) (fun a => a = res) T.spec_l14InstrOk args []) : PCon Tryd.prog F.spec_l14InstrOk args res :=
  con_auto Tryd.func23 T.spec_l14InstrOk_l hl hn hw
def T.spec_l1Figures : T :=
.op (.bin .lss (.x 0) (.c (.v (.int .u64 10)))) (
.ite (.x 1)
 (.op (.bin .add (.c (.v (.int .u64 48))) (.x 0)) (
 .op (.conv .u8 (.x 2)) (
 .chk (.one (.x 3)) (
 .op (.mkl (.v (.int .u8 0)) 1 [(0, (.x 3))]) (
 .op (.pu .b2s [(.sl (.x 4))]) (
 .ret [(.x 5)]))))))
 (.op (.bin .quo (.x 0) (.c (.v (.int .u64 10)))) (
 .op (.call F.spec_l1Figures [(.x 2)] true) (
 .op (.bin .rem (.x 0) (.c (.v (.int .u64 10)))) (
 .op (.bin .add (.c (.v (.int .u64 48))) (.x 4)) (
 .op (.conv .u8 (.x 5)) (
 .chk (.one (.x 6)) (
 .op (.mkl (.v (.int .u8 0)) 1 [(0, (.x 6))]) (
 .op (.pu .b2s [(.x 7)]) (
 .op (.bin .add (.x 3) (.x 8)) (
 .ret [(.x 9)])))))))))))
theorem T.spec_l1Figures_l : leftF Tryd.prog CF Tryd.f24 = some (1, T.spec_l1Figures) := by kernel_rfl
theorem T.spec_l1Figures_con {args : List AV} {res : AV} (hl : args.length = 1) (hn : AV.norefs args = true) (hw : wpT Tryd.prog (fun _ _ _ => False) (fun a => a = res) T.spec_l1Figures args []) : PCon Tryd.prog F.spec_l1Figures args res :=
  con_auto Tryd.func24 T.spec_l1Figures_l hl hn hw
def T.spec_l16Word : T :=
.chk (.cells (.x 0) 6) (
.op (.bin .eql (.cell 0 0) (.c (.v (.int .i64 7)))) (
.ite (.x 1)
 (.op (.call F.spec_l16Name [(.cell 0 5)] false) (
 .ret [(.x 2)]))
 (.chk (.one (.c (.v (.string ⟨#[]⟩)))) (
 .chk (.one (.c (.v (.string ⟨#[105, 110, 116]⟩)))) (
 .chk (.one (.c (.v (.string ⟨#[115, 116, 114]⟩)))) (
 .chk (.one (.c (.v (.string ⟨#[108, 97, 98]⟩)))) (
 .chk (.one (.c (.v (.string ⟨#[109, 111, 118, 101]⟩)))) (
 .chk (.one (.c (.v (.string ⟨#[108, 111, 97, 100]⟩)))) (
 .chk (.one (.c (.v (.string ⟨#[115, 116, 111, 114, 101]⟩)))) (
 .chk (.one (.c (.v (.string ⟨#[]⟩)))) (
 .chk (.one (.c (.v (.string ⟨#[110, 101, 119]⟩)))) (
 .chk (.one (.c (.v (.string ⟨#[112, 117, 116]⟩)))) (
 .chk (.one (.c (.v (.string ⟨#[103, 101, 116]⟩)))) (
 .chk (.one (.c (.v (.string ⟨#[122, 101, 114, 111]⟩)))) (
 .chk (.one (.c (.v (.string ⟨#[106, 117, 109, 112]⟩)))) (
 .chk (.one (.c (.v (.string ⟨#[103, 111]⟩)))) (
 .chk (.one (.c (.v (.string ⟨#[101, 120, 105, 116]⟩)))) (
 .chk (.one (.c (.v (.string ⟨#[102, 97, 105, 108]⟩)))) (
 .op (.mkl (.v (.string ⟨#[]⟩)) 16 [(0, (.c (.v (.string ⟨#[]⟩)))), (1, (.c (.v (.string ⟨#[105, 110, 116]⟩)))), (2, (.c (.v (.string ⟨#[115, 116, 114]⟩)))), (3, (.c (.v (.string ⟨#[108, 97, 98]⟩)))), (4, (.c (.v (.string ⟨#[109, 111, 118, 101]⟩)))), (5, (.c (.v (.string ⟨#[108, 111, 97, 100]⟩)))), (6, (.c (.v (.string ⟨#[115, 116, 111, 114, 101]⟩)))), (7, (.c (.v (.string ⟨#[]⟩)))), (8, (.c (.v (.string ⟨#[110, 101, 119]⟩)))), (9, (.c (.v (.string ⟨#[112, 117, 116]⟩)))), (10, (.c (.v (.string ⟨#[103, 101, 116]⟩)))), (11, (.c (.v (.string ⟨#[122, 101, 114, 111]⟩)))), (12, (.c (.v (.string ⟨#[106, 117, 109, 112]⟩)))), (13, (.c (.v (.string ⟨#[103, 111]⟩)))), (14, (.c (.v (.string ⟨#[101, 120, 105, 116]⟩)))), (15, (.c (.v (.string ⟨#[102, 97, 105, 108]⟩))))]) (
 .chk (.idx (.x 2) (.cell 0 0)) (
 .op (.get (.x 2) (.cell 0 0) 0 none) (
 .ret [(.x 3)]))))))))))))))))))))))
theorem T.spec_l16Word_l : leftF Tryd.prog CF Tryd.f25 = some (1, T.spec_l16Word) := by kernel_rfl
theorem T.spec_l16Word_con {args : List AV} {res : AV} (hl : args.length = 1) (hn : AV.norefs args = true) (hw : wpT Tryd.prog (fun _ _ _ => False) (fun a => a = res) T.spec_l16Word args []) : PCon Tryd.prog F.spec_l16Word args res :=
  con_auto Tryd.func25 T.spec_l16Word_l hl hn hw
def T.spec_l16Form : T :=
.bind 0 (
 .op (.bin .eql (.x 0) (.c (.v (.string ⟨#[105, 110, 116]⟩)))) (
 .ite (.x 1)
  (.esc (.ret [(.c (.v (.int .i64 1))), (.c (.v (.string ⟨#[]⟩))), (.c (.v (.string ⟨#[97, 110]⟩)))]))
  (.op (.bin .eql (.x 0) (.c (.v (.string ⟨#[115, 116, 114]⟩)))) (
  .ite (.x 2)
   (.esc (.ret [(.c (.v (.int .i64 2))), (.c (.v (.string ⟨#[]⟩))), (.c (.v (.string ⟨#[97, 116]⟩)))]))
   (.op (.bin .eql (.x 0) (.c (.v (.string ⟨#[108, 97, 98]⟩)))) (
   .ite (.x 3)
    (.esc (.ret [(.c (.v (.int .i64 3))), (.c (.v (.string ⟨#[]⟩))), (.c (.v (.string ⟨#[97, 110]⟩)))]))
    (.op (.bin .eql (.x 0) (.c (.v (.string ⟨#[109, 111, 118, 101]⟩)))) (
    .ite (.x 4)
     (.esc (.ret [(.c (.v (.int .i64 4))), (.c (.v (.string ⟨#[]⟩))), (.c (.v (.string ⟨#[97, 98]⟩)))]))
     (.op (.bin .eql (.x 0) (.c (.v (.string ⟨#[108, 111, 97, 100]⟩)))) (
     .ite (.x 5)
      (.esc (.ret [(.c (.v (.int .i64 5))), (.c (.v (.string ⟨#[]⟩))), (.c (.v (.string ⟨#[97, 110]⟩)))]))
      (.op (.bin .eql (.x 0) (.c (.v (.string ⟨#[115, 116, 111, 114, 101]⟩)))) (
      .ite (.x 6)
       (.esc (.ret [(.c (.v (.int .i64 6))), (.c (.v (.string ⟨#[]⟩))), (.c (.v (.string ⟨#[97, 110]⟩)))]))
       (.bind 1 (
        .op (.bin .eql (.x 0) (.c (.v (.string ⟨#[97, 100, 100]⟩)))) (
        .ite (.x 7)
         (.jump [(.x 7)])
         (.op (.bin .eql (.x 0) (.c (.v (.string ⟨#[115, 117, 98]⟩)))) (
         .ite (.x 8)
          (.jump [(.x 8)])
          (.op (.bin .eql (.x 0) (.c (.v (.string ⟨#[109, 117, 108]⟩)))) (
          .ite (.x 9)
           (.jump [(.x 9)])
           (.op (.bin .eql (.x 0) (.c (.v (.string ⟨#[101, 113]⟩)))) (
           .ite (.x 10)
            (.jump [(.x 10)])
            (.op (.bin .eql (.x 0) (.c (.v (.string ⟨#[108, 116]⟩)))) (
            .ite (.x 11)
             (.jump [(.x 11)])
             (.op (.bin .eql (.x 0) (.c (.v (.string ⟨#[99, 97, 116]⟩)))) (
             .jump [(.x 12)])))))))))))) (
       .ite (.x 7)
        (.chk (.one (.c (.v (.string ⟨#[43]⟩)))) (
        .chk (.one (.c (.v (.string ⟨#[45]⟩)))) (
        .chk (.one (.c (.v (.string ⟨#[42]⟩)))) (
        .chk (.one (.c (.v (.string ⟨#[61]⟩)))) (
        .chk (.one (.c (.v (.string ⟨#[60]⟩)))) (
        .chk (.one (.c (.v (.string ⟨#[94]⟩)))) (
        .op (.mkl (.v (.string ⟨#[]⟩)) 6 [(0, (.c (.v (.string ⟨#[43]⟩)))), (1, (.c (.v (.string ⟨#[45]⟩)))), (2, (.c (.v (.string ⟨#[42]⟩)))), (3, (.c (.v (.string ⟨#[61]⟩)))), (4, (.c (.v (.string ⟨#[60]⟩)))), (5, (.c (.v (.string ⟨#[94]⟩))))]) (
        .loop [(.c (.v (.int .i64 0)))] (
         .op (.bin .lss (.x 9) (.c (.v (.int .i64 6)))) (
         .ite (.x 10)
          (.chk (.idx (.x 8) (.x 9)) (
          .op (.get (.x 8) (.x 9) 0 none) (
          .op (.call F.spec_l16Name [(.x 11)] false) (
          .op (.bin .eql (.x 12) (.x 0)) (
          .ite (.x 13)
           (.chk (.idx (.x 8) (.x 9)) (
           .op (.get (.x 8) (.x 9) 0 none) (
           .esc (.esc (.ret [(.c (.v (.int .i64 7))), (.x 14), (.c (.v (.string ⟨#[97, 98, 99]⟩)))])))))
           (.op (.bin .add (.x 9) (.c (.v (.int .i64 1)))) (
           .jump [(.x 14)])))))))
          (.esc (.jump []))))))))))))
        (.op (.bin .eql (.x 0) (.c (.v (.string ⟨#[115, 105, 122, 101]⟩)))) (
        .ite (.x 8)
         (.esc (.ret [(.c (.v (.int .i64 7))), (.x 0), (.c (.v (.string ⟨#[97, 98]⟩)))]))
         (.op (.bin .eql (.x 0) (.c (.v (.string ⟨#[114, 101, 97, 100]⟩)))) (
         .ite (.x 9)
          (.esc (.ret [(.c (.v (.int .i64 7))), (.x 0), (.c (.v (.string ⟨#[97]⟩)))]))
          (.op (.bin .eql (.x 0) (.c (.v (.string ⟨#[112, 114, 105, 110, 116]⟩)))) (
          .ite (.x 10)
           (.esc (.ret [(.c (.v (.int .i64 7))), (.x 0), (.c (.v (.string ⟨#[98]⟩)))]))
           (.op (.bin .eql (.x 0) (.c (.v (.string ⟨#[110, 101, 119]⟩)))) (
           .ite (.x 11)
            (.esc (.ret [(.c (.v (.int .i64 8))), (.c (.v (.string ⟨#[]⟩))), (.c (.v (.string ⟨#[97, 110]⟩)))]))
            (.op (.bin .eql (.x 0) (.c (.v (.string ⟨#[112, 117, 116]⟩)))) (
            .ite (.x 12)
             (.esc (.ret [(.c (.v (.int .i64 9))), (.c (.v (.string ⟨#[]⟩))), (.c (.v (.string ⟨#[97, 110, 98]⟩)))]))
             (.op (.bin .eql (.x 0) (.c (.v (.string ⟨#[103, 101, 116]⟩)))) (
             .ite (.x 13)
              (.esc (.ret [(.c (.v (.int .i64 10))), (.c (.v (.string ⟨#[]⟩))), (.c (.v (.string ⟨#[97, 98, 110]⟩)))]))
              (.op (.bin .eql (.x 0) (.c (.v (.string ⟨#[122, 101, 114, 111]⟩)))) (
              .ite (.x 14)
               (.esc (.ret [(.c (.v (.int .i64 11))), (.c (.v (.string ⟨#[]⟩))), (.c (.v (.string ⟨#[97, 110]⟩)))]))
               (.op (.bin .eql (.x 0) (.c (.v (.string ⟨#[106, 117, 109, 112]⟩)))) (
               .ite (.x 15)
                (.esc (.ret [(.c (.v (.int .i64 12))), (.c (.v (.string ⟨#[]⟩))), (.c (.v (.string ⟨#[110]⟩)))]))
                (.op (.bin .eql (.x 0) (.c (.v (.string ⟨#[103, 111]⟩)))) (
                .ite (.x 16)
                 (.esc (.ret [(.c (.v (.int .i64 13))), (.c (.v (.string ⟨#[]⟩))), (.c (.v (.string ⟨#[97]⟩)))]))
                 (.op (.bin .eql (.x 0) (.c (.v (.string ⟨#[101, 120, 105, 116]⟩)))) (
                 .ite (.x 17)
                  (.esc (.ret [(.c (.v (.int .i64 14))), (.c (.v (.string ⟨#[]⟩))), (.c (.v (.string ⟨#[97]⟩)))]))
                  (.op (.bin .eql (.x 0) (.c (.v (.string ⟨#[102, 97, 105, 108]⟩)))) (
                  .ite (.x 18)
                   (.esc (.ret [(.c (.v (.int .i64 15))), (.c (.v (.string ⟨#[]⟩))), (.c (.v (.string ⟨#[110]⟩)))]))
                   (.jump []))))))))))))))))))))))))))))))))))))) (
.ret [(.c (.v (.int .i64 0))), (.c (.v (.string ⟨#[]⟩))), (.c (.v (.string ⟨#[32]⟩)))])
theorem T.spec_l16Form_l : leftF Tryd.prog CF Tryd.f26 = some (1, T.spec_l16Form) := by kernel_rfl
theorem T.spec_l16Form_con {args : List AV} {res : AV} (hl : args.length = 1) (hn : AV.norefs args = true) (hw : wpT Tryd.prog (fun _ _ _ => False) (fun a => a = res) T.spec_l16Form args []) : PCon Tryd.prog F.spec_l16Form args res :=
  con_auto Tryd.func26 T.spec_l16Form_l hl hn hw
def T.spec_l16Reg : T :=
.op (.call F.spec_l1Decimal [(.x 0)] false) (
.op (.bin .add (.c (.v (.string ⟨#[114]⟩))) (.x 1)) (
.ret [(.x 2)]))
theorem T.spec_l16Reg_l : leftF Tryd.prog CF Tryd.f27 = some (1, T.spec_l16Reg) := by kernel_rfl
theorem T.spec_l16Reg_con {args : List AV} {res : AV} (hl : args.length = 1) (hn : AV.norefs args = true) (hw : wpT Tryd.prog (fun _ _ _ => False) (fun a => a = res) T.spec_l16Reg args []) : PCon Tryd.prog F.spec_l16Reg args res :=
  con_auto Tryd.func27 T.spec_l16Reg_l hl hn hw
def T.spec_l1Quoted : T :=
.chk (.one (.c (.v (.int .u8 34)))) (
.op (.mkl (.v (.int .u8 0)) 1 [(0, (.c (.v (.int .u8 34))))]) (
.bind 1 (
 .loop [(.x 1), (.c (.v (.int .i64 0)))] (
  .op (.lenS (.x 0)) (
  .op (.bin .lss (.x 3) (.x 4)) (
  .ite (.x 5)
   (.bind 2 (
    .op (.idxS (.x 0) (.x 3)) (
    .op (.bin .eql (.x 6) (.c (.v (.int .u8 10)))) (
    .ite (.x 7)
     (.chk (.one (.c (.v (.int .u8 92)))) (
     .chk (.one (.c (.v (.int .u8 110)))) (
     .op (.mkl (.v (.int .u8 0)) 2 [(0, (.c (.v (.int .u8 92)))), (1, (.c (.v (.int .u8 110))))]) (
     .op (.app 1 1 (.x 2) (.sl (.x 8))) (
     .jump [(.x 9), (.x 8)])))))
     (.bind 1 (
      .op (.bin .eql (.x 6) (.c (.v (.int .u8 34)))) (
      .ite (.x 8)
       (.jump [(.x 8)])
       (.op (.bin .eql (.x 6) (.c (.v (.int .u8 92)))) (
       .jump [(.x 9)])))) (
     .ite (.x 8)
      (.op (.idxS (.x 0) (.x 3)) (
      .chk (.one (.c (.v (.int .u8 92)))) (
      .chk (.one (.x 9)) (
      .op (.mkl (.v (.int .u8 0)) 2 [(0, (.c (.v (.int .u8 92)))), (1, (.x 9))]) (
      .op (.app 1 1 (.x 2) (.sl (.x 10))) (
      .jump [(.x 11), (.x 10)]))))))
      (.op (.idxS (.x 0) (.x 3)) (
      .chk (.one (.x 9)) (
      .op (.mkl (.v (.int .u8 0)) 1 [(0, (.x 9))]) (
      .op (.app 1 1 (.x 2) (.sl (.x 10))) (
      .jump [(.x 11), (.x 10)])))))))))) (
   .op (.bin .add (.x 3) (.c (.v (.int .i64 1)))) (
   .jump [(.x 6), (.x 8)])))
   (.esc (.jump [(.x 2)])))))) (
.chk (.one (.c (.v (.int .u8 34)))) (
.op (.mkl (.v (.int .u8 0)) 1 [(0, (.c (.v (.int .u8 34))))]) (
.op (.app 1 1 (.x 2) (.sl (.x 3))) (
.op (.pu .b2s [(.sl (.x 4))]) (
.ret [(.x 5)])))))))
theorem T.spec_l1Quoted_l : leftF Tryd.prog CF Tryd.f28 = some (1, T.spec_l1Quoted) := by kernel_rfl
theorem T.spec_l1Quoted_con {args : List AV} {res : AV} (hl : args.length = 1) (hn : AV.norefs args = true) (hw : wpT Tryd.prog (fun _ _ _ => False) (fun a => a = res) T.spec_l1Quoted args []) : PCon Tryd.prog F.spec_l1Quoted args res :=
  con_auto Tryd.func28 T.spec_l1Quoted_l hl hn hw
def T.laws_toInstr : T :=
.chk (.cells (.x 0) 6) (
.chk (.one (.cell 0 0)) (
.chk (.one (.cell 0 1)) (
.chk (.one (.cell 0 2)) (
.chk (.one (.cell 0 3)) (
.chk (.one (.cell 0 4)) (
.chk (.one (.cell 0 5)) (
.chk (.cells (.x 0) 6) (
.chk (.cells (.x 0) 6) (
.ret [(.agg [(.cell 0 0), (.cell 0 1), (.cell 0 2), (.cell 0 3), (.cell 0 4), (.cell 0 5)])])))))))))
theorem T.laws_toInstr_l : leftF Tryd.prog CF Tryd.f29 = some (1, T.laws_toInstr) := by kernel_rfl
theorem T.laws_toInstr_con {args : List AV} {res : AV} (hl : args.length = 1) (hn : AV.norefs args = true) (hw : wpT Tryd.prog (fun _ _ _ => False) (fun a => a = res) T.laws_toInstr args []) : PCon Tryd.prog F.laws_toInstr args res :=
  con_auto Tryd.func29 T.laws_toInstr_l hl hn hw
def T.impl_within : T :=
.bind 1 (
 .op (.bin .geq (.x 0) (.x 1)) (
 .ite (.x 3)
  (.op (.bin .leq (.x 0) (.x 2)) (
  .jump [(.x 4)]))
  (.jump [(.c (.v (.bool false)))]))) (
.ret [(.x 3)])
theorem T.impl_within_l : leftF Tryd.prog CF Tryd.f30 = some (3, T.impl_within) := by kernel_rfl
theorem T.impl_within_con {args : List AV} {res : AV} (hl : args.length = 3) (hn : AV.norefs args = true) (hw : wpT Tryd.prog (fun _ _ _ => False) (fun a => a = res) T.impl_within args []) : PCon Tryd.prog F.impl_within args res :=
  con_auto Tryd.func30 T.impl_within_l hl hn hw
def T.slices_ContainsFunc__impl_Instr_impl_Instr : T :=
.op (.call F.slices_IndexFunc__impl_Instr_impl_Instr [(.x 0), (.x 1)] false) (
.op (.bin .geq (.x 2) (.c (.v (.int .i64 0)))) (
.ret [(.x 3)]))
theorem T.slices_ContainsFunc__impl_Instr_impl_Instr_l : leftF Tryd.prog CF Tryd.f31 = some (2, T.slices_ContainsFunc__impl_Instr_impl_Instr) := by kernel_rfl
theorem T.slices_ContainsFunc__impl_Instr_impl_Instr_con {args : List AV} {res : AV} (hl : args.length = 2) (hn : AV.norefs args = true) (hw : wpT Tryd.prog (fun _ _ _ => False) (fun a => a = res) T.slices_ContainsFunc__impl_Instr_impl_Instr args []) : PCon Tryd.prog F.slices_ContainsFunc__impl_Instr_impl_Instr args res :=
  con_auto Tryd.func31 T.slices_ContainsFunc__impl_Instr_impl_Instr_l hl hn hw
def T.impl_CodeOk_1 : T :=
.chk (.cells (.x 0) 6) (
.op (.ldp (some 2) (.x 1)) (
.chk (.cells (.x 0) 6) (
.op (.call F.impl_instrOk [(.x 2), (.x 0)] false) (
.op (.un .not (.x 3)) (
.ret [(.x 4)])))))
theorem T.impl_CodeOk_1_l : leftF Tryd.prog CF Tryd.f32 = some (2, T.impl_CodeOk_1) := by kernel_rfl
theorem T.impl_CodeOk_1_con {args : List AV} {res : AV} (hl : args.length = 2) (hn : AV.norefs args = true) (hw : wpT Tryd.prog (fun _ _ _ => False) (fun a => a = res) T.impl_CodeOk_1 args []) : PCon Tryd.prog F.impl_CodeOk_1 args res :=
  con_auto Tryd.func32 T.impl_CodeOk_1_l hl hn hw
def T.impl_instrOk : T :=
.chk (.cells (.x 0) 2) (
.chk (.cells (.x 1) 6) (
.chk (.cells (.x 1) 6) (
.op (.call F.impl_wants [(.x 1)] false) (
.chk (.tup (.x 2) 0) (
.chk (.tup (.x 2) 1) (
.chk (.one (.c (.v (.string ⟨#[]⟩)))) (
.chk (.one (.ext 2 0)) (
.chk (.one (.c (.v .nilFunc))) (
.chk (.one (.fn F.impl_instrOk_1 [(.ip (.ext 2 0) 0)])) (
.bind 0 (
 .bind 1 (
  .op (.un .not (.ext 2 1)) (
  .ite (.x 3)
   (.jump [(.c (.v (.bool true)))])
   (.op (.call F.impl_instrOk_2 [(.c (.v (.string ⟨#[97]⟩))), (.cell 1 1), (.ip (.fn F.impl_instrOk_1 [(.ip (.ext 2 0) 0)]) 0)] false) (
   .op (.un .not (.x 4)) (
   .ite (.x 5)
    (.jump [(.c (.v (.bool true)))])
    (.op (.call F.impl_instrOk_2 [(.c (.v (.string ⟨#[98]⟩))), (.cell 1 2), (.ip (.fn F.impl_instrOk_1 [(.ip (.ext 2 0) 0)]) 0)] false) (
    .op (.un .not (.x 6)) (
    .ite (.x 7)
     (.jump [(.c (.v (.bool true)))])
     (.op (.call F.impl_instrOk_2 [(.c (.v (.string ⟨#[99]⟩))), (.cell 1 3), (.ip (.fn F.impl_instrOk_1 [(.ip (.ext 2 0) 0)]) 0)] false) (
     .op (.un .not (.x 8)) (
     .ite (.x 9)
      (.jump [(.c (.v (.bool true)))])
      (.op (.val (.fn F.impl_instrOk_1 [(.ip (.ext 2 0) 0)])) (
      .chk (.lt (.x 10) 0) (
      .op (.callv (.cell 10 0) [(.c (.v (.string ⟨#[110]⟩)))] false) (
      .op (.un .not (.x 11)) (
      .ite (.x 12)
       (.op (.bin .neq (.cell 1 4) (.c (.v (.int .i64 0)))) (
       .ite (.x 13)
        (.jump [(.c (.v (.bool true)))])
        (.op (.val (.fn F.impl_instrOk_1 [(.ip (.ext 2 0) 0)])) (
        .chk (.lt (.x 14) 0) (
        .op (.callv (.cell 14 0) [(.c (.v (.string ⟨#[116]⟩)))] false) (
        .op (.un .not (.x 15)) (
        .ite (.x 16)
         (.op (.bin .neq (.cell 1 5) (.c (.v (.string ⟨#[]⟩)))) (
         .jump [(.x 17)]))
         (.jump [(.c (.v (.bool false)))]))))))))
       (.op (.val (.fn F.impl_instrOk_1 [(.ip (.ext 2 0) 0)])) (
       .chk (.lt (.x 13) 0) (
       .op (.callv (.cell 13 0) [(.c (.v (.string ⟨#[116]⟩)))] false) (
       .op (.un .not (.x 14)) (
       .ite (.x 15)
        (.op (.bin .neq (.cell 1 5) (.c (.v (.string ⟨#[]⟩)))) (
        .jump [(.x 16)]))
        (.jump [(.c (.v (.bool false)))])))))))))))))))))))))) (
 .ite (.x 3)
  (.esc (.ret [(.c (.v (.bool false)))]))
  (.jump []))) (
.bind 0 (
 .op (.bin .eql (.cell 1 0) (.c (.v (.int .i64 2)))) (
 .ite (.x 3)
  (.bind 1 (
   .op (.lenS (.cell 1 5)) (
   .op (.bin .leq (.x 4) (.c (.v (.int .i64 4000)))) (
   .ite (.x 5)
    (.op (.call F.impl_plain [(.cell 1 5)] false) (
    .jump [(.x 6)]))
    (.jump [(.c (.v (.bool false)))])))) (
  .esc (.ret [(.x 4)])))
  (.op (.bin .eql (.cell 1 0) (.c (.v (.int .i64 3)))) (
  .ite (.x 4)
   (.op (.lenL (.cell 0 1)) (
   .op (.bin .sub (.x 5) (.c (.v (.int .i64 1)))) (
   .op (.call F.impl_within [(.cell 1 4), (.c (.v (.int .i64 0))), (.x 6)] false) (
   .esc (.ret [(.x 7)])))))
   (.bind 1 (
    .op (.bin .eql (.cell 1 0) (.c (.v (.int .i64 5)))) (
    .ite (.x 5)
     (.jump [(.x 5)])
     (.op (.bin .eql (.cell 1 0) (.c (.v (.int .i64 6)))) (
     .jump [(.x 6)])))) (
   .ite (.x 5)
    (.op (.call F.impl_within [(.cell 1 4), (.c (.v (.int .i64 0))), (.c (.v (.int .i64 63)))] false) (
    .esc (.ret [(.x 6)])))
    (.op (.bin .eql (.cell 1 0) (.c (.v (.int .i64 8)))) (
    .ite (.x 6)
     (.op (.call F.impl_within [(.cell 1 4), (.c (.v (.int .i64 1))), (.c (.v (.int .i64 4000)))] false) (
     .esc (.ret [(.x 7)])))
     (.bind 1 (
      .op (.bin .eql (.cell 1 0) (.c (.v (.int .i64 9)))) (
      .ite (.x 7)
       (.jump [(.x 7)])
       (.op (.bin .eql (.cell 1 0) (.c (.v (.int .i64 10)))) (
       .jump [(.x 8)])))) (
     .ite (.x 7)
      (.op (.bin .geq (.cell 1 4) (.c (.v (.int .i64 0)))) (
      .esc (.ret [(.x 8)])))
      (.bind 1 (
       .op (.bin .eql (.cell 1 0) (.c (.v (.int .i64 11)))) (
       .ite (.x 8)
        (.jump [(.x 8)])
        (.op (.bin .eql (.cell 1 0) (.c (.v (.int .i64 12)))) (
        .jump [(.x 9)])))) (
      .ite (.x 8)
       (.op (.lenL (.cell 0 0)) (
       .op (.bin .sub (.x 9) (.c (.v (.int .i64 1)))) (
       .op (.call F.impl_within [(.cell 1 4), (.c (.v (.int .i64 0))), (.x 10)] false) (
       .esc (.ret [(.x 11)])))))
       (.op (.bin .eql (.cell 1 0) (.c (.v (.int .i64 15)))) (
       .ite (.x 9)
        (.op (.call F.impl_within [(.cell 1 4), (.c (.v (.int .i64 1))), (.c (.v (.int .i64 2)))] false) (
        .esc (.ret [(.x 10)])))
        (.jump []))))))))))))))) (
.ret [(.c (.v (.bool true)))]))))))))))))
theorem T.impl_instrOk_l : leftF Tryd.prog CF Tryd.f33 = some (2, T.impl_instrOk) := by kernel_rfl
theorem T.impl_instrOk_con {args : List AV} {res : AV} (hl : args.length = 2) (hn : AV.norefs args = true) (hw : wpT Tryd.prog (fun _ _ _ => False) (fun a => a = res) T.impl_instrOk args []) : PCon Tryd.prog F.impl_instrOk args res :=
  con_auto Tryd.func33 T.impl_instrOk_l hl hn hw
def T.slices_ContainsFunc__int_int : T :=
.op (.call F.slices_IndexFunc__int_int [(.x 0), (.x 1)] false) (
.op (.bin .geq (.x 2) (.c (.v (.int .i64 0)))) (
.ret [(.x 3)]))
theorem T.slices_ContainsFunc__int_int_l : leftF Tryd.prog CF Tryd.f34 = some (2, T.slices_ContainsFunc__int_int) := by kernel_rfl
theorem T.slices_ContainsFunc__int_int_con {args : List AV} {res : AV} (hl : args.length = 2) (hn : AV.norefs args = true) (hw : wpT Tryd.prog (fun _ _ _ => False) (fun a => a = res) T.slices_ContainsFunc__int_int args []) : PCon Tryd.prog F.slices_ContainsFunc__int_int args res :=
  con_auto Tryd.func34 T.slices_ContainsFunc__int_int_l hl hn hw
def T.impl_CodeOk_2 : T :=
.op (.fap 0 (.x 1)) (
.op (.ldp none (.x 2)) (
.op (.lenL (.x 3)) (
.op (.bin .sub (.x 4) (.c (.v (.int .i64 1)))) (
.op (.call F.impl_within [(.x 0), (.c (.v (.int .i64 0))), (.x 5)] false) (
.op (.un .not (.x 6)) (
.ret [(.x 7)]))))))
theorem T.impl_CodeOk_2_l : leftF Tryd.prog CF Tryd.f35 = some (2, T.impl_CodeOk_2) := by kernel_rfl
theorem T.impl_CodeOk_2_con {args : List AV} {res : AV} (hl : args.length = 2) (hn : AV.norefs args = true) (hw : wpT Tryd.prog (fun _ _ _ => False) (fun a => a = res) T.impl_CodeOk_2 args []) : PCon Tryd.prog F.impl_CodeOk_2 args res :=
  con_auto Tryd.func35 T.impl_CodeOk_2_l hl hn hw
def T.impl_quoted : T :=
.chk (.one (.c (.v (.int .u8 34)))) (
.op (.mkl (.v (.int .u8 0)) 1 [(0, (.c (.v (.int .u8 34))))]) (
.bind 1 (
 .loop [(.x 1), (.c (.v (.int .i64 0)))] (
  .op (.lenS (.x 0)) (
  .op (.bin .lss (.x 3) (.x 4)) (
  .ite (.x 5)
   (.bind 2 (
    .op (.idxS (.x 0) (.x 3)) (
    .op (.bin .eql (.x 6) (.c (.v (.int .u8 10)))) (
    .ite (.x 7)
     (.chk (.one (.c (.v (.int .u8 92)))) (
     .chk (.one (.c (.v (.int .u8 110)))) (
     .op (.mkl (.v (.int .u8 0)) 2 [(0, (.c (.v (.int .u8 92)))), (1, (.c (.v (.int .u8 110))))]) (
     .op (.app 1 1 (.x 2) (.sl (.x 8))) (
     .jump [(.x 9), (.x 8)])))))
     (.bind 1 (
      .op (.bin .eql (.x 6) (.c (.v (.int .u8 34)))) (
      .ite (.x 8)
       (.jump [(.x 8)])
       (.op (.bin .eql (.x 6) (.c (.v (.int .u8 92)))) (
       .jump [(.x 9)])))) (
     .ite (.x 8)
      (.op (.idxS (.x 0) (.x 3)) (
      .chk (.one (.c (.v (.int .u8 92)))) (
      .chk (.one (.x 9)) (
      .op (.mkl (.v (.int .u8 0)) 2 [(0, (.c (.v (.int .u8 92)))), (1, (.x 9))]) (
      .op (.app 1 1 (.x 2) (.sl (.x 10))) (
      .jump [(.x 11), (.x 10)]))))))
      (.op (.idxS (.x 0) (.x 3)) (
      .chk (.one (.x 9)) (
      .op (.mkl (.v (.int .u8 0)) 1 [(0, (.x 9))]) (
      .op (.app 1 1 (.x 2) (.sl (.x 10))) (
      .jump [(.x 11), (.x 10)])))))))))) (
   .op (.bin .add (.x 3) (.c (.v (.int .i64 1)))) (
   .jump [(.x 6), (.x 8)])))
   (.esc (.jump [(.x 2)])))))) (
.chk (.one (.c (.v (.int .u8 34)))) (
.op (.mkl (.v (.int .u8 0)) 1 [(0, (.c (.v (.int .u8 34))))]) (
.op (.app 1 1 (.x 2) (.sl (.x 3))) (
.op (.pu .b2s [(.sl (.x 4))]) (
.ret [(.x 5)])))))))
theorem T.impl_quoted_l : leftF Tryd.prog CF Tryd.f38 = some (1, T.impl_quoted) := by kernel_rfl
theorem T.impl_quoted_con {args : List AV} {res : AV} (hl : args.length = 1) (hn : AV.norefs args = true) (hw : wpT Tryd.prog (fun _ _ _ => False) (fun a => a = res) T.impl_quoted args []) : PCon Tryd.prog F.impl_quoted args res :=
  con_auto Tryd.func38 T.impl_quoted_l hl hn hw
def T.laws_eqInstr : T :=
.chk (.cells (.x 0) 6) (
.chk (.cells (.x 1) 6) (
.op (.bin .neq (.cell 0 0) (.cell 1 0)) (
.ite (.x 2)
 (.ret [(.c (.v (.bool false)))])
 (.op (.bin .neq (.cell 0 1) (.cell 1 1)) (
 .ite (.x 3)
  (.ret [(.c (.v (.bool false)))])
  (.op (.bin .neq (.cell 0 2) (.cell 1 2)) (
  .ite (.x 4)
   (.ret [(.c (.v (.bool false)))])
   (.op (.bin .neq (.cell 0 3) (.cell 1 3)) (
   .ite (.x 5)
    (.ret [(.c (.v (.bool false)))])
    (.op (.bin .neq (.cell 0 4) (.cell 1 4)) (
    .ite (.x 6)
     (.ret [(.c (.v (.bool false)))])
     (.op (.bin .neq (.cell 0 5) (.cell 1 5)) (
     .ite (.x 7)
      (.ret [(.c (.v (.bool false)))])
      (.ret [(.c (.v (.bool true)))]))))))))))))))
theorem T.laws_eqInstr_l : leftF Tryd.prog CF Tryd.f39 = some (2, T.laws_eqInstr) := by kernel_rfl
theorem T.laws_eqInstr_con {args : List AV} {res : AV} (hl : args.length = 2) (hn : AV.norefs args = true) (hw : wpT Tryd.prog (fun _ _ _ => False) (fun a => a = res) T.laws_eqInstr args []) : PCon Tryd.prog F.laws_eqInstr args res :=
  con_auto Tryd.func39 T.laws_eqInstr_l hl hn hw
def T.spec_l14Reg : T :=
.op (.call F.spec_l1In [(.x 0), (.c (.v (.int .i64 0))), (.c (.v (.int .i64 15)))] false) (
.ret [(.x 1)])
theorem T.spec_l14Reg_l : leftF Tryd.prog CF Tryd.f40 = some (1, T.spec_l14Reg) := by kernel_rfl
theorem T.spec_l14Reg_con {args : List AV} {res : AV} (hl : args.length = 1) (hn : AV.norefs args = true) (hw : wpT Tryd.prog (fun _ _ _ => False) (fun a => a = res) T.spec_l14Reg args []) : PCon Tryd.prog F.spec_l14Reg args res :=
  con_auto Tryd.func40 T.spec_l14Reg_l hl hn hw
def T.spec_l14Zero : T :=
.chk (.cells (.x 0) 6) (
.chk (.one (.c (.v (.bool false)))) (
.chk (.one (.c (.v (.bool false)))) (
.chk (.one (.c (.v (.bool false)))) (
.chk (.one (.c (.v (.bool false)))) (
.chk (.one (.c (.v (.bool false)))) (
.op (.mkl (.v (.bool false)) 5 [(0, (.c (.v (.bool false)))), (1, (.c (.v (.bool false)))), (2, (.c (.v (.bool false)))), (3, (.c (.v (.bool false)))), (4, (.c (.v (.bool false))))]) (
.bind 1 (
 .loop [(.x 2), (.c (.v (.int .i64 0)))] (
  .op (.lenS (.x 1)) (
  .op (.bin .lss (.x 4) (.x 5)) (
  .ite (.x 6)
   (.bind 1 (
    .loop [(.x 3), (.c (.v (.int .i64 0)))] (
     .op (.bin .lss (.x 8) (.c (.v (.int .i64 5)))) (
     .ite (.x 9)
      (.bind 1 (
       .op (.idxS (.x 1) (.x 4)) (
       .op (.idxS (.c (.v (.string ⟨#[97, 98, 99, 110, 116]⟩))) (.x 8)) (
       .op (.bin .eql (.x 10) (.x 11)) (
       .ite (.x 12)
        (.chk (.idx (.x 7) (.x 8)) (
        .chk (.one (.c (.v (.bool true)))) (
        .op (.set (.x 7) (.x 8) 0 1 (.c (.v (.bool true)))) (
        .jump [(.x 13)]))))
        (.jump [(.x 7)]))))) (
      .op (.bin .add (.x 8) (.c (.v (.int .i64 1)))) (
      .jump [(.x 10), (.x 11)])))
      (.esc (.jump [(.x 7)]))))) (
   .op (.bin .add (.x 4) (.c (.v (.int .i64 1)))) (
   .jump [(.x 7), (.x 8)])))
   (.esc (.jump [(.x 3)])))))) (
.bind 1 (
 .chk (.idx (.x 3) (.c (.v (.int .i64 0)))) (
 .op (.get (.x 3) (.c (.v (.int .i64 0))) 0 none) (
 .ite (.x 4)
  (.chk (.idx (.x 3) (.c (.v (.int .i64 1)))) (
  .op (.get (.x 3) (.c (.v (.int .i64 1))) 0 none) (
  .ite (.x 5)
   (.chk (.idx (.x 3) (.c (.v (.int .i64 2)))) (
   .op (.get (.x 3) (.c (.v (.int .i64 2))) 0 none) (
   .ite (.x 6)
    (.chk (.idx (.x 3) (.c (.v (.int .i64 3)))) (
    .op (.get (.x 3) (.c (.v (.int .i64 3))) 0 none) (
    .ite (.x 7)
     (.chk (.idx (.x 3) (.c (.v (.int .i64 4)))) (
     .op (.get (.x 3) (.c (.v (.int .i64 4))) 0 none) (
     .ite (.x 8)
      (.jump [(.c (.v (.bool true)))])
      (.op (.bin .eql (.cell 0 5) (.c (.v (.string ⟨#[]⟩)))) (
      .jump [(.x 9)])))))
     (.op (.bin .eql (.cell 0 4) (.c (.v (.int .i64 0)))) (
     .ite (.x 8)
      (.chk (.idx (.x 3) (.c (.v (.int .i64 4)))) (
      .op (.get (.x 3) (.c (.v (.int .i64 4))) 0 none) (
      .ite (.x 9)
       (.jump [(.c (.v (.bool true)))])
       (.op (.bin .eql (.cell 0 5) (.c (.v (.string ⟨#[]⟩)))) (
       .jump [(.x 10)])))))
      (.jump [(.c (.v (.bool false)))]))))))
    (.op (.bin .eql (.cell 0 3) (.c (.v (.int .i64 0)))) (
    .ite (.x 7)
     (.chk (.idx (.x 3) (.c (.v (.int .i64 3)))) (
     .op (.get (.x 3) (.c (.v (.int .i64 3))) 0 none) (
     .ite (.x 8)
      (.chk (.idx (.x 3) (.c (.v (.int .i64 4)))) (
      .op (.get (.x 3) (.c (.v (.int .i64 4))) 0 none) (
      .ite (.x 9)
       (.jump [(.c (.v (.bool true)))])
       (.op (.bin .eql (.cell 0 5) (.c (.v (.string ⟨#[]⟩)))) (
       .jump [(.x 10)])))))
      (.op (.bin .eql (.cell 0 4) (.c (.v (.int .i64 0)))) (
      .ite (.x 9)
       (.chk (.idx (.x 3) (.c (.v (.int .i64 4)))) (
       .op (.get (.x 3) (.c (.v (.int .i64 4))) 0 none) (
       .ite (.x 10)
        (.jump [(.c (.v (.bool true)))])
        (.op (.bin .eql (.cell 0 5) (.c (.v (.string ⟨#[]⟩)))) (
        .jump [(.x 11)])))))
       (.jump [(.c (.v (.bool false)))]))))))
     (.jump [(.c (.v (.bool false)))]))))))
   (.op (.bin .eql (.cell 0 2) (.c (.v (.int .i64 0)))) (
   .ite (.x 6)
    (.chk (.idx (.x 3) (.c (.v (.int .i64 2)))) (
    .op (.get (.x 3) (.c (.v (.int .i64 2))) 0 none) (
    .ite (.x 7)
     (.chk (.idx (.x 3) (.c (.v (.int .i64 3)))) (
     .op (.get (.x 3) (.c (.v (.int .i64 3))) 0 none) (
     .ite (.x 8)
      (.chk (.idx (.x 3) (.c (.v (.int .i64 4)))) (
      .op (.get (.x 3) (.c (.v (.int .i64 4))) 0 none) (
      .ite (.x 9)
       (.jump [(.c (.v (.bool true)))])
       (.op (.bin .eql (.cell 0 5) (.c (.v (.string ⟨#[]⟩)))) (
       .jump [(.x 10)])))))
      (.op (.bin .eql (.cell 0 4) (.c (.v (.int .i64 0)))) (
      .ite (.x 9)
       (.chk (.idx (.x 3) (.c (.v (.int .i64 4)))) (
       .op (.get (.x 3) (.c (.v (.int .i64 4))) 0 none) (
       .ite (.x 10)
        (.jump [(.c (.v (.bool true)))])
        (.op (.bin .eql (.cell 0 5) (.c (.v (.string ⟨#[]⟩)))) (
        .jump [(.x 11)])))))
       (.jump [(.c (.v (.bool false)))]))))))
     (.op (.bin .eql (.cell 0 3) (.c (.v (.int .i64 0)))) (
     .ite (.x 8)
      (.chk (.idx (.x 3) (.c (.v (.int .i64 3)))) (
      .op (.get (.x 3) (.c (.v (.int .i64 3))) 0 none) (
      .ite (.x 9)
       (.chk (.idx (.x 3) (.c (.v (.int .i64 4)))) (
       .op (.get (.x 3) (.c (.v (.int .i64 4))) 0 none) (
       .ite (.x 10)
        (.jump [(.c (.v (.bool true)))])
        (.op (.bin .eql (.cell 0 5) (.c (.v (.string ⟨#[]⟩)))) (
        .jump [(.x 11)])))))
       (.op (.bin .eql (.cell 0 4) (.c (.v (.int .i64 0)))) (
       .ite (.x 10)
        (.chk (.idx (.x 3) (.c (.v (.int .i64 4)))) (
        .op (.get (.x 3) (.c (.v (.int .i64 4))) 0 none) (
        .ite (.x 11)
         (.jump [(.c (.v (.bool true)))])
         (.op (.bin .eql (.cell 0 5) (.c (.v (.string ⟨#[]⟩)))) (
         .jump [(.x 12)])))))
        (.jump [(.c (.v (.bool false)))]))))))
      (.jump [(.c (.v (.bool false)))]))))))
    (.jump [(.c (.v (.bool false)))]))))))
  (.op (.bin .eql (.cell 0 1) (.c (.v (.int .i64 0)))) (
  .ite (.x 5)
   (.chk (.idx (.x 3) (.c (.v (.int .i64 1)))) (
   .op (.get (.x 3) (.c (.v (.int .i64 1))) 0 none) (
   .ite (.x 6)
    (.chk (.idx (.x 3) (.c (.v (.int .i64 2)))) (
    .op (.get (.x 3) (.c (.v (.int .i64 2))) 0 none) (
    .ite (.x 7)
     (.chk (.idx (.x 3) (.c (.v (.int .i64 3)))) (
     .op (.get (.x 3) (.c (.v (.int .i64 3))) 0 none) (
     .ite (.x 8)
      (.chk (.idx (.x 3) (.c (.v (.int .i64 4)))) (
      .op (.get (.x 3) (.c (.v (.int .i64 4))) 0 none) (
      .ite (.x 9)
       (.jump [(.c (.v (.bool true)))])
       (.op (.bin .eql (.cell 0 5) (.c (.v (.string ⟨#[]⟩)))) (
       .jump [(.x 10)])))))
      (.op (.bin .eql (.cell 0 4) (.c (.v (.int .i64 0)))) (
      .ite (.x 9)
       (.chk (.idx (.x 3) (.c (.v (.int .i64 4)))) (
       .op (.get (.x 3) (.c (.v (.int .i64 4))) 0 none) (
       .ite (.x 10)
        (.jump [(.c (.v (.bool true)))])
        (.op (.bin .eql (.cell 0 5) (.c (.v (.string ⟨#[]⟩)))) (
        .jump [(.x 11)])))))
       (.jump [(.c (.v (.bool false)))]))))))
     (.op (.bin .eql (.cell 0 3) (.c (.v (.int .i64 0)))) (
     .ite (.x 8)
      (.chk (.idx (.x 3) (.c (.v (.int .i64 3)))) (
      .op (.get (.x 3) (.c (.v (.int .i64 3))) 0 none) (
      .ite (.x 9)
       (.chk (.idx (.x 3) (.c (.v (.int .i64 4)))) (
       .op (.get (.x 3) (.c (.v (.int .i64 4))) 0 none) (
       .ite (.x 10)
        (.jump [(.c (.v (.bool true)))])
        (.op (.bin .eql (.cell 0 5) (.c (.v (.string ⟨#[]⟩)))) (
        .jump [(.x 11)])))))
       (.op (.bin .eql (.cell 0 4) (.c (.v (.int .i64 0)))) (
       .ite (.x 10)
        (.chk (.idx (.x 3) (.c (.v (.int .i64 4)))) (
        .op (.get (.x 3) (.c (.v (.int .i64 4))) 0 none) (
        .ite (.x 11)
         (.jump [(.c (.v (.bool true)))])
         (.op (.bin .eql (.cell 0 5) (.c (.v (.string ⟨#[]⟩)))) (
         .jump [(.x 12)])))))
        (.jump [(.c (.v (.bool false)))]))))))
      (.jump [(.c (.v (.bool false)))]))))))
    (.op (.bin .eql (.cell 0 2) (.c (.v (.int .i64 0)))) (
    .ite (.x 7)
     (.chk (.idx (.x 3) (.c (.v (.int .i64 2)))) (
     .op (.get (.x 3) (.c (.v (.int .i64 2))) 0 none) (
     .ite (.x 8)
      (.chk (.idx (.x 3) (.c (.v (.int .i64 3)))) (
      .op (.get (.x 3) (.c (.v (.int .i64 3))) 0 none) (
      .ite (.x 9)
       (.chk (.idx (.x 3) (.c (.v (.int .i64 4)))) (
       .op (.get (.x 3) (.c (.v (.int .i64 4))) 0 none) (
       .ite (.x 10)
        (.jump [(.c (.v (.bool true)))])
        (.op (.bin .eql (.cell 0 5) (.c (.v (.string ⟨#[]⟩)))) (
        .jump [(.x 11)])))))
       (.op (.bin .eql (.cell 0 4) (.c (.v (.int .i64 0)))) (
       .ite (.x 10)
        (.chk (.idx (.x 3) (.c (.v (.int .i64 4)))) (
        .op (.get (.x 3) (.c (.v (.int .i64 4))) 0 none) (
        .ite (.x 11)
         (.jump [(.c (.v (.bool true)))])
         (.op (.bin .eql (.cell 0 5) (.c (.v (.string ⟨#[]⟩)))) (
         .jump [(.x 12)])))))
        (.jump [(.c (.v (.bool false)))]))))))
      (.op (.bin .eql (.cell 0 3) (.c (.v (.int .i64 0)))) (
      .ite (.x 9)
       (.chk (.idx (.x 3) (.c (.v (.int .i64 3)))) (
       .op (.get (.x 3) (.c (.v (.int .i64 3))) 0 none) (
       .ite (.x 10)
        (.chk (.idx (.x 3) (.c (.v (.int .i64 4)))) (
        .op (.get (.x 3) (.c (.v (.int .i64 4))) 0 none) (
        .ite (.x 11)
         (.jump [(.c (.v (.bool true)))])
         (.op (.bin .eql (.cell 0 5) (.c (.v (.string ⟨#[]⟩)))) (
         .jump [(.x 12)])))))
        (.op (.bin .eql (.cell 0 4) (.c (.v (.int .i64 0)))) (
        .ite (.x 11)
         (.chk (.idx (.x 3) (.c (.v (.int .i64 4)))) (
         .op (.get (.x 3) (.c (.v (.int .i64 4))) 0 none) (
         .ite (.x 12)
          (.jump [(.c (.v (.bool true)))])
          (.op (.bin .eql (.cell 0 5) (.c (.v (.string ⟨#[]⟩)))) (
          .jump [(.x 13)])))))
         (.jump [(.c (.v (.bool false)))]))))))
       (.jump [(.c (.v (.bool false)))]))))))
     (.jump [(.c (.v (.bool false)))]))))))
   (.jump [(.c (.v (.bool false)))])))))) (
.ret [(.x 4)])))))))))
theorem T.spec_l14Zero_l : leftF Tryd.prog CF Tryd.f41 = some (2, T.spec_l14Zero) := by kernel_rfl
theorem T.spec_l14Zero_con {args : List AV} {res : AV} (hl : args.length = 2) (hn : AV.norefs args = true) (hw : wpT Tryd.prog (fun _ _ _ => False) (fun a => a = res) T.spec_l14Zero args []) : PCon Tryd.prog F.spec_l14Zero args res :=
  con_auto Tryd.func41 T.spec_l14Zero_l hl hn hw
def T.spec_l1Chars : T :=
.bind 0 (
 .loop [(.c (.v (.int .i64 0)))] (
  .op (.lenS (.x 0)) (
  .op (.bin .lss (.x 1) (.x 2)) (
  .ite (.x 3)
   (.bind 0 (
    .bind 1 (
     .op (.idxS (.x 0) (.x 1)) (
     .op (.bin .neq (.x 4) (.c (.v (.int .u8 10)))) (
     .ite (.x 5)
      (.op (.idxS (.x 0) (.x 1)) (
      .op (.conv .i64 (.x 6)) (
      .op (.call F.spec_l1In [(.x 7), (.c (.v (.int .i64 32))), (.c (.v (.int .i64 126)))] false) (
      .op (.un .not (.x 8)) (
      .jump [(.x 9)])))))
      (.jump [(.c (.v (.bool false)))])))) (
    .ite (.x 4)
     (.esc (.esc (.esc (.ret [(.c (.v (.bool false)))]))))
     (.jump []))) (
   .op (.bin .add (.x 1) (.c (.v (.int .i64 1)))) (
   .jump [(.x 4)])))
   (.esc (.jump [])))))) (
.ret [(.c (.v (.bool true)))])
theorem T.spec_l1Chars_l : leftF Tryd.prog CF Tryd.f42 = some (1, T.spec_l1Chars) := by kernel_rfl
theorem T.spec_l1Chars_con {args : List AV} {res : AV} (hl : args.length = 1) (hn : AV.norefs args = true) (hw : wpT Tryd.prog (fun _ _ _ => False) (fun a => a = res) T.spec_l1Chars args []) : PCon Tryd.prog F.spec_l1Chars args res :=
  con_auto Tryd.func42 T.spec_l1Chars_l hl hn hw
def T.spec_l14Op : T :=
.chk (.cells (.x 0) 6) (
.bind 0 (
 .bind 1 (
  .op (.bin .eql (.cell 0 5) (.c (.v (.string ⟨#[43]⟩)))) (
  .ite (.x 1)
   (.jump [(.x 1)])
   (.op (.bin .eql (.cell 0 5) (.c (.v (.string ⟨#[45]⟩)))) (
   .ite (.x 2)
    (.jump [(.x 2)])
    (.op (.bin .eql (.cell 0 5) (.c (.v (.string ⟨#[42]⟩)))) (
    .ite (.x 3)
     (.jump [(.x 3)])
     (.op (.bin .eql (.cell 0 5) (.c (.v (.string ⟨#[61]⟩)))) (
     .ite (.x 4)
      (.jump [(.x 4)])
      (.op (.bin .eql (.cell 0 5) (.c (.v (.string ⟨#[60]⟩)))) (
      .ite (.x 5)
       (.jump [(.x 5)])
       (.op (.bin .eql (.cell 0 5) (.c (.v (.string ⟨#[94]⟩)))) (
       .jump [(.x 6)])))))))))))) (
 .ite (.x 1)
  (.chk (.cells (.x 0) 6) (
  .op (.call F.spec_l14Zero [(.x 0), (.c (.v (.string ⟨#[97, 98, 99, 116]⟩)))] false) (
  .esc (.ret [(.x 2)]))))
  (.op (.bin .eql (.cell 0 5) (.c (.v (.string ⟨#[115, 105, 122, 101]⟩)))) (
  .ite (.x 2)
   (.chk (.cells (.x 0) 6) (
   .op (.call F.spec_l14Zero [(.x 0), (.c (.v (.string ⟨#[97, 98, 116]⟩)))] false) (
   .esc (.ret [(.x 3)]))))
   (.op (.bin .eql (.cell 0 5) (.c (.v (.string ⟨#[114, 101, 97, 100]⟩)))) (
   .ite (.x 3)
    (.chk (.cells (.x 0) 6) (
    .op (.call F.spec_l14Zero [(.x 0), (.c (.v (.string ⟨#[97, 116]⟩)))] false) (
    .esc (.ret [(.x 4)]))))
    (.op (.bin .eql (.cell 0 5) (.c (.v (.string ⟨#[112, 114, 105, 110, 116]⟩)))) (
    .ite (.x 4)
     (.chk (.cells (.x 0) 6) (
     .op (.call F.spec_l14Zero [(.x 0), (.c (.v (.string ⟨#[98, 116]⟩)))] false) (
     .esc (.ret [(.x 5)]))))
     (.jump []))))))))) (
.ret [(.c (.v (.bool false)))]))
theorem T.spec_l14Op_l : leftF Tryd.prog CF Tryd.f43 = some (1, T.spec_l14Op) := by kernel_rfl
theorem T.spec_l14Op_con {args : List AV} {res : AV} (hl : args.length = 1) (hn : AV.norefs args = true) (hw : wpT Tryd.prog (fun _ _ _ => False) (fun a => a = res) T.spec_l14Op args []) : PCon Tryd.prog F.spec_l14Op args res :=
  con_auto Tryd.func43 T.spec_l14Op_l hl hn hw
def T.spec_l16Name : T :=
.chk (.one (.c (.v (.string ⟨#[43]⟩)))) (
.chk (.one (.c (.v (.string ⟨#[45]⟩)))) (
.chk (.one (.c (.v (.string ⟨#[42]⟩)))) (
.chk (.one (.c (.v (.string ⟨#[61]⟩)))) (
.chk (.one (.c (.v (.string ⟨#[60]⟩)))) (
.chk (.one (.c (.v (.string ⟨#[94]⟩)))) (
.op (.mkl (.v (.string ⟨#[]⟩)) 6 [(0, (.c (.v (.string ⟨#[43]⟩)))), (1, (.c (.v (.string ⟨#[45]⟩)))), (2, (.c (.v (.string ⟨#[42]⟩)))), (3, (.c (.v (.string ⟨#[61]⟩)))), (4, (.c (.v (.string ⟨#[60]⟩)))), (5, (.c (.v (.string ⟨#[94]⟩))))]) (
.chk (.one (.c (.v (.string ⟨#[97, 100, 100]⟩)))) (
.chk (.one (.c (.v (.string ⟨#[115, 117, 98]⟩)))) (
.chk (.one (.c (.v (.string ⟨#[109, 117, 108]⟩)))) (
.chk (.one (.c (.v (.string ⟨#[101, 113]⟩)))) (
.chk (.one (.c (.v (.string ⟨#[108, 116]⟩)))) (
.chk (.one (.c (.v (.string ⟨#[99, 97, 116]⟩)))) (
.op (.mkl (.v (.string ⟨#[]⟩)) 6 [(0, (.c (.v (.string ⟨#[97, 100, 100]⟩)))), (1, (.c (.v (.string ⟨#[115, 117, 98]⟩)))), (2, (.c (.v (.string ⟨#[109, 117, 108]⟩)))), (3, (.c (.v (.string ⟨#[101, 113]⟩)))), (4, (.c (.v (.string ⟨#[108, 116]⟩)))), (5, (.c (.v (.string ⟨#[99, 97, 116]⟩))))]) (
.bind 0 (
 .loop [(.c (.v (.int .i64 0)))] (
  .op (.bin .lss (.x 3) (.c (.v (.int .i64 6)))) (
  .ite (.x 4)
   (.chk (.idx (.x 1) (.x 3)) (
   .op (.get (.x 1) (.x 3) 0 none) (
   .op (.bin .eql (.x 5) (.x 0)) (
   .ite (.x 6)
    (.chk (.idx (.x 2) (.x 3)) (
    .op (.get (.x 2) (.x 3) 0 none) (
    .esc (.esc (.ret [(.x 7)])))))
    (.op (.bin .add (.x 3) (.c (.v (.int .i64 1)))) (
    .jump [(.x 7)]))))))
   (.esc (.jump []))))) (
.ret [(.x 0)])))))))))))))))
theorem T.spec_l16Name_l : leftF Tryd.prog CF Tryd.f44 = some (1, T.spec_l16Name) := by kernel_rfl
theorem T.spec_l16Name_con {args : List AV} {res : AV} (hl : args.length = 1) (hn : AV.norefs args = true) (hw : wpT Tryd.prog (fun _ _ _ => False) (fun a => a = res) T.spec_l16Name args []) : PCon Tryd.prog F.spec_l16Name args res :=
  con_auto Tryd.func44 T.spec_l16Name_l hl hn hw
def T.slices_IndexFunc__impl_Instr_impl_Instr : T :=
.bind 0 (
 .op (.lenL (.x 0)) (
 .loop [(.c (.v (.int .i64 0)))] (
  .op (.bin .lss (.x 3) (.x 2)) (
  .ite (.x 4)
   (.op (.elem 6 (.x 0) (.x 3)) (
   .chk (.cells (.x 5) 6) (
   .op (.callv (.x 1) [(.x 5)] false) (
   .ite (.x 6)
    (.esc (.esc (.ret [(.x 3)])))
    (.op (.bin .add (.x 3) (.c (.v (.int .i64 1)))) (
    .jump [(.x 7)]))))))
   (.esc (.jump [])))))) (
.ret [(.c (.v (.int .i64 (-1))))])
theorem T.slices_IndexFunc__impl_Instr_impl_Instr_l : leftF Tryd.prog CF Tryd.f45 = some (2, T.slices_IndexFunc__impl_Instr_impl_Instr) := by kernel_rfl
theorem T.slices_IndexFunc__impl_Instr_impl_Instr_con {args : List AV} {res : AV} (hl : args.length = 2) (hn : AV.norefs args = true) (hw : wpT Tryd.prog (fun _ _ _ => False) (fun a => a = res) T.slices_IndexFunc__impl_Instr_impl_Instr args []) : PCon Tryd.prog F.slices_IndexFunc__impl_Instr_impl_Instr args res :=
  con_auto Tryd.func45 T.slices_IndexFunc__impl_Instr_impl_Instr_l hl hn hw
def T.impl_wants : T :=
.chk (.cells (.x 0) 6) (
.bind 0 (
 .bind 1 (
  .op (.bin .eql (.cell 0 0) (.c (.v (.int .i64 1)))) (
  .ite (.x 1)
   (.jump [(.x 1)])
   (.op (.bin .eql (.cell 0 0) (.c (.v (.int .i64 3)))) (
   .ite (.x 2)
    (.jump [(.x 2)])
    (.op (.bin .eql (.cell 0 0) (.c (.v (.int .i64 5)))) (
    .ite (.x 3)
     (.jump [(.x 3)])
     (.op (.bin .eql (.cell 0 0) (.c (.v (.int .i64 6)))) (
     .ite (.x 4)
      (.jump [(.x 4)])
      (.op (.bin .eql (.cell 0 0) (.c (.v (.int .i64 8)))) (
      .ite (.x 5)
       (.jump [(.x 5)])
       (.op (.bin .eql (.cell 0 0) (.c (.v (.int .i64 11)))) (
       .jump [(.x 6)])))))))))))) (
 .ite (.x 1)
  (.esc (.ret [(.c (.v (.string ⟨#[97, 110]⟩))), (.c (.v (.bool true)))]))
  (.op (.bin .eql (.cell 0 0) (.c (.v (.int .i64 2)))) (
  .ite (.x 2)
   (.esc (.ret [(.c (.v (.string ⟨#[97, 116]⟩))), (.c (.v (.bool true)))]))
   (.op (.bin .eql (.cell 0 0) (.c (.v (.int .i64 4)))) (
   .ite (.x 3)
    (.esc (.ret [(.c (.v (.string ⟨#[97, 98]⟩))), (.c (.v (.bool true)))]))
    (.op (.bin .eql (.cell 0 0) (.c (.v (.int .i64 7)))) (
    .ite (.x 4)
     (.bind 1 (
      .op (.bin .eql (.cell 0 5) (.c (.v (.string ⟨#[43]⟩)))) (
      .ite (.x 5)
       (.jump [(.x 5)])
       (.op (.bin .eql (.cell 0 5) (.c (.v (.string ⟨#[45]⟩)))) (
       .ite (.x 6)
        (.jump [(.x 6)])
        (.op (.bin .eql (.cell 0 5) (.c (.v (.string ⟨#[42]⟩)))) (
        .ite (.x 7)
         (.jump [(.x 7)])
         (.op (.bin .eql (.cell 0 5) (.c (.v (.string ⟨#[61]⟩)))) (
         .ite (.x 8)
          (.jump [(.x 8)])
          (.op (.bin .eql (.cell 0 5) (.c (.v (.string ⟨#[60]⟩)))) (
          .ite (.x 9)
           (.jump [(.x 9)])
           (.op (.bin .eql (.cell 0 5) (.c (.v (.string ⟨#[94]⟩)))) (
           .jump [(.x 10)])))))))))))) (
     .ite (.x 5)
      (.esc (.ret [(.c (.v (.string ⟨#[97, 98, 99, 116]⟩))), (.c (.v (.bool true)))]))
      (.op (.bin .eql (.cell 0 5) (.c (.v (.string ⟨#[115, 105, 122, 101]⟩)))) (
      .ite (.x 6)
       (.esc (.ret [(.c (.v (.string ⟨#[97, 98, 116]⟩))), (.c (.v (.bool true)))]))
       (.op (.bin .eql (.cell 0 5) (.c (.v (.string ⟨#[114, 101, 97, 100]⟩)))) (
       .ite (.x 7)
        (.esc (.ret [(.c (.v (.string ⟨#[97, 116]⟩))), (.c (.v (.bool true)))]))
        (.op (.bin .eql (.cell 0 5) (.c (.v (.string ⟨#[112, 114, 105, 110, 116]⟩)))) (
        .ite (.x 8)
         (.esc (.ret [(.c (.v (.string ⟨#[98, 116]⟩))), (.c (.v (.bool true)))]))
         (.jump [])))))))))
     (.bind 1 (
      .op (.bin .eql (.cell 0 0) (.c (.v (.int .i64 9)))) (
      .ite (.x 5)
       (.jump [(.x 5)])
       (.op (.bin .eql (.cell 0 0) (.c (.v (.int .i64 10)))) (
       .jump [(.x 6)])))) (
     .ite (.x 5)
      (.esc (.ret [(.c (.v (.string ⟨#[97, 98, 110]⟩))), (.c (.v (.bool true)))]))
      (.bind 1 (
       .op (.bin .eql (.cell 0 0) (.c (.v (.int .i64 12)))) (
       .ite (.x 6)
        (.jump [(.x 6)])
        (.op (.bin .eql (.cell 0 0) (.c (.v (.int .i64 15)))) (
        .jump [(.x 7)])))) (
      .ite (.x 6)
       (.esc (.ret [(.c (.v (.string ⟨#[110]⟩))), (.c (.v (.bool true)))]))
       (.bind 1 (
        .op (.bin .eql (.cell 0 0) (.c (.v (.int .i64 13)))) (
        .ite (.x 7)
         (.jump [(.x 7)])
         (.op (.bin .eql (.cell 0 0) (.c (.v (.int .i64 14)))) (
         .jump [(.x 8)])))) (
       .ite (.x 7)
        (.esc (.ret [(.c (.v (.string ⟨#[97]⟩))), (.c (.v (.bool true)))]))
        (.jump []))))))))))))))) (
.ret [(.c (.v (.string ⟨#[]⟩))), (.c (.v (.bool false)))]))
theorem T.impl_wants_l : leftF Tryd.prog CF Tryd.f46 = some (1, T.impl_wants) := by kernel_rfl
theorem T.impl_wants_con {args : List AV} {res : AV} (hl : args.length = 1) (hn : AV.norefs args = true) (hw : wpT Tryd.prog (fun _ _ _ => False) (fun a => a = res) T.impl_wants args []) : PCon Tryd.prog F.impl_wants args res :=
  con_auto Tryd.func46 T.impl_wants_l hl hn hw
def T.impl_instrOk_1 : T :=
.op (.ldp none (.x 1)) (
.op (.call F.strings_Contains [(.x 2), (.x 0)] false) (
.ret [(.x 3)]))
theorem T.impl_instrOk_1_l : leftF Tryd.prog CF Tryd.f47 = some (2, T.impl_instrOk_1) := by kernel_rfl
theorem T.impl_instrOk_1_con {args : List AV} {res : AV} (hl : args.length = 2) (hn : AV.norefs args = true) (hw : wpT Tryd.prog (fun _ _ _ => False) (fun a => a = res) T.impl_instrOk_1 args []) : PCon Tryd.prog F.impl_instrOk_1 args res :=
  con_auto Tryd.func47 T.impl_instrOk_1_l hl hn hw
def T.impl_instrOk_2 : T :=
.bind 1 (
 .op (.ldp none (.x 2)) (
 .op (.callv (.x 3) [(.x 0)] false) (
 .ite (.x 4)
  (.op (.call F.impl_within [(.x 1), (.c (.v (.int .i64 0))), (.c (.v (.int .i64 15)))] false) (
  .ite (.x 5)
   (.jump [(.c (.v (.bool true)))])
   (.op (.bin .eql (.x 1) (.c (.v (.int .i64 0)))) (
   .jump [(.x 6)]))))
  (.op (.bin .eql (.x 1) (.c (.v (.int .i64 0)))) (
  .jump [(.x 5)]))))) (
.ret [(.x 3)])
theorem T.impl_instrOk_2_l : leftF Tryd.prog CF Tryd.f49 = some (3, T.impl_instrOk_2) := by kernel_rfl
theorem T.impl_instrOk_2_con {args : List AV} {res : AV} (hl : args.length = 3) (hn : AV.norefs args = true) (hw : wpT Tryd.prog (fun _ _ _ => False) (fun a => a = res) T.impl_instrOk_2 args []) : PCon Tryd.prog F.impl_instrOk_2 args res :=
  con_auto Tryd.func49 T.impl_instrOk_2_l hl hn hw
def T.impl_plain : T :=
.bind 0 (
 .loop [(.c (.v (.int .i64 0)))] (
  .op (.lenS (.x 0)) (
  .op (.bin .lss (.x 1) (.x 2)) (
  .ite (.x 3)
   (.bind 0 (
    .bind 1 (
     .op (.idxS (.x 0) (.x 1)) (
     .op (.conv .i64 (.x 4)) (
     .op (.call F.impl_within [(.x 5), (.c (.v (.int .i64 32))), (.c (.v (.int .i64 126)))] false) (
     .op (.un .not (.x 6)) (
     .ite (.x 7)
      (.op (.idxS (.x 0) (.x 1)) (
      .op (.bin .neq (.x 8) (.c (.v (.int .u8 10)))) (
      .jump [(.x 9)])))
      (.jump [(.c (.v (.bool false)))])))))) (
    .ite (.x 4)
     (.esc (.esc (.esc (.ret [(.c (.v (.bool false)))]))))
     (.jump []))) (
   .op (.bin .add (.x 1) (.c (.v (.int .i64 1)))) (
   .jump [(.x 4)])))
   (.esc (.jump [])))))) (
.ret [(.c (.v (.bool true)))])
theorem T.impl_plain_l : leftF Tryd.prog CF Tryd.f50 = some (1, T.impl_plain) := by kernel_rfl
theorem T.impl_plain_con {args : List AV} {res : AV} (hl : args.length = 1) (hn : AV.norefs args = true) (hw : wpT Tryd.prog (fun _ _ _ => False) (fun a => a = res) T.impl_plain args []) : PCon Tryd.prog F.impl_plain args res :=
  con_auto Tryd.func50 T.impl_plain_l hl hn hw
def T.slices_IndexFunc__int_int : T :=
.bind 0 (
 .op (.lenL (.x 0)) (
 .loop [(.c (.v (.int .i64 0)))] (
  .op (.bin .lss (.x 3) (.x 2)) (
  .ite (.x 4)
   (.op (.elem 1 (.x 0) (.x 3)) (
   .chk (.lt (.x 5) 0) (
   .op (.callv (.x 1) [(.cell 5 0)] false) (
   .ite (.x 6)
    (.esc (.esc (.ret [(.x 3)])))
    (.op (.bin .add (.x 3) (.c (.v (.int .i64 1)))) (
    .jump [(.x 7)]))))))
   (.esc (.jump [])))))) (
.ret [(.c (.v (.int .i64 (-1))))])
theorem T.slices_IndexFunc__int_int_l : leftF Tryd.prog CF Tryd.f51 = some (2, T.slices_IndexFunc__int_int) := by kernel_rfl
theorem T.slices_IndexFunc__int_int_con {args : List AV} {res : AV} (hl : args.length = 2) (hn : AV.norefs args = true) (hw : wpT Tryd.prog (fun _ _ _ => False) (fun a => a = res) T.slices_IndexFunc__int_int args []) : PCon Tryd.prog F.slices_IndexFunc__int_int args res :=
  con_auto Tryd.func51 T.slices_IndexFunc__int_int_l hl hn hw
-- internalstrconv_FormatInt: no walk
end Go.Proofs.Ab
