/-
  WHAT IS LEFT of this seat's functions, printed by a program of ours (wip/tool/Gen2.lean) from the translation; each with the theorem that it is what is left of that function.
-/
import Derived.Test.YtiakemdoealcoaaDoorChecked
import Derived.KernelRfl
import Derived.Test.YtiakemdoealcoaaDoorAbM4
set_option linter.unusedVariables false
set_option linter.unusedSimpArgs false
set_option linter.defProp false
namespace Go.Proofs.Ab
open Go.Ab
set_option maxRecDepth 100000
namespace F
abbrev laws_FnExactSpell : FuncId := 4
abbrev laws_szToken : FuncId := 7
abbrev spec_SpellToken : FuncId := 8
abbrev laws_toToken : FuncId := 9
abbrev impl_SpellToken : FuncId := 10
abbrev laws_szTokenS : FuncId := 11
abbrev spec_Spell : FuncId := 12
abbrev laws_toTokenS : FuncId := 13
abbrev impl_Spell : FuncId := 14
abbrev laws_eqTokenS : FuncId := 15
abbrev spec_TokenOk : FuncId := 26
abbrev spec_l1Decimal : FuncId := 27
abbrev spec_l1Quoted : FuncId := 28
abbrev impl_TokenOk : FuncId := 29
abbrev strconv_Itoa : FuncId := 30
abbrev impl_quoted : FuncId := 31
abbrev strings_Join : FuncId := 32
abbrev laws_eqToken : FuncId := 33
abbrev spec_l1Chars : FuncId := 53
abbrev spec_l1Low : FuncId := 54
abbrev spec_l1Name : FuncId := 55
abbrev spec_l1Key : FuncId := 56
abbrev spec_l1Sign : FuncId := 57
abbrev spec_l1Figures : FuncId := 58
abbrev impl_plain : FuncId := 59
abbrev impl_lowOk : FuncId := 60
abbrev impl_upOk : FuncId := 61
abbrev impl_isName : FuncId := 62
abbrev impl_small : FuncId := 63
abbrev impl_isKey : FuncId := 64
abbrev slices_Contains__string_string : FuncId := 65
abbrev impl_signs : FuncId := 66
abbrev internalstrconv_Itoa : FuncId := 67
abbrev spec_l1In : FuncId := 79
abbrev impl_within : FuncId := 85
abbrev spec_l1Upper : FuncId := 93
abbrev spec_l1Lower : FuncId := 94
abbrev spec_l1NameByte : FuncId := 95
abbrev spec_l1Signs : FuncId := 96
abbrev impl_great : FuncId := 97
abbrev impl_run : FuncId := 98
abbrev impl_nameByte : FuncId := 99
abbrev slices_Index__string_string : FuncId := 100
abbrev internalstrconv_FormatInt : FuncId := 101
abbrev strings_Builder_copyCheck : FuncId := 102
abbrev strings_Builder_grow : FuncId := 103
abbrev spec_l1Num : FuncId := 115
abbrev impl_digit : FuncId := 116
end F
def FL : List Nat := [3, 4, 5, 6, 7, 8, 10, 11, 12, 14, 15, 16, 17, 19, 20, 21, 22, 24, 25, 26, 27, 28, 29, 30, 31, 32, 33, 34, 35, 36, 39, 40, 42, 43, 44, 45, 46, 49, 50, 51, 52, 53, 54, 55, 56, 57, 58, 59, 60, 61, 62, 63, 64, 65, 67, 70, 71, 72, 73, 74, 75, 76, 77, 78, 79, 80, 81, 82, 83, 85, 86, 87, 88, 89, 90, 92, 93, 94, 95, 97, 98, 99, 100, 101, 104, 105, 106, 107, 108, 109, 110, 111, 112, 113, 114, 115, 116, 117, 118, 123, 124, 125, 126, 127, 128, 129, 130, 131, 132, 134, 135, 137]
def FR : List (Nat × Bool × Nat × Nat) := []
def SG : List (Nat × List Sig) := []
abbrev CF : Cfg := ⟨FL, FR, SG, false⟩
def T.laws_FnExactSpell : T :=
.op (.call F.laws_szTokenS [(.x 0), (.c (.v (.int .i64 1048576)))] false) (
.op (.bin .lss (.x 1) (.c (.v (.int .i64 0)))) (
.ite (.x 2)
 (.ret [(.c (.v (.bool true)))])
 (.op (.call F.laws_toTokenS [(.x 0)] false) (
 .op (.call F.spec_Spell [(.x 3)] false) (
 .op (.call F.laws_toTokenS [(.x 0)] false) (
 .op (.call F.impl_Spell [(.x 5)] false) (
 .op (.bin .neq (.x 6) (.x 4)) (
 .ite (.x 7)
  (.ret [(.c (.v (.bool false)))])
  (.op (.call F.laws_toTokenS [(.x 0)] false) (
  .op (.call F.laws_eqTokenS [(.x 5), (.x 8)] false) (
  .op (.un .not (.x 9)) (
  .ite (.x 10)
   (.ret [(.c (.v (.bool false)))])
   (.ret [(.c (.v (.bool true)))])))))))))))))
theorem T.laws_FnExactSpell_l : leftF Tryd.prog CF Tryd.f4 = some (1, T.laws_FnExactSpell) := by kernel_rfl
theorem T.laws_FnExactSpell_con {args : List AV} {res : AV} (hl : args.length = 1) (hn : AV.norefs args = true) (hw : wpT Tryd.prog (fun _ _ _ => False) (fun a => a = res) T.laws_FnExactSpell args []) : PCon Tryd.prog F.laws_FnExactSpell args res :=
  con_auto Tryd.func4 T.laws_FnExactSpell_l hl hn hw
def T.laws_szToken : T :=
.chk (.cells (.x 0) 4) (
.op (.lenS (.cell 0 1)) (
.op (.bin .sub (.x 1) (.x 2)) (
.op (.bin .lss (.x 3) (.c (.v (.int .i64 0)))) (
.ite (.x 4)
 (.ret [(.c (.v (.int .i64 (-1))))])
 (.ret [(.x 3)])))))
theorem T.laws_szToken_l : leftF Tryd.prog CF Tryd.f7 = some (2, T.laws_szToken) := by kernel_rfl
theorem T.laws_szToken_con {args : List AV} {res : AV} (hl : args.length = 2) (hn : AV.norefs args = true) (hw : wpT Tryd.prog (fun _ _ _ => False) (fun a => a = res) T.laws_szToken args []) : PCon Tryd.prog F.laws_szToken args res :=
  con_auto Tryd.func7 T.laws_szToken_l hl hn hw
def T.spec_SpellToken : T :=
.chk (.cells (.x 0) 4) (
.chk (.cells (.x 0) 4) (
.op (.call F.spec_TokenOk [(.x 0)] false) (
.op (.un .not (.x 1)) (
.ite (.x 2)
 (.ret [(.c (.v (.string ⟨#[]⟩)))])
 (.op (.bin .eql (.cell 0 0) (.c (.v (.int .i64 1)))) (
 .ite (.x 3)
  (.op (.call F.spec_l1Decimal [(.cell 0 2)] false) (
  .ret [(.x 4)]))
  (.op (.bin .eql (.cell 0 0) (.c (.v (.int .i64 2)))) (
  .ite (.x 4)
   (.op (.call F.spec_l1Quoted [(.cell 0 1)] false) (
   .ret [(.x 5)]))
   (.op (.bin .eql (.cell 0 0) (.c (.v (.int .i64 5)))) (
   .ite (.x 5)
    (.op (.bin .add (.c (.v (.string ⟨#[39]⟩))) (.cell 0 1)) (
    .ret [(.x 6)]))
    (.ret [(.cell 0 1)])))))))))))
theorem T.spec_SpellToken_l : leftF Tryd.prog CF Tryd.f8 = some (1, T.spec_SpellToken) := by kernel_rfl
theorem T.spec_SpellToken_con {args : List AV} {res : AV} (hl : args.length = 1) (hn : AV.norefs args = true) (hw : wpT Tryd.prog (fun _ _ _ => False) (fun a => a = res) T.spec_SpellToken args []) : PCon Tryd.prog F.spec_SpellToken args res :=
  con_auto Tryd.func8 T.spec_SpellToken_l hl hn hw
def T.laws_toToken : T :=
.chk (.cells (.x 0) 4) (
.chk (.one (.cell 0 0)) (
.chk (.one (.cell 0 1)) (
.chk (.one (.cell 0 2)) (
.chk (.one (.cell 0 3)) (
.chk (.cells (.x 0) 4) (
.chk (.cells (.x 0) 4) (
.ret [(.agg [(.cell 0 0), (.cell 0 1), (.cell 0 2), (.cell 0 3)])])))))))
theorem T.laws_toToken_l : leftF Tryd.prog CF Tryd.f9 = some (1, T.laws_toToken) := by kernel_rfl
theorem T.laws_toToken_con {args : List AV} {res : AV} (hl : args.length = 1) (hn : AV.norefs args = true) (hw : wpT Tryd.prog (fun _ _ _ => False) (fun a => a = res) T.laws_toToken args []) : PCon Tryd.prog F.laws_toToken args res :=
  con_auto Tryd.func9 T.laws_toToken_l hl hn hw
def T.impl_SpellToken : T :=
.chk (.cells (.x 0) 4) (
.chk (.cells (.x 0) 4) (
.op (.call F.impl_TokenOk [(.x 0)] false) (
.op (.un .not (.x 1)) (
.ite (.x 2)
 (.ret [(.c (.v (.string ⟨#[]⟩)))])
 (.op (.bin .eql (.cell 0 0) (.c (.v (.int .i64 1)))) (
 .ite (.x 3)
  (.op (.call F.strconv_Itoa [(.cell 0 2)] false) (
  .ret [(.x 4)]))
  (.op (.bin .eql (.cell 0 0) (.c (.v (.int .i64 2)))) (
  .ite (.x 4)
   (.op (.call F.impl_quoted [(.cell 0 1)] false) (
   .ret [(.x 5)]))
   (.op (.bin .eql (.cell 0 0) (.c (.v (.int .i64 5)))) (
   .ite (.x 5)
    (.op (.bin .add (.c (.v (.string ⟨#[39]⟩))) (.cell 0 1)) (
    .ret [(.x 6)]))
    (.ret [(.cell 0 1)])))))))))))
theorem T.impl_SpellToken_l : leftF Tryd.prog CF Tryd.f10 = some (1, T.impl_SpellToken) := by kernel_rfl
theorem T.impl_SpellToken_con {args : List AV} {res : AV} (hl : args.length = 1) (hn : AV.norefs args = true) (hw : wpT Tryd.prog (fun _ _ _ => False) (fun a => a = res) T.impl_SpellToken args []) : PCon Tryd.prog F.impl_SpellToken args res :=
  con_auto Tryd.func10 T.impl_SpellToken_l hl hn hw
def T.laws_szTokenS : T :=
.op (.lenL (.x 0)) (
.op (.bin .sub (.x 1) (.x 2)) (
.op (.bin .lss (.x 3) (.c (.v (.int .i64 0)))) (
.ite (.x 4)
 (.ret [(.c (.v (.int .i64 (-1))))])
 (.bind 1 (
  .loop [(.x 3), (.c (.v (.int .i64 0)))] (
   .op (.lenL (.x 0)) (
   .op (.bin .lss (.x 6) (.x 7)) (
   .ite (.x 8)
    (.op (.elem 4 (.x 0) (.x 6)) (
    .chk (.cells (.x 9) 4) (
    .op (.call F.laws_szToken [(.x 9), (.x 5)] false) (
    .op (.bin .lss (.x 10) (.c (.v (.int .i64 0)))) (
    .ite (.x 11)
     (.esc (.esc (.ret [(.c (.v (.int .i64 (-1))))])))
     (.op (.bin .add (.x 6) (.c (.v (.int .i64 1)))) (
     .jump [(.x 10), (.x 12)])))))))
    (.esc (.jump [(.x 5)])))))) (
 .ret [(.x 5)])))))
theorem T.laws_szTokenS_l : leftF Tryd.prog CF Tryd.f11 = some (2, T.laws_szTokenS) := by kernel_rfl
theorem T.laws_szTokenS_con {args : List AV} {res : AV} (hl : args.length = 2) (hn : AV.norefs args = true) (hw : wpT Tryd.prog (fun _ _ _ => False) (fun a => a = res) T.laws_szTokenS args []) : PCon Tryd.prog F.laws_szTokenS args res :=
  con_auto Tryd.func11 T.laws_szTokenS_l hl hn hw
def T.spec_Spell : T :=
.op (.lenL (.x 0)) (
.op (.bin .gtr (.x 1) (.c (.v (.int .i64 1200)))) (
.ite (.x 2)
 (.ret [(.c (.v (.string ⟨#[]⟩)))])
 (.bind 0 (
  .loop [(.c (.v (.int .i64 0)))] (
   .op (.lenL (.x 0)) (
   .op (.bin .lss (.x 3) (.x 4)) (
   .ite (.x 5)
    (.bind 0 (
     .bind 1 (
      .op (.elem 4 (.x 0) (.x 3)) (
      .chk (.cells (.x 6) 4) (
      .op (.call F.spec_TokenOk [(.x 6)] false) (
      .op (.un .not (.x 7)) (
      .ite (.x 8)
       (.jump [(.c (.v (.bool true)))])
       (.op (.elem 4 (.x 0) (.x 3)) (
       .chk (.lt (.x 9) 0) (
       .op (.bin .eql (.cell 9 0) (.c (.v (.int .i64 8)))) (
       .jump [(.x 10)]))))))))) (
     .ite (.x 6)
      (.esc (.esc (.esc (.ret [(.c (.v (.string ⟨#[]⟩)))]))))
      (.jump []))) (
    .op (.bin .add (.x 3) (.c (.v (.int .i64 1)))) (
    .jump [(.x 6)])))
    (.esc (.jump [])))))) (
 .op (.mkl (.v (.int .u8 0)) 0 []) (
 .bind 1 (
  .loop [(.x 3), (.c (.v (.int .i64 0)))] (
   .op (.lenL (.x 0)) (
   .op (.bin .lss (.x 5) (.x 6)) (
   .ite (.x 7)
    (.bind 1 (
     .bind 1 (
      .op (.bin .gtr (.x 5) (.c (.v (.int .i64 0)))) (
      .ite (.x 8)
       (.chk (.one (.c (.v (.int .u8 32)))) (
       .op (.mkl (.v (.int .u8 0)) 1 [(0, (.c (.v (.int .u8 32))))]) (
       .op (.app 1 1 (.x 4) (.sl (.x 9))) (
       .jump [(.x 10)]))))
       (.jump [(.x 4)]))) (
     .op (.elem 4 (.x 0) (.x 5)) (
     .chk (.cells (.x 9) 4) (
     .op (.call F.spec_SpellToken [(.x 9)] false) (
     .op (.appS 1 1 (.x 8) (.x 10)) (
     .jump [(.x 11)])))))) (
    .op (.bin .add (.x 5) (.c (.v (.int .i64 1)))) (
    .jump [(.x 8), (.x 9)])))
    (.esc (.jump [(.x 4)])))))) (
 .op (.pu .b2s [(.sl (.x 4))]) (
 .ret [(.x 5)])))))))
theorem T.spec_Spell_l : leftF Tryd.prog CF Tryd.f12 = some (1, T.spec_Spell) := by kernel_rfl
theorem T.spec_Spell_con {args : List AV} {res : AV} (hl : args.length = 1) (hn : AV.norefs args = true) (hw : wpT Tryd.prog (fun _ _ _ => False) (fun a => a = res) T.spec_Spell args []) : PCon Tryd.prog F.spec_Spell args res :=
  con_auto Tryd.func12 T.spec_Spell_l hl hn hw
def T.laws_toTokenS : T :=
.op (.lenL (.x 0)) (
.op (.rep 40 (.agg [(.v (.int .i64 0)), (.v (.string ⟨#[]⟩)), (.v (.int .i64 0)), (.v (.int .i64 0))]) (.x 1) (.x 1)) (
.bind 1 (
 .loop [(.x 2), (.c (.v (.int .i64 0)))] (
  .op (.lenL (.x 0)) (
  .op (.bin .lss (.x 4) (.x 5)) (
  .ite (.x 6)
   (.op (.elem 4 (.x 0) (.x 4)) (
   .chk (.cells (.x 7) 4) (
   .op (.call F.laws_toToken [(.x 7)] false) (
   .chk (.idx (.x 3) (.x 4)) (
   .chk (.cells (.x 8) 4) (
   .op (.set (.x 3) (.x 4) 0 4 (.x 8)) (
   .op (.bin .add (.x 4) (.c (.v (.int .i64 1)))) (
   .jump [(.x 9), (.x 10)]))))))))
   (.esc (.jump [(.x 3)])))))) (
.ret [(.sl (.x 3))])))
theorem T.laws_toTokenS_l : leftF Tryd.prog CF Tryd.f13 = some (1, T.laws_toTokenS) := by kernel_rfl
theorem T.laws_toTokenS_con {args : List AV} {res : AV} (hl : args.length = 1) (hn : AV.norefs args = true) (hw : wpT Tryd.prog (fun _ _ _ => False) (fun a => a = res) T.laws_toTokenS args []) : PCon Tryd.prog F.laws_toTokenS args res :=
  con_auto Tryd.func13 T.laws_toTokenS_l hl hn hw
def T.impl_Spell : T :=
.op (.lenL (.x 0)) (
.op (.bin .gtr (.x 1) (.c (.v (.int .i64 1200)))) (
.ite (.x 2)
 (.ret [(.c (.v (.string ⟨#[]⟩)))])
 (.bind 1 (
  .op (.lenL (.x 0)) (
  .loop [(.c (.sl [])), (.c (.v (.int .i64 0)))] (
   .op (.bin .lss (.x 5) (.x 3)) (
   .ite (.x 6)
    (.bind 6 (
     .op (.elem 4 (.x 0) (.x 5)) (
     .chk (.cells (.x 7) 4) (
     .chk (.cells (.x 7) 4) (
     .bind 0 (
      .bind 1 (
       .chk (.cells (.x 7) 4) (
       .op (.call F.impl_TokenOk [(.x 7)] false) (
       .op (.un .not (.x 8)) (
       .ite (.x 9)
        (.jump [(.c (.v (.bool true)))])
        (.op (.bin .eql (.cell 7 0) (.c (.v (.int .i64 8)))) (
        .jump [(.x 10)])))))) (
      .ite (.x 8)
       (.esc (.esc (.esc (.esc (.ret [(.c (.v (.string ⟨#[]⟩)))])))))
       (.jump []))) (
     .chk (.cells (.x 7) 4) (
     .op (.call F.impl_SpellToken [(.x 7)] false) (
     .chk (.one (.x 8)) (
     .op (.mkl (.v (.string ⟨#[]⟩)) 1 [(0, (.x 8))]) (
     .op (.app 1 16 (.x 4) (.sl (.x 9))) (
     .jump [(.x 10), (.cell 7 0), (.cell 7 1), (.cell 7 2), (.cell 7 3), (.x 9)])))))))))) (
    .op (.bin .add (.x 5) (.c (.v (.int .i64 1)))) (
    .jump [(.x 7), (.x 13)])))
    (.esc (.jump [(.x 4)])))))) (
 .op (.call F.strings_Join [(.sl (.x 3)), (.c (.v (.string ⟨#[32]⟩)))] true) (
 .ret [(.x 4)])))))
theorem T.impl_Spell_l : leftF Tryd.prog CF Tryd.f14 = some (1, T.impl_Spell) := by kernel_rfl
theorem T.impl_Spell_con {args : List AV} {res : AV} (hl : args.length = 1) (hn : AV.norefs args = true) (hw : wpT Tryd.prog (fun _ _ _ => False) (fun a => a = res) T.impl_Spell args []) : PCon Tryd.prog F.impl_Spell args res :=
  con_auto Tryd.func14 T.impl_Spell_l hl hn hw
def T.laws_eqTokenS : T :=
.op (.lenL (.x 0)) (
.op (.lenL (.x 1)) (
.op (.bin .neq (.x 2) (.x 3)) (
.ite (.x 4)
 (.ret [(.c (.v (.bool false)))])
 (.bind 0 (
  .loop [(.c (.v (.int .i64 0)))] (
   .op (.lenL (.x 0)) (
   .op (.bin .lss (.x 5) (.x 6)) (
   .ite (.x 7)
    (.op (.elem 4 (.x 0) (.x 5)) (
    .chk (.cells (.x 8) 4) (
    .op (.elem 4 (.x 1) (.x 5)) (
    .chk (.cells (.x 9) 4) (
    .op (.call F.laws_eqToken [(.x 8), (.x 9)] true) (
    .op (.un .not (.x 10)) (
    .ite (.x 11)
     (.esc (.esc (.ret [(.c (.v (.bool false)))])))
     (.op (.bin .add (.x 5) (.c (.v (.int .i64 1)))) (
     .jump [(.x 12)])))))))))
    (.esc (.jump [])))))) (
 .ret [(.c (.v (.bool true)))])))))
theorem T.laws_eqTokenS_l : leftF Tryd.prog CF Tryd.f15 = some (2, T.laws_eqTokenS) := by kernel_rfl
theorem T.laws_eqTokenS_con {args : List AV} {res : AV} (hl : args.length = 2) (hn : AV.norefs args = true) (hw : wpT Tryd.prog (fun _ _ _ => False) (fun a => a = res) T.laws_eqTokenS args []) : PCon Tryd.prog F.laws_eqTokenS args res :=
  con_auto Tryd.func15 T.laws_eqTokenS_l hl hn hw
def T.spec_TokenOk : T :=
.chk (.cells (.x 0) 4) (
.bind 0 (
 .bind 1 (
  .op (.bin .lss (.cell 0 3) (.c (.v (.int .i64 0)))) (
  .ite (.x 1)
   (.jump [(.c (.v (.bool true)))])
   (.op (.bin .neq (.cell 0 0) (.c (.v (.int .i64 1)))) (
   .ite (.x 2)
    (.op (.bin .neq (.cell 0 2) (.c (.v (.int .i64 0)))) (
    .jump [(.x 3)]))
    (.jump [(.c (.v (.bool false)))]))))) (
 .ite (.x 1)
  (.esc (.ret [(.c (.v (.bool false)))]))
  (.jump []))) (
.bind 0 (
 .op (.bin .eql (.cell 0 0) (.c (.v (.int .i64 1)))) (
 .ite (.x 1)
  (.bind 1 (
   .op (.bin .geq (.cell 0 2) (.c (.v (.int .i64 0)))) (
   .ite (.x 2)
    (.op (.bin .eql (.cell 0 1) (.c (.v (.string ⟨#[]⟩)))) (
    .jump [(.x 3)]))
    (.jump [(.c (.v (.bool false)))]))) (
  .esc (.ret [(.x 2)])))
  (.op (.bin .eql (.cell 0 0) (.c (.v (.int .i64 2)))) (
  .ite (.x 2)
   (.op (.call F.spec_l1Chars [(.cell 0 1)] false) (
   .esc (.ret [(.x 3)])))
   (.op (.bin .eql (.cell 0 0) (.c (.v (.int .i64 3)))) (
   .ite (.x 3)
    (.op (.call F.spec_l1Low [(.cell 0 1)] false) (
    .esc (.ret [(.x 4)])))
    (.op (.bin .eql (.cell 0 0) (.c (.v (.int .i64 4)))) (
    .ite (.x 4)
     (.op (.call F.spec_l1Name [(.cell 0 1), (.c (.v (.bool true)))] false) (
     .esc (.ret [(.x 5)])))
     (.op (.bin .eql (.cell 0 0) (.c (.v (.int .i64 5)))) (
     .ite (.x 5)
      (.op (.call F.spec_l1Name [(.cell 0 1), (.c (.v (.bool false)))] false) (
      .esc (.ret [(.x 6)])))
      (.op (.bin .eql (.cell 0 0) (.c (.v (.int .i64 6)))) (
      .ite (.x 6)
       (.op (.call F.spec_l1Key [(.cell 0 1)] false) (
       .esc (.ret [(.x 7)])))
       (.op (.bin .eql (.cell 0 0) (.c (.v (.int .i64 7)))) (
       .ite (.x 7)
        (.op (.call F.spec_l1Sign [(.cell 0 1)] false) (
        .esc (.ret [(.x 8)])))
        (.op (.bin .eql (.cell 0 0) (.c (.v (.int .i64 8)))) (
        .ite (.x 8)
         (.op (.bin .eql (.cell 0 1) (.c (.v (.string ⟨#[]⟩)))) (
         .esc (.ret [(.x 9)])))
         (.jump []))))))))))))))))) (
.ret [(.c (.v (.bool false)))])))
theorem T.spec_TokenOk_l : leftF Tryd.prog CF Tryd.f26 = some (1, T.spec_TokenOk) := by kernel_rfl
theorem T.spec_TokenOk_con {args : List AV} {res : AV} (hl : args.length = 1) (hn : AV.norefs args = true) (hw : wpT Tryd.prog (fun _ _ _ => False) (fun a => a = res) T.spec_TokenOk args []) : PCon Tryd.prog F.spec_TokenOk args res :=
  con_auto Tryd.func26 T.spec_TokenOk_l hl hn hw
def T.spec_l1Decimal : T :=
.op (.bin .lss (.x 0) (.c (.v (.int .i64 0)))) (
.ite (.x 1)
 (.op (.bin .add (.x 0) (.c (.v (.int .i64 1)))) (
 .op (.un .neg (.x 2)) (
 .op (.conv .u64 (.x 3)) (
 .op (.bin .add (.x 4) (.c (.v (.int .u64 1)))) (
 .op (.call F.spec_l1Figures [(.x 5)] false) (
 .op (.bin .add (.c (.v (.string ⟨#[45]⟩))) (.x 6)) (
 .ret [(.x 7)])))))))
 (.op (.conv .u64 (.x 0)) (
 .op (.call F.spec_l1Figures [(.x 2)] false) (
 .ret [(.x 3)]))))
theorem T.spec_l1Decimal_l : leftF Tryd.prog CF Tryd.f27 = some (1, T.spec_l1Decimal) := by kernel_rfl
theorem T.spec_l1Decimal_con {args : List AV} {res : AV} (hl : args.length = 1) (hn : AV.norefs args = true) (hw : wpT Tryd.prog (fun _ _ _ => False) (fun a => a = res) T.spec_l1Decimal args []) : PCon Tryd.prog F.spec_l1Decimal args res :=
  con_auto Tryd.func27 T.spec_l1Decimal_l hl hn hw
def T.spec_l1Quoted : T :=
.chk (.one (.c (.v (.int .u8 34)))) (
.op (.mkl (.v (.int .u8 0)) 1 [(0, (.c (.v (.int .u8 34))))]) (
.bind 1 (
 .loop [(.x 1), (.c (.v (.int .i64 0)))] (
  .op (.lenS (.x 0)) (
  .op (.bin .lss (.x 3) (.x 4)) (
  .ite (.x 5)
   (.bind 2 (
    .op (.idxS (.x 0) (.x 3)) (
    .op (.bin .eql (.x 6) (.c (.v (.int .u8 10)))) (
    .ite (.x 7)
     (.chk (.one (.c (.v (.int .u8 92)))) (
     .chk (.one (.c (.v (.int .u8 110)))) (
     .op (.mkl (.v (.int .u8 0)) 2 [(0, (.c (.v (.int .u8 92)))), (1, (.c (.v (.int .u8 110))))]) (
     .op (.app 1 1 (.x 2) (.sl (.x 8))) (
     .jump [(.x 9), (.x 8)])))))
     (.bind 1 (
      .op (.bin .eql (.x 6) (.c (.v (.int .u8 34)))) (
      .ite (.x 8)
       (.jump [(.x 8)])
       (.op (.bin .eql (.x 6) (.c (.v (.int .u8 92)))) (
       .jump [(.x 9)])))) (
     .ite (.x 8)
      (.op (.idxS (.x 0) (.x 3)) (
      .chk (.one (.c (.v (.int .u8 92)))) (
      .chk (.one (.x 9)) (
      .op (.mkl (.v (.int .u8 0)) 2 [(0, (.c (.v (.int .u8 92)))), (1, (.x 9))]) (
      .op (.app 1 1 (.x 2) (.sl (.x 10))) (
      .jump [(.x 11), (.x 10)]))))))
      (.op (.idxS (.x 0) (.x 3)) (
      .chk (.one (.x 9)) (
      .op (.mkl (.v (.int .u8 0)) 1 [(0, (.x 9))]) (
      .op (.app 1 1 (.x 2) (.sl (.x 10))) (
      .jump [(.x 11), (.x 10)])))))))))) (
   .op (.bin .add (.x 3) (.c (.v (.int .i64 1)))) (
   .jump [(.x 6), (.x 8)])))
   (.esc (.jump [(.x 2)])))))) (
.chk (.one (.c (.v (.int .u8 34)))) (
.op (.mkl (.v (.int .u8 0)) 1 [(0, (.c (.v (.int .u8 34))))]) (
.op (.app 1 1 (.x 2) (.sl (.x 3))) (
.op (.pu .b2s [(.sl (.x 4))]) (
.ret [(.x 5)])))))))
theorem T.spec_l1Quoted_l : leftF Tryd.prog CF Tryd.f28 = some (1, T.spec_l1Quoted) := by kernel_rfl
theorem T.spec_l1Quoted_con {args : List AV} {res : AV} (hl : args.length = 1) (hn : AV.norefs args = true) (hw : wpT Tryd.prog (fun _ _ _ => False) (fun a => a = res) T.spec_l1Quoted args []) : PCon Tryd.prog F.spec_l1Quoted args res :=
  con_auto Tryd.func28 T.spec_l1Quoted_l hl hn hw
def T.impl_TokenOk : T :=
.chk (.cells (.x 0) 4) (
.bind 0 (
 .bind 1 (
  .op (.bin .lss (.cell 0 3) (.c (.v (.int .i64 0)))) (
  .ite (.x 1)
   (.jump [(.c (.v (.bool true)))])
   (.op (.bin .lss (.cell 0 2) (.c (.v (.int .i64 0)))) (
   .ite (.x 2)
    (.jump [(.c (.v (.bool true)))])
    (.op (.bin .neq (.cell 0 0) (.c (.v (.int .i64 1)))) (
    .ite (.x 3)
     (.op (.bin .neq (.cell 0 2) (.c (.v (.int .i64 0)))) (
     .jump [(.x 4)]))
     (.jump [(.c (.v (.bool false)))]))))))) (
 .ite (.x 1)
  (.esc (.ret [(.c (.v (.bool false)))]))
  (.jump []))) (
.bind 0 (
 .bind 1 (
  .op (.bin .eql (.cell 0 0) (.c (.v (.int .i64 1)))) (
  .ite (.x 1)
   (.jump [(.x 1)])
   (.op (.bin .eql (.cell 0 0) (.c (.v (.int .i64 8)))) (
   .jump [(.x 2)])))) (
 .ite (.x 1)
  (.op (.bin .eql (.cell 0 1) (.c (.v (.string ⟨#[]⟩)))) (
  .esc (.ret [(.x 2)])))
  (.op (.bin .eql (.cell 0 0) (.c (.v (.int .i64 2)))) (
  .ite (.x 2)
   (.op (.call F.impl_plain [(.cell 0 1)] false) (
   .esc (.ret [(.x 3)])))
   (.op (.bin .eql (.cell 0 0) (.c (.v (.int .i64 3)))) (
   .ite (.x 3)
    (.op (.call F.impl_lowOk [(.cell 0 1)] false) (
    .esc (.ret [(.x 4)])))
    (.op (.bin .eql (.cell 0 0) (.c (.v (.int .i64 4)))) (
    .ite (.x 4)
     (.op (.call F.impl_upOk [(.cell 0 1)] false) (
     .esc (.ret [(.x 5)])))
     (.op (.bin .eql (.cell 0 0) (.c (.v (.int .i64 5)))) (
     .ite (.x 5)
      (.op (.call F.impl_isName [(.cell 0 1), (.c (.fn F.impl_small []))] false) (
      .esc (.ret [(.x 6)])))
      (.op (.bin .eql (.cell 0 0) (.c (.v (.int .i64 6)))) (
      .ite (.x 6)
       (.op (.call F.impl_isKey [(.cell 0 1)] false) (
       .esc (.ret [(.x 7)])))
       (.op (.bin .eql (.cell 0 0) (.c (.v (.int .i64 7)))) (
       .ite (.x 7)
        (.op (.call F.impl_signs [] false) (
        .op (.call F.slices_Contains__string_string [(.x 8), (.cell 0 1)] true) (
        .esc (.ret [(.x 9)]))))
        (.jump []))))))))))))))) (
.ret [(.c (.v (.bool false)))])))
theorem T.impl_TokenOk_l : leftF Tryd.prog CF Tryd.f29 = some (1, T.impl_TokenOk) := by kernel_rfl
theorem T.impl_TokenOk_con {args : List AV} {res : AV} (hl : args.length = 1) (hn : AV.norefs args = true) (hw : wpT Tryd.prog (fun _ _ _ => False) (fun a => a = res) T.impl_TokenOk args []) : PCon Tryd.prog F.impl_TokenOk args res :=
  con_auto Tryd.func29 T.impl_TokenOk_l hl hn hw
def T.strconv_Itoa : T :=
.op (.call F.internalstrconv_Itoa [(.x 0)] false) (
.ret [(.x 1)])
def T.impl_quoted : T :=
.chk (.one (.c (.v (.int .u8 34)))) (
.op (.mkl (.v (.int .u8 0)) 1 [(0, (.c (.v (.int .u8 34))))]) (
.bind 1 (
 .loop [(.x 1), (.c (.v (.int .i64 0)))] (
  .op (.lenS (.x 0)) (
  .op (.bin .lss (.x 3) (.x 4)) (
  .ite (.x 5)
   (.bind 2 (
    .op (.idxS (.x 0) (.x 3)) (
    .op (.bin .eql (.x 6) (.c (.v (.int .u8 10)))) (
    .ite (.x 7)
     (.chk (.one (.c (.v (.int .u8 92)))) (
     .chk (.one (.c (.v (.int .u8 110)))) (
     .op (.mkl (.v (.int .u8 0)) 2 [(0, (.c (.v (.int .u8 92)))), (1, (.c (.v (.int .u8 110))))]) (
     .op (.app 1 1 (.x 2) (.sl (.x 8))) (
     .jump [(.x 9), (.x 8)])))))
     (.bind 1 (
      .op (.bin .eql (.x 6) (.c (.v (.int .u8 34)))) (
      .ite (.x 8)
       (.jump [(.x 8)])
       (.op (.bin .eql (.x 6) (.c (.v (.int .u8 92)))) (
       .jump [(.x 9)])))) (
     .ite (.x 8)
      (.op (.idxS (.x 0) (.x 3)) (
      .chk (.one (.c (.v (.int .u8 92)))) (
      .chk (.one (.x 9)) (
      .op (.mkl (.v (.int .u8 0)) 2 [(0, (.c (.v (.int .u8 92)))), (1, (.x 9))]) (
      .op (.app 1 1 (.x 2) (.sl (.x 10))) (
      .jump [(.x 11), (.x 10)]))))))
      (.op (.idxS (.x 0) (.x 3)) (
      .chk (.one (.x 9)) (
      .op (.mkl (.v (.int .u8 0)) 1 [(0, (.x 9))]) (
      .op (.app 1 1 (.x 2) (.sl (.x 10))) (
      .jump [(.x 11), (.x 10)])))))))))) (
   .op (.bin .add (.x 3) (.c (.v (.int .i64 1)))) (
   .jump [(.x 6), (.x 8)])))
   (.esc (.jump [(.x 2)])))))) (
.chk (.one (.c (.v (.int .u8 34)))) (
.op (.mkl (.v (.int .u8 0)) 1 [(0, (.c (.v (.int .u8 34))))]) (
.op (.app 1 1 (.x 2) (.sl (.x 3))) (
.op (.pu .b2s [(.sl (.x 4))]) (
.ret [(.x 5)])))))))
theorem T.impl_quoted_l : leftF Tryd.prog CF Tryd.f31 = some (1, T.impl_quoted) := by kernel_rfl
theorem T.impl_quoted_con {args : List AV} {res : AV} (hl : args.length = 1) (hn : AV.norefs args = true) (hw : wpT Tryd.prog (fun _ _ _ => False) (fun a => a = res) T.impl_quoted args []) : PCon Tryd.prog F.impl_quoted args res :=
  con_auto Tryd.func31 T.impl_quoted_l hl hn hw
-- strings_Join: no walk
def T.laws_eqToken : T :=
.chk (.cells (.x 0) 4) (
.chk (.cells (.x 1) 4) (
.op (.bin .neq (.cell 0 0) (.cell 1 0)) (
.ite (.x 2)
 (.ret [(.c (.v (.bool false)))])
 (.op (.bin .neq (.cell 0 1) (.cell 1 1)) (
 .ite (.x 3)
  (.ret [(.c (.v (.bool false)))])
  (.op (.bin .neq (.cell 0 2) (.cell 1 2)) (
  .ite (.x 4)
   (.ret [(.c (.v (.bool false)))])
   (.op (.bin .neq (.cell 0 3) (.cell 1 3)) (
   .ite (.x 5)
    (.ret [(.c (.v (.bool false)))])
    (.ret [(.c (.v (.bool true)))]))))))))))
theorem T.laws_eqToken_l : leftF Tryd.prog CF Tryd.f33 = some (2, T.laws_eqToken) := by kernel_rfl
theorem T.laws_eqToken_con {args : List AV} {res : AV} (hl : args.length = 2) (hn : AV.norefs args = true) (hw : wpT Tryd.prog (fun _ _ _ => False) (fun a => a = res) T.laws_eqToken args []) : PCon Tryd.prog F.laws_eqToken args res :=
  con_auto Tryd.func33 T.laws_eqToken_l hl hn hw
def T.spec_l1Chars : T :=
.bind 0 (
 .loop [(.c (.v (.int .i64 0)))] (
  .op (.lenS (.x 0)) (
  .op (.bin .lss (.x 1) (.x 2)) (
  .ite (.x 3)
   (.bind 0 (
    .bind 1 (
     .op (.idxS (.x 0) (.x 1)) (
     .op (.bin .neq (.x 4) (.c (.v (.int .u8 10)))) (
     .ite (.x 5)
      (.op (.idxS (.x 0) (.x 1)) (
      .op (.conv .i64 (.x 6)) (
      .op (.call F.spec_l1In [(.x 7), (.c (.v (.int .i64 32))), (.c (.v (.int .i64 126)))] false) (
      .op (.un .not (.x 8)) (
      .jump [(.x 9)])))))
      (.jump [(.c (.v (.bool false)))])))) (
    .ite (.x 4)
     (.esc (.esc (.esc (.ret [(.c (.v (.bool false)))]))))
     (.jump []))) (
   .op (.bin .add (.x 1) (.c (.v (.int .i64 1)))) (
   .jump [(.x 4)])))
   (.esc (.jump [])))))) (
.ret [(.c (.v (.bool true)))])
theorem T.spec_l1Chars_l : leftF Tryd.prog CF Tryd.f53 = some (1, T.spec_l1Chars) := by kernel_rfl
theorem T.spec_l1Chars_con {args : List AV} {res : AV} (hl : args.length = 1) (hn : AV.norefs args = true) (hw : wpT Tryd.prog (fun _ _ _ => False) (fun a => a = res) T.spec_l1Chars args []) : PCon Tryd.prog F.spec_l1Chars args res :=
  con_auto Tryd.func53 T.spec_l1Chars_l hl hn hw
def T.spec_l1Low : T :=
.bind 1 (
 .op (.call F.spec_l1Name [(.x 0), (.c (.v (.bool false)))] false) (
 .ite (.x 1)
  (.op (.call F.spec_l1Key [(.x 0)] false) (
  .op (.un .not (.x 2)) (
  .jump [(.x 3)])))
  (.jump [(.c (.v (.bool false)))]))) (
.ret [(.x 1)])
theorem T.spec_l1Low_l : leftF Tryd.prog CF Tryd.f54 = some (1, T.spec_l1Low) := by kernel_rfl
theorem T.spec_l1Low_con {args : List AV} {res : AV} (hl : args.length = 1) (hn : AV.norefs args = true) (hw : wpT Tryd.prog (fun _ _ _ => False) (fun a => a = res) T.spec_l1Low args []) : PCon Tryd.prog F.spec_l1Low args res :=
  con_auto Tryd.func54 T.spec_l1Low_l hl hn hw
def T.spec_l1Name : T :=
.bind 0 (
 .bind 1 (
  .op (.lenS (.x 0)) (
  .op (.call F.spec_l1In [(.x 2), (.c (.v (.int .i64 1))), (.c (.v (.int .i64 12)))] false) (
  .op (.un .not (.x 3)) (
  .ite (.x 4)
   (.jump [(.c (.v (.bool true)))])
   (.op (.idxS (.x 0) (.c (.v (.int .i64 0)))) (
   .op (.conv .i64 (.x 5)) (
   .op (.call F.spec_l1Upper [(.x 6)] false) (
   .op (.beq true (.x 1) (.x 7)) (
   .ite (.x 8)
    (.jump [(.c (.v (.bool true)))])
    (.op (.un .not (.x 1)) (
    .ite (.x 9)
     (.op (.idxS (.x 0) (.c (.v (.int .i64 0)))) (
     .op (.conv .i64 (.x 10)) (
     .op (.call F.spec_l1Lower [(.x 11)] false) (
     .op (.un .not (.x 12)) (
     .jump [(.x 13)])))))
     (.jump [(.c (.v (.bool false)))])))))))))))) (
 .ite (.x 2)
  (.esc (.ret [(.c (.v (.bool false)))]))
  (.jump []))) (
.bind 0 (
 .loop [(.c (.v (.int .i64 0)))] (
  .op (.lenS (.x 0)) (
  .op (.bin .lss (.x 2) (.x 3)) (
  .ite (.x 4)
   (.op (.idxS (.x 0) (.x 2)) (
   .op (.conv .i64 (.x 5)) (
   .op (.call F.spec_l1NameByte [(.x 6)] false) (
   .op (.un .not (.x 7)) (
   .ite (.x 8)
    (.esc (.esc (.ret [(.c (.v (.bool false)))])))
    (.op (.bin .add (.x 2) (.c (.v (.int .i64 1)))) (
    .jump [(.x 9)])))))))
   (.esc (.jump [])))))) (
.ret [(.c (.v (.bool true)))]))
theorem T.spec_l1Name_l : leftF Tryd.prog CF Tryd.f55 = some (2, T.spec_l1Name) := by kernel_rfl
theorem T.spec_l1Name_con {args : List AV} {res : AV} (hl : args.length = 2) (hn : AV.norefs args = true) (hw : wpT Tryd.prog (fun _ _ _ => False) (fun a => a = res) T.spec_l1Name args []) : PCon Tryd.prog F.spec_l1Name args res :=
  con_auto Tryd.func55 T.spec_l1Name_l hl hn hw
def T.spec_l1Key : T :=
.chk (.one (.c (.v (.string ⟨#[116, 121, 112, 101]⟩)))) (
.chk (.one (.c (.v (.string ⟨#[111, 102]⟩)))) (
.chk (.one (.c (.v (.string ⟨#[108, 101, 116]⟩)))) (
.chk (.one (.c (.v (.string ⟨#[114, 101, 99]⟩)))) (
.chk (.one (.c (.v (.string ⟨#[105, 110]⟩)))) (
.chk (.one (.c (.v (.string ⟨#[102, 117, 110]⟩)))) (
.chk (.one (.c (.v (.string ⟨#[105, 102]⟩)))) (
.chk (.one (.c (.v (.string ⟨#[116, 104, 101, 110]⟩)))) (
.chk (.one (.c (.v (.string ⟨#[101, 108, 115, 101]⟩)))) (
.chk (.one (.c (.v (.string ⟨#[109, 97, 116, 99, 104]⟩)))) (
.chk (.one (.c (.v (.string ⟨#[119, 105, 116, 104]⟩)))) (
.chk (.one (.c (.v (.string ⟨#[101, 110, 100]⟩)))) (
.chk (.one (.c (.v (.string ⟨#[116, 114, 117, 101]⟩)))) (
.chk (.one (.c (.v (.string ⟨#[102, 97, 108, 115, 101]⟩)))) (
.chk (.one (.c (.v (.string ⟨#[114, 101, 102]⟩)))) (
.chk (.one (.c (.v (.string ⟨#[114, 101, 97, 100]⟩)))) (
.chk (.one (.c (.v (.string ⟨#[112, 114, 105, 110, 116]⟩)))) (
.chk (.one (.c (.v (.string ⟨#[101, 120, 105, 116]⟩)))) (
.chk (.one (.c (.v (.string ⟨#[115, 105, 122, 101]⟩)))) (
.op (.mkl (.v (.string ⟨#[]⟩)) 19 [(0, (.c (.v (.string ⟨#[116, 121, 112, 101]⟩)))), (1, (.c (.v (.string ⟨#[111, 102]⟩)))), (2, (.c (.v (.string ⟨#[108, 101, 116]⟩)))), (3, (.c (.v (.string ⟨#[114, 101, 99]⟩)))), (4, (.c (.v (.string ⟨#[105, 110]⟩)))), (5, (.c (.v (.string ⟨#[102, 117, 110]⟩)))), (6, (.c (.v (.string ⟨#[105, 102]⟩)))), (7, (.c (.v (.string ⟨#[116, 104, 101, 110]⟩)))), (8, (.c (.v (.string ⟨#[101, 108, 115, 101]⟩)))), (9, (.c (.v (.string ⟨#[109, 97, 116, 99, 104]⟩)))), (10, (.c (.v (.string ⟨#[119, 105, 116, 104]⟩)))), (11, (.c (.v (.string ⟨#[101, 110, 100]⟩)))), (12, (.c (.v (.string ⟨#[116, 114, 117, 101]⟩)))), (13, (.c (.v (.string ⟨#[102, 97, 108, 115, 101]⟩)))), (14, (.c (.v (.string ⟨#[114, 101, 102]⟩)))), (15, (.c (.v (.string ⟨#[114, 101, 97, 100]⟩)))), (16, (.c (.v (.string ⟨#[112, 114, 105, 110, 116]⟩)))), (17, (.c (.v (.string ⟨#[101, 120, 105, 116]⟩)))), (18, (.c (.v (.string ⟨#[115, 105, 122, 101]⟩))))]) (
.bind 0 (
 .loop [(.c (.v (.int .i64 0)))] (
  .op (.lenL (.sl (.x 1))) (
  .op (.bin .lss (.x 2) (.x 3)) (
  .ite (.x 4)
   (.chk (.idx (.x 1) (.x 2)) (
   .op (.get (.x 1) (.x 2) 0 none) (
   .op (.bin .eql (.x 5) (.x 0)) (
   .ite (.x 6)
    (.esc (.esc (.ret [(.c (.v (.bool true)))])))
    (.op (.bin .add (.x 2) (.c (.v (.int .i64 1)))) (
    .jump [(.x 7)]))))))
   (.esc (.jump [])))))) (
.ret [(.c (.v (.bool false)))])))))))))))))))))))))
theorem T.spec_l1Key_l : leftF Tryd.prog CF Tryd.f56 = some (1, T.spec_l1Key) := by kernel_rfl
theorem T.spec_l1Key_con {args : List AV} {res : AV} (hl : args.length = 1) (hn : AV.norefs args = true) (hw : wpT Tryd.prog (fun _ _ _ => False) (fun a => a = res) T.spec_l1Key args []) : PCon Tryd.prog F.spec_l1Key args res :=
  con_auto Tryd.func56 T.spec_l1Key_l hl hn hw
def T.spec_l1Sign : T :=
.op (.call F.spec_l1Signs [] false) (
.bind 0 (
 .loop [(.c (.v (.int .i64 0)))] (
  .op (.lenL (.x 1)) (
  .op (.bin .lss (.x 2) (.x 3)) (
  .ite (.x 4)
   (.op (.elem 1 (.x 1) (.x 2)) (
   .chk (.lt (.x 5) 0) (
   .op (.bin .eql (.cell 5 0) (.x 0)) (
   .ite (.x 6)
    (.esc (.esc (.ret [(.c (.v (.bool true)))])))
    (.op (.bin .add (.x 2) (.c (.v (.int .i64 1)))) (
    .jump [(.x 7)]))))))
   (.esc (.jump [])))))) (
.ret [(.c (.v (.bool false)))]))
theorem T.spec_l1Sign_l : leftF Tryd.prog CF Tryd.f57 = some (1, T.spec_l1Sign) := by kernel_rfl
theorem T.spec_l1Sign_con {args : List AV} {res : AV} (hl : args.length = 1) (hn : AV.norefs args = true) (hw : wpT Tryd.prog (fun _ _ _ => False) (fun a => a = res) T.spec_l1Sign args []) : PCon Tryd.prog F.spec_l1Sign args res :=
  con_auto Tryd.func57 T.spec_l1Sign_l hl hn hw
def T.spec_l1Figures : T :=
.op (.bin .lss (.x 0) (.c (.v (.int .u64 10)))) (
.ite (.x 1)
 (.op (.bin .add (.c (.v (.int .u64 48))) (.x 0)) (
 .op (.conv .u8 (.x 2)) (
 .chk (.one (.x 3)) (
 .op (.mkl (.v (.int .u8 0)) 1 [(0, (.x 3))]) (
 .op (.pu .b2s [(.sl (.x 4))]) (
 .ret [(.x 5)]))))))
 (.op (.bin .quo (.x 0) (.c (.v (.int .u64 10)))) (
 .op (.call F.spec_l1Figures [(.x 2)] true) (
 .op (.bin .rem (.x 0) (.c (.v (.int .u64 10)))) (
 .op (.bin .add (.c (.v (.int .u64 48))) (.x 4)) (
 .op (.conv .u8 (.x 5)) (
 .chk (.one (.x 6)) (
 .op (.mkl (.v (.int .u8 0)) 1 [(0, (.x 6))]) (
 .op (.pu .b2s [(.x 7)]) (
 .op (.bin .add (.x 3) (.x 8)) (
 .ret [(.x 9)])))))))))))
theorem T.spec_l1Figures_l : leftF Tryd.prog CF Tryd.f58 = some (1, T.spec_l1Figures) := by kernel_rfl
theorem T.spec_l1Figures_con {args : List AV} {res : AV} (hl : args.length = 1) (hn : AV.norefs args = true) (hw : wpT Tryd.prog (fun _ _ _ => False) (fun a => a = res) T.spec_l1Figures args []) : PCon Tryd.prog F.spec_l1Figures args res :=
  con_auto Tryd.func58 T.spec_l1Figures_l hl hn hw
def T.impl_plain : T :=
.bind 0 (
 .loop [(.c (.v (.int .i64 0)))] (
  .op (.lenS (.x 0)) (
  .op (.bin .lss (.x 1) (.x 2)) (
  .ite (.x 3)
   (.bind 0 (
    .bind 1 (
     .op (.idxS (.x 0) (.x 1)) (
     .op (.conv .i64 (.x 4)) (
     .op (.call F.impl_within [(.x 5), (.c (.v (.int .i64 32))), (.c (.v (.int .i64 126)))] false) (
     .op (.un .not (.x 6)) (
     .ite (.x 7)
      (.op (.idxS (.x 0) (.x 1)) (
      .op (.bin .neq (.x 8) (.c (.v (.int .u8 10)))) (
      .jump [(.x 9)])))
      (.jump [(.c (.v (.bool false)))])))))) (
    .ite (.x 4)
     (.esc (.esc (.esc (.ret [(.c (.v (.bool false)))]))))
     (.jump []))) (
   .op (.bin .add (.x 1) (.c (.v (.int .i64 1)))) (
   .jump [(.x 4)])))
   (.esc (.jump [])))))) (
.ret [(.c (.v (.bool true)))])
theorem T.impl_plain_l : leftF Tryd.prog CF Tryd.f59 = some (1, T.impl_plain) := by kernel_rfl
theorem T.impl_plain_con {args : List AV} {res : AV} (hl : args.length = 1) (hn : AV.norefs args = true) (hw : wpT Tryd.prog (fun _ _ _ => False) (fun a => a = res) T.impl_plain args []) : PCon Tryd.prog F.impl_plain args res :=
  con_auto Tryd.func59 T.impl_plain_l hl hn hw
def T.impl_lowOk : T :=
.bind 1 (
 .op (.call F.impl_isName [(.x 0), (.c (.fn F.impl_small []))] false) (
 .ite (.x 1)
  (.op (.call F.impl_isKey [(.x 0)] false) (
  .op (.un .not (.x 2)) (
  .jump [(.x 3)])))
  (.jump [(.c (.v (.bool false)))]))) (
.ret [(.x 1)])
theorem T.impl_lowOk_l : leftF Tryd.prog CF Tryd.f60 = some (1, T.impl_lowOk) := by kernel_rfl
theorem T.impl_lowOk_con {args : List AV} {res : AV} (hl : args.length = 1) (hn : AV.norefs args = true) (hw : wpT Tryd.prog (fun _ _ _ => False) (fun a => a = res) T.impl_lowOk args []) : PCon Tryd.prog F.impl_lowOk args res :=
  con_auto Tryd.func60 T.impl_lowOk_l hl hn hw
def T.impl_upOk : T :=
.op (.call F.impl_isName [(.x 0), (.c (.fn F.impl_great []))] false) (
.ret [(.x 1)])
theorem T.impl_upOk_l : leftF Tryd.prog CF Tryd.f61 = some (1, T.impl_upOk) := by kernel_rfl
theorem T.impl_upOk_con {args : List AV} {res : AV} (hl : args.length = 1) (hn : AV.norefs args = true) (hw : wpT Tryd.prog (fun _ _ _ => False) (fun a => a = res) T.impl_upOk args []) : PCon Tryd.prog F.impl_upOk args res :=
  con_auto Tryd.func61 T.impl_upOk_l hl hn hw
def T.impl_isName : T :=
.bind 1 (
 .op (.lenS (.x 0)) (
 .op (.call F.impl_within [(.x 2), (.c (.v (.int .i64 1))), (.c (.v (.int .i64 12)))] false) (
 .ite (.x 3)
  (.op (.idxS (.x 0) (.c (.v (.int .i64 0)))) (
  .op (.callv (.x 1) [(.x 4)] false) (
  .ite (.x 5)
   (.op (.call F.impl_run [(.x 0), (.c (.v (.int .i64 0))), (.c (.fn F.impl_nameByte []))] false) (
   .op (.lenS (.x 0)) (
   .op (.bin .eql (.x 6) (.x 7)) (
   .jump [(.x 8)]))))
   (.jump [(.c (.v (.bool false)))]))))
  (.jump [(.c (.v (.bool false)))])))) (
.ret [(.x 2)])
theorem T.impl_isName_l : leftF Tryd.prog CF Tryd.f62 = some (2, T.impl_isName) := by kernel_rfl
theorem T.impl_isName_con {args : List AV} {res : AV} (hl : args.length = 2) (hn : AV.norefs args = true) (hw : wpT Tryd.prog (fun _ _ _ => False) (fun a => a = res) T.impl_isName args []) : PCon Tryd.prog F.impl_isName args res :=
  con_auto Tryd.func62 T.impl_isName_l hl hn hw
def T.impl_small : T :=
.bind 1 (
 .op (.bin .geq (.x 0) (.c (.v (.int .u8 97)))) (
 .ite (.x 1)
  (.op (.bin .leq (.x 0) (.c (.v (.int .u8 122)))) (
  .jump [(.x 2)]))
  (.jump [(.c (.v (.bool false)))]))) (
.ret [(.x 1)])
theorem T.impl_small_l : leftF Tryd.prog CF Tryd.f63 = some (1, T.impl_small) := by kernel_rfl
theorem T.impl_small_con {args : List AV} {res : AV} (hl : args.length = 1) (hn : AV.norefs args = true) (hw : wpT Tryd.prog (fun _ _ _ => False) (fun a => a = res) T.impl_small args []) : PCon Tryd.prog F.impl_small args res :=
  con_auto Tryd.func63 T.impl_small_l hl hn hw
def T.impl_isKey : T :=
.chk (.one (.c (.v (.string ⟨#[116, 121, 112, 101]⟩)))) (
.chk (.one (.c (.v (.string ⟨#[111, 102]⟩)))) (
.chk (.one (.c (.v (.string ⟨#[108, 101, 116]⟩)))) (
.chk (.one (.c (.v (.string ⟨#[114, 101, 99]⟩)))) (
.chk (.one (.c (.v (.string ⟨#[105, 110]⟩)))) (
.chk (.one (.c (.v (.string ⟨#[102, 117, 110]⟩)))) (
.chk (.one (.c (.v (.string ⟨#[105, 102]⟩)))) (
.chk (.one (.c (.v (.string ⟨#[116, 104, 101, 110]⟩)))) (
.chk (.one (.c (.v (.string ⟨#[101, 108, 115, 101]⟩)))) (
.chk (.one (.c (.v (.string ⟨#[109, 97, 116, 99, 104]⟩)))) (
.chk (.one (.c (.v (.string ⟨#[119, 105, 116, 104]⟩)))) (
.chk (.one (.c (.v (.string ⟨#[101, 110, 100]⟩)))) (
.chk (.one (.c (.v (.string ⟨#[116, 114, 117, 101]⟩)))) (
.chk (.one (.c (.v (.string ⟨#[102, 97, 108, 115, 101]⟩)))) (
.chk (.one (.c (.v (.string ⟨#[114, 101, 102]⟩)))) (
.chk (.one (.c (.v (.string ⟨#[114, 101, 97, 100]⟩)))) (
.chk (.one (.c (.v (.string ⟨#[112, 114, 105, 110, 116]⟩)))) (
.chk (.one (.c (.v (.string ⟨#[101, 120, 105, 116]⟩)))) (
.chk (.one (.c (.v (.string ⟨#[115, 105, 122, 101]⟩)))) (
.op (.mkl (.v (.string ⟨#[]⟩)) 19 [(0, (.c (.v (.string ⟨#[116, 121, 112, 101]⟩)))), (1, (.c (.v (.string ⟨#[111, 102]⟩)))), (2, (.c (.v (.string ⟨#[108, 101, 116]⟩)))), (3, (.c (.v (.string ⟨#[114, 101, 99]⟩)))), (4, (.c (.v (.string ⟨#[105, 110]⟩)))), (5, (.c (.v (.string ⟨#[102, 117, 110]⟩)))), (6, (.c (.v (.string ⟨#[105, 102]⟩)))), (7, (.c (.v (.string ⟨#[116, 104, 101, 110]⟩)))), (8, (.c (.v (.string ⟨#[101, 108, 115, 101]⟩)))), (9, (.c (.v (.string ⟨#[109, 97, 116, 99, 104]⟩)))), (10, (.c (.v (.string ⟨#[119, 105, 116, 104]⟩)))), (11, (.c (.v (.string ⟨#[101, 110, 100]⟩)))), (12, (.c (.v (.string ⟨#[116, 114, 117, 101]⟩)))), (13, (.c (.v (.string ⟨#[102, 97, 108, 115, 101]⟩)))), (14, (.c (.v (.string ⟨#[114, 101, 102]⟩)))), (15, (.c (.v (.string ⟨#[114, 101, 97, 100]⟩)))), (16, (.c (.v (.string ⟨#[112, 114, 105, 110, 116]⟩)))), (17, (.c (.v (.string ⟨#[101, 120, 105, 116]⟩)))), (18, (.c (.v (.string ⟨#[115, 105, 122, 101]⟩))))]) (
.op (.call F.slices_Contains__string_string [(.sl (.x 1)), (.x 0)] true) (
.ret [(.x 2)])))))))))))))))))))))
theorem T.impl_isKey_l : leftF Tryd.prog CF Tryd.f64 = some (1, T.impl_isKey) := by kernel_rfl
theorem T.impl_isKey_con {args : List AV} {res : AV} (hl : args.length = 1) (hn : AV.norefs args = true) (hw : wpT Tryd.prog (fun _ _ _ => False) (fun a => a = res) T.impl_isKey args []) : PCon Tryd.prog F.impl_isKey args res :=
  con_auto Tryd.func64 T.impl_isKey_l hl hn hw
def T.slices_Contains__string_string : T :=
.op (.call F.slices_Index__string_string [(.x 0), (.x 1)] false) (
.op (.bin .geq (.x 2) (.c (.v (.int .i64 0)))) (
.ret [(.x 3)]))
theorem T.slices_Contains__string_string_l : leftF Tryd.prog CF Tryd.f65 = some (2, T.slices_Contains__string_string) := by kernel_rfl
theorem T.slices_Contains__string_string_con {args : List AV} {res : AV} (hl : args.length = 2) (hn : AV.norefs args = true) (hw : wpT Tryd.prog (fun _ _ _ => False) (fun a => a = res) T.slices_Contains__string_string args []) : PCon Tryd.prog F.slices_Contains__string_string args res :=
  con_auto Tryd.func65 T.slices_Contains__string_string_l hl hn hw
def T.impl_signs : T :=
.chk (.one (.c (.v (.string ⟨#[45, 62]⟩)))) (
.chk (.one (.c (.v (.string ⟨#[58, 61]⟩)))) (
.chk (.one (.c (.v (.string ⟨#[61]⟩)))) (
.chk (.one (.c (.v (.string ⟨#[60]⟩)))) (
.chk (.one (.c (.v (.string ⟨#[43]⟩)))) (
.chk (.one (.c (.v (.string ⟨#[45]⟩)))) (
.chk (.one (.c (.v (.string ⟨#[42]⟩)))) (
.chk (.one (.c (.v (.string ⟨#[94]⟩)))) (
.chk (.one (.c (.v (.string ⟨#[59]⟩)))) (
.chk (.one (.c (.v (.string ⟨#[124]⟩)))) (
.chk (.one (.c (.v (.string ⟨#[40]⟩)))) (
.chk (.one (.c (.v (.string ⟨#[41]⟩)))) (
.chk (.one (.c (.v (.string ⟨#[44]⟩)))) (
.chk (.one (.c (.v (.string ⟨#[95]⟩)))) (
.chk (.one (.c (.v (.string ⟨#[33]⟩)))) (
.op (.mkl (.v (.string ⟨#[]⟩)) 15 [(0, (.c (.v (.string ⟨#[45, 62]⟩)))), (1, (.c (.v (.string ⟨#[58, 61]⟩)))), (2, (.c (.v (.string ⟨#[61]⟩)))), (3, (.c (.v (.string ⟨#[60]⟩)))), (4, (.c (.v (.string ⟨#[43]⟩)))), (5, (.c (.v (.string ⟨#[45]⟩)))), (6, (.c (.v (.string ⟨#[42]⟩)))), (7, (.c (.v (.string ⟨#[94]⟩)))), (8, (.c (.v (.string ⟨#[59]⟩)))), (9, (.c (.v (.string ⟨#[124]⟩)))), (10, (.c (.v (.string ⟨#[40]⟩)))), (11, (.c (.v (.string ⟨#[41]⟩)))), (12, (.c (.v (.string ⟨#[44]⟩)))), (13, (.c (.v (.string ⟨#[95]⟩)))), (14, (.c (.v (.string ⟨#[33]⟩))))]) (
.ret [(.sl (.x 0))]))))))))))))))))
theorem T.impl_signs_l : leftF Tryd.prog CF Tryd.f66 = some (0, T.impl_signs) := by kernel_rfl
theorem T.impl_signs_con {args : List AV} {res : AV} (hl : args.length = 0) (hn : AV.norefs args = true) (hw : wpT Tryd.prog (fun _ _ _ => False) (fun a => a = res) T.impl_signs args []) : PCon Tryd.prog F.impl_signs args res :=
  con_auto Tryd.func66 T.impl_signs_l hl hn hw
def T.internalstrconv_Itoa : T :=
.op (.call F.internalstrconv_FormatInt [(.x 0), (.c (.v (.int .i64 10)))] false) (
.ret [(.x 1)])
def T.spec_l1In : T :=
.bind 1 (
 .op (.bin .geq (.x 0) (.x 1)) (
 .ite (.x 3)
  (.op (.bin .leq (.x 0) (.x 2)) (
  .jump [(.x 4)]))
  (.jump [(.c (.v (.bool false)))]))) (
.ret [(.x 3)])
theorem T.spec_l1In_l : leftF Tryd.prog CF Tryd.f79 = some (3, T.spec_l1In) := by kernel_rfl
theorem T.spec_l1In_con {args : List AV} {res : AV} (hl : args.length = 3) (hn : AV.norefs args = true) (hw : wpT Tryd.prog (fun _ _ _ => False) (fun a => a = res) T.spec_l1In args []) : PCon Tryd.prog F.spec_l1In args res :=
  con_auto Tryd.func79 T.spec_l1In_l hl hn hw
def T.impl_within : T :=
.bind 1 (
 .op (.bin .geq (.x 0) (.x 1)) (
 .ite (.x 3)
  (.op (.bin .leq (.x 0) (.x 2)) (
  .jump [(.x 4)]))
  (.jump [(.c (.v (.bool false)))]))) (
.ret [(.x 3)])
theorem T.impl_within_l : leftF Tryd.prog CF Tryd.f85 = some (3, T.impl_within) := by kernel_rfl
theorem T.impl_within_con {args : List AV} {res : AV} (hl : args.length = 3) (hn : AV.norefs args = true) (hw : wpT Tryd.prog (fun _ _ _ => False) (fun a => a = res) T.impl_within args []) : PCon Tryd.prog F.impl_within args res :=
  con_auto Tryd.func85 T.impl_within_l hl hn hw
def T.spec_l1Upper : T :=
.op (.call F.spec_l1In [(.x 0), (.c (.v (.int .i64 65))), (.c (.v (.int .i64 90)))] false) (
.ret [(.x 1)])
theorem T.spec_l1Upper_l : leftF Tryd.prog CF Tryd.f93 = some (1, T.spec_l1Upper) := by kernel_rfl
theorem T.spec_l1Upper_con {args : List AV} {res : AV} (hl : args.length = 1) (hn : AV.norefs args = true) (hw : wpT Tryd.prog (fun _ _ _ => False) (fun a => a = res) T.spec_l1Upper args []) : PCon Tryd.prog F.spec_l1Upper args res :=
  con_auto Tryd.func93 T.spec_l1Upper_l hl hn hw
def T.spec_l1Lower : T :=
.op (.call F.spec_l1In [(.x 0), (.c (.v (.int .i64 97))), (.c (.v (.int .i64 122)))] false) (
.ret [(.x 1)])
theorem T.spec_l1Lower_l : leftF Tryd.prog CF Tryd.f94 = some (1, T.spec_l1Lower) := by kernel_rfl
theorem T.spec_l1Lower_con {args : List AV} {res : AV} (hl : args.length = 1) (hn : AV.norefs args = true) (hw : wpT Tryd.prog (fun _ _ _ => False) (fun a => a = res) T.spec_l1Lower args []) : PCon Tryd.prog F.spec_l1Lower args res :=
  con_auto Tryd.func94 T.spec_l1Lower_l hl hn hw
def T.spec_l1NameByte : T :=
.bind 1 (
 .op (.call F.spec_l1Lower [(.x 0)] false) (
 .ite (.x 1)
  (.jump [(.c (.v (.bool true)))])
  (.op (.call F.spec_l1Upper [(.x 0)] false) (
  .ite (.x 2)
   (.jump [(.c (.v (.bool true)))])
   (.op (.call F.spec_l1Num [(.x 0)] false) (
   .ite (.x 3)
    (.jump [(.c (.v (.bool true)))])
    (.op (.bin .eql (.x 0) (.c (.v (.int .i64 95)))) (
    .jump [(.x 4)])))))))) (
.ret [(.x 1)])
theorem T.spec_l1NameByte_l : leftF Tryd.prog CF Tryd.f95 = some (1, T.spec_l1NameByte) := by kernel_rfl
theorem T.spec_l1NameByte_con {args : List AV} {res : AV} (hl : args.length = 1) (hn : AV.norefs args = true) (hw : wpT Tryd.prog (fun _ _ _ => False) (fun a => a = res) T.spec_l1NameByte args []) : PCon Tryd.prog F.spec_l1NameByte args res :=
  con_auto Tryd.func95 T.spec_l1NameByte_l hl hn hw
def T.spec_l1Signs : T :=
.chk (.one (.c (.v (.string ⟨#[45, 62]⟩)))) (
.chk (.one (.c (.v (.string ⟨#[58, 61]⟩)))) (
.chk (.one (.c (.v (.string ⟨#[61]⟩)))) (
.chk (.one (.c (.v (.string ⟨#[60]⟩)))) (
.chk (.one (.c (.v (.string ⟨#[43]⟩)))) (
.chk (.one (.c (.v (.string ⟨#[45]⟩)))) (
.chk (.one (.c (.v (.string ⟨#[42]⟩)))) (
.chk (.one (.c (.v (.string ⟨#[94]⟩)))) (
.chk (.one (.c (.v (.string ⟨#[59]⟩)))) (
.chk (.one (.c (.v (.string ⟨#[124]⟩)))) (
.chk (.one (.c (.v (.string ⟨#[40]⟩)))) (
.chk (.one (.c (.v (.string ⟨#[41]⟩)))) (
.chk (.one (.c (.v (.string ⟨#[44]⟩)))) (
.chk (.one (.c (.v (.string ⟨#[95]⟩)))) (
.chk (.one (.c (.v (.string ⟨#[33]⟩)))) (
.op (.mkl (.v (.string ⟨#[]⟩)) 15 [(0, (.c (.v (.string ⟨#[45, 62]⟩)))), (1, (.c (.v (.string ⟨#[58, 61]⟩)))), (2, (.c (.v (.string ⟨#[61]⟩)))), (3, (.c (.v (.string ⟨#[60]⟩)))), (4, (.c (.v (.string ⟨#[43]⟩)))), (5, (.c (.v (.string ⟨#[45]⟩)))), (6, (.c (.v (.string ⟨#[42]⟩)))), (7, (.c (.v (.string ⟨#[94]⟩)))), (8, (.c (.v (.string ⟨#[59]⟩)))), (9, (.c (.v (.string ⟨#[124]⟩)))), (10, (.c (.v (.string ⟨#[40]⟩)))), (11, (.c (.v (.string ⟨#[41]⟩)))), (12, (.c (.v (.string ⟨#[44]⟩)))), (13, (.c (.v (.string ⟨#[95]⟩)))), (14, (.c (.v (.string ⟨#[33]⟩))))]) (
.ret [(.sl (.x 0))]))))))))))))))))
theorem T.spec_l1Signs_l : leftF Tryd.prog CF Tryd.f96 = some (0, T.spec_l1Signs) := by kernel_rfl
theorem T.spec_l1Signs_con {args : List AV} {res : AV} (hl : args.length = 0) (hn : AV.norefs args = true) (hw : wpT Tryd.prog (fun _ _ _ => False) (fun a => a = res) T.spec_l1Signs args []) : PCon Tryd.prog F.spec_l1Signs args res :=
  con_auto Tryd.func96 T.spec_l1Signs_l hl hn hw
def T.impl_great : T :=
.bind 1 (
 .op (.bin .geq (.x 0) (.c (.v (.int .u8 65)))) (
 .ite (.x 1)
  (.op (.bin .leq (.x 0) (.c (.v (.int .u8 90)))) (
  .jump [(.x 2)]))
  (.jump [(.c (.v (.bool false)))]))) (
.ret [(.x 1)])
theorem T.impl_great_l : leftF Tryd.prog CF Tryd.f97 = some (1, T.impl_great) := by kernel_rfl
theorem T.impl_great_con {args : List AV} {res : AV} (hl : args.length = 1) (hn : AV.norefs args = true) (hw : wpT Tryd.prog (fun _ _ _ => False) (fun a => a = res) T.impl_great args []) : PCon Tryd.prog F.impl_great args res :=
  con_auto Tryd.func97 T.impl_great_l hl hn hw
def T.impl_run : T :=
.bind 1 (
 .loop [(.x 1)] (
  .bind 0 (
   .bind 1 (
    .op (.lenS (.x 0)) (
    .op (.bin .lss (.x 3) (.x 4)) (
    .ite (.x 5)
     (.op (.idxS (.x 0) (.x 3)) (
     .op (.callv (.x 2) [(.x 6)] false) (
     .jump [(.x 7)])))
     (.jump [(.c (.v (.bool false)))])))) (
   .ite (.x 4)
    (.jump [])
    (.esc (.esc (.jump [(.x 3)]))))) (
  .op (.bin .add (.x 3) (.c (.v (.int .i64 1)))) (
  .jump [(.x 4)])))) (
.ret [(.x 3)])
theorem T.impl_run_l : leftF Tryd.prog CF Tryd.f98 = some (3, T.impl_run) := by kernel_rfl
theorem T.impl_run_con {args : List AV} {res : AV} (hl : args.length = 3) (hn : AV.norefs args = true) (hw : wpT Tryd.prog (fun _ _ _ => False) (fun a => a = res) T.impl_run args []) : PCon Tryd.prog F.impl_run args res :=
  con_auto Tryd.func98 T.impl_run_l hl hn hw
def T.impl_nameByte : T :=
.bind 1 (
 .op (.call F.impl_small [(.x 0)] false) (
 .ite (.x 1)
  (.jump [(.c (.v (.bool true)))])
  (.op (.call F.impl_great [(.x 0)] false) (
  .ite (.x 2)
   (.jump [(.c (.v (.bool true)))])
   (.op (.call F.impl_digit [(.x 0)] false) (
   .ite (.x 3)
    (.jump [(.c (.v (.bool true)))])
    (.op (.bin .eql (.x 0) (.c (.v (.int .u8 95)))) (
    .jump [(.x 4)])))))))) (
.ret [(.x 1)])
theorem T.impl_nameByte_l : leftF Tryd.prog CF Tryd.f99 = some (1, T.impl_nameByte) := by kernel_rfl
theorem T.impl_nameByte_con {args : List AV} {res : AV} (hl : args.length = 1) (hn : AV.norefs args = true) (hw : wpT Tryd.prog (fun _ _ _ => False) (fun a => a = res) T.impl_nameByte args []) : PCon Tryd.prog F.impl_nameByte args res :=
  con_auto Tryd.func99 T.impl_nameByte_l hl hn hw
def T.slices_Index__string_string : T :=
.bind 0 (
 .op (.lenL (.x 0)) (
 .loop [(.c (.v (.int .i64 0)))] (
  .op (.bin .lss (.x 3) (.x 2)) (
  .ite (.x 4)
   (.op (.elem 1 (.x 0) (.x 3)) (
   .chk (.lt (.x 5) 0) (
   .op (.bin .eql (.x 1) (.cell 5 0)) (
   .ite (.x 6)
    (.esc (.esc (.ret [(.x 3)])))
    (.op (.bin .add (.x 3) (.c (.v (.int .i64 1)))) (
    .jump [(.x 7)]))))))
   (.esc (.jump [])))))) (
.ret [(.c (.v (.int .i64 (-1))))])
theorem T.slices_Index__string_string_l : leftF Tryd.prog CF Tryd.f100 = some (2, T.slices_Index__string_string) := by kernel_rfl
theorem T.slices_Index__string_string_con {args : List AV} {res : AV} (hl : args.length = 2) (hn : AV.norefs args = true) (hw : wpT Tryd.prog (fun _ _ _ => False) (fun a => a = res) T.slices_Index__string_string args []) : PCon Tryd.prog F.slices_Index__string_string args res :=
  con_auto Tryd.func100 T.slices_Index__string_string_l hl hn hw
-- internalstrconv_FormatInt: no walk
-- strings_Builder_copyCheck: code not covered
-- strings_Builder_grow: no walk
def T.spec_l1Num : T :=
.op (.call F.spec_l1In [(.x 0), (.c (.v (.int .i64 48))), (.c (.v (.int .i64 57)))] false) (
.ret [(.x 1)])
theorem T.spec_l1Num_l : leftF Tryd.prog CF Tryd.f115 = some (1, T.spec_l1Num) := by kernel_rfl
theorem T.spec_l1Num_con {args : List AV} {res : AV} (hl : args.length = 1) (hn : AV.norefs args = true) (hw : wpT Tryd.prog (fun _ _ _ => False) (fun a => a = res) T.spec_l1Num args []) : PCon Tryd.prog F.spec_l1Num args res :=
  con_auto Tryd.func115 T.spec_l1Num_l hl hn hw
def T.impl_digit : T :=
.bind 1 (
 .op (.bin .geq (.x 0) (.c (.v (.int .u8 48)))) (
 .ite (.x 1)
  (.op (.bin .leq (.x 0) (.c (.v (.int .u8 57)))) (
  .jump [(.x 2)]))
  (.jump [(.c (.v (.bool false)))]))) (
.ret [(.x 1)])
theorem T.impl_digit_l : leftF Tryd.prog CF Tryd.f116 = some (1, T.impl_digit) := by kernel_rfl
theorem T.impl_digit_con {args : List AV} {res : AV} (hl : args.length = 1) (hn : AV.norefs args = true) (hw : wpT Tryd.prog (fun _ _ _ => False) (fun a => a = res) T.impl_digit args []) : PCon Tryd.prog F.impl_digit args res :=
  con_auto Tryd.func116 T.impl_digit_l hl hn hw
end Go.Proofs.Ab
