/-
  WHAT IS LEFT of this seat's functions, printed by a program of ours (wip/tool/Gen2.lean) from the translation; each with the theorem that it is what is left of that function.
-/
import Derived.Test.YtlhnahogacofoaaDoorChecked
import Derived.KernelRfl
import Derived.Test.YtlhnahogacofoaaDoorAbM4
set_option linter.unusedVariables false
set_option linter.unusedSimpArgs false
set_option linter.defProp false
namespace Go.Proofs.Ab
open Go.Ab
set_option maxRecDepth 100000
namespace F
abbrev laws_FnSpelled : FuncId := 5
abbrev impl_Lex : FuncId := 12
abbrev laws_markTokenS : FuncId := 15
abbrev laws_big : FuncId := 17
abbrev spec_DrawSpell : FuncId := 18
abbrev spec_TokenOk : FuncId := 19
abbrev impl_Spell : FuncId := 20
abbrev impl_TokenOk : FuncId := 21
abbrev strconv_Itoa : FuncId := 30
abbrev impl_lexAll : FuncId := 36
abbrev spec_l1New : FuncId := 39
abbrev spec_l1Below : FuncId := 40
abbrev spec_l1Size : FuncId := 41
abbrev spec_l1DrawToken : FuncId := 42
abbrev spec_l1Once : FuncId := 43
abbrev spec_l1Chars : FuncId := 44
abbrev spec_l1Low : FuncId := 45
abbrev spec_l1Name : FuncId := 46
abbrev spec_l1Key : FuncId := 47
abbrev spec_l1Sign : FuncId := 48
abbrev impl_SpellToken : FuncId := 49
abbrev strings_Join : FuncId := 50
abbrev impl_plain : FuncId := 51
abbrev impl_lowOk : FuncId := 52
abbrev impl_upOk : FuncId := 53
abbrev impl_isName : FuncId := 54
abbrev impl_small : FuncId := 55
abbrev impl_isKey : FuncId := 56
abbrev slices_Contains__string_string : FuncId := 57
abbrev impl_signs : FuncId := 58
abbrev spec_l1In : FuncId := 60
abbrev spec_l1Figures : FuncId := 62
abbrev impl_within : FuncId := 68
abbrev impl_quoted : FuncId := 76
abbrev spec_l1Num : FuncId := 78
abbrev spec_l1Lower : FuncId := 80
abbrev spec_l1Upper : FuncId := 81
abbrev spec_l1Signs : FuncId := 84
abbrev impl_run : FuncId := 85
abbrev impl_lexAll_1 : FuncId := 86
abbrev impl_lexOne : FuncId := 87
abbrev spec_l1Byte : FuncId := 88
abbrev spec_l1Int : FuncId := 89
abbrev spec_l1Str : FuncId := 90
abbrev spec_l1Odd : FuncId := 91
abbrev spec_l1NameByte : FuncId := 92
abbrev strings_Builder_Grow : FuncId := 93
abbrev strings_Builder_WriteString : FuncId := 94
abbrev impl_great : FuncId := 96
abbrev impl_nameByte : FuncId := 97
abbrev slices_Index__string_string : FuncId := 98
abbrev impl_digit : FuncId := 110
abbrev impl_lexNum : FuncId := 111
abbrev impl_lexWord : FuncId := 112
abbrev impl_lexString : FuncId := 113
abbrev impl_signAt : FuncId := 114
abbrev strings_Builder_copyCheck : FuncId := 115
abbrev strings_Builder_grow : FuncId := 116
abbrev strconv_Atoi : FuncId := 122
abbrev strings_HasPrefix : FuncId := 123
abbrev internalstringslite_HasPrefix : FuncId := 134
abbrev strconv_syntaxError : FuncId := 142
abbrev strconv_rangeError : FuncId := 143
end F
def FL : List Nat := [3, 4, 5, 6, 7, 9, 10, 13, 14, 15, 16, 17, 19, 20, 21, 22, 23, 24, 25, 26, 29, 30, 31, 32, 33, 34, 37, 38, 40, 41, 43, 44, 45, 46, 47, 48, 49, 50, 51, 52, 53, 54, 55, 56, 57, 59, 60, 61, 62, 63, 64, 65, 66, 68, 69, 70, 71, 72, 73, 74, 76, 77, 78, 80, 81, 85, 86, 88, 89, 90, 91, 92, 95, 96, 97, 98, 99, 100, 101, 102, 103, 104, 105, 106, 107, 108, 109, 110, 113, 114, 117, 118, 119, 123, 126, 127, 128, 129, 130, 131, 134, 135, 137, 138, 139, 140, 147, 149, 151, 152]
def FR : List (Nat × Bool × Nat × Nat) := []
abbrev G.impl_Lex : Sig := ⟨1, [(.d (.x 0))], [], 2, (.tup [(.row 0 (.x 0)), (.d (.x 1))]), [(.row true 48 4 (.x 0))], []⟩
abbrev G.laws_markTokenS : Sig := ⟨2, [(.row 0 (.x 0)), (.d (.x 1))], [(.row true 48 4 (.x 0))], 2, (.d (.x 1)), [(.row true 48 4 (.x 0))], [0]⟩
abbrev G.impl_lexAll : Sig := ⟨2, [(.d (.x 0)), (.d (.x 1))], [], 2, (.tup [(.row 0 (.x 0)), (.d (.x 1))]), [(.row true 48 4 (.x 0))], []⟩
abbrev G.spec_l1New : Sig := ⟨1, [(.d (.x 0))], [], 3, (.ptr 0 0), [(.box 103 [(.d (.x 0)), (.d (.x 1)), (.d (.x 2))])], []⟩
abbrev G.spec_l1Below : Sig := ⟨4, [(.ptr 0 0), (.d (.x 3))], [(.box 103 [(.d (.x 0)), (.d (.x 1)), (.d (.x 2))])], 4, (.d (.x 0)), [(.box 103 [(.d (.x 1)), (.d (.x 2)), (.d (.x 3))])], []⟩
abbrev G.spec_l1DrawToken : Sig := ⟨3, [(.ptr 0 0)], [(.box 103 [(.d (.x 0)), (.d (.x 1)), (.d (.x 2))])], 4, (.d (.x 0)), [(.box 103 [(.d (.x 1)), (.d (.x 2)), (.d (.x 3))])], []⟩
abbrev G.spec_l1Once : Sig := ⟨4, [(.ptr 0 0), (.d (.x 3))], [(.box 103 [(.d (.x 0)), (.d (.x 1)), (.d (.x 2))])], 4, (.d (.x 0)), [(.box 103 [(.d (.x 1)), (.d (.x 2)), (.d (.x 3))])], []⟩
abbrev G.spec_l1Byte : Sig := ⟨3, [(.ptr 0 0)], [(.box 103 [(.d (.x 0)), (.d (.x 1)), (.d (.x 2))])], 4, (.d (.x 0)), [(.box 103 [(.d (.x 1)), (.d (.x 2)), (.d (.x 3))])], []⟩
abbrev G.spec_l1Int : Sig := ⟨4, [(.ptr 0 0), (.d (.x 3))], [(.box 103 [(.d (.x 0)), (.d (.x 1)), (.d (.x 2))])], 4, (.d (.x 0)), [(.box 103 [(.d (.x 1)), (.d (.x 2)), (.d (.x 3))])], []⟩
abbrev G.spec_l1Str : Sig := ⟨4, [(.ptr 0 0), (.d (.x 3))], [(.box 103 [(.d (.x 0)), (.d (.x 1)), (.d (.x 2))])], 4, (.d (.x 0)), [(.box 103 [(.d (.x 1)), (.d (.x 2)), (.d (.x 3))])], []⟩
abbrev G.spec_l1Odd : Sig := ⟨3, [(.ptr 0 0)], [(.box 103 [(.d (.x 0)), (.d (.x 1)), (.d (.x 2))])], 4, (.d (.x 0)), [(.box 103 [(.d (.x 1)), (.d (.x 2)), (.d (.x 3))])], []⟩
def SG : List (Nat × List Sig) := [(12, [G.impl_Lex]), (15, [G.laws_markTokenS]), (36, [G.impl_lexAll]), (39, [G.spec_l1New]), (40, [G.spec_l1Below]), (42, [G.spec_l1DrawToken]), (43, [G.spec_l1Once]), (88, [G.spec_l1Byte]), (89, [G.spec_l1Int]), (90, [G.spec_l1Str]), (91, [G.spec_l1Odd])]
abbrev CF : Cfg := ⟨FL, FR, SG, false⟩
def T.laws_FnSpelled : T :=
.op (.call F.laws_big [(.x 0)] false) (
.ite (.x 1)
 (.ret [(.c (.v (.bool true)))])
 (.op (.call F.spec_DrawSpell [(.x 0)] false) (
 .op (.mkl (.agg [(.v (.int .i64 0)), (.v (.string ⟨#[]⟩)), (.v (.int .i64 0)), (.v (.int .i64 0))]) 0 []) (
 .bind 1 (
  .loop [(.x 3), (.c (.v (.int .i64 0)))] (
   .bind 0 (
    .bind 1 (
     .op (.lenL (.x 2)) (
     .op (.bin .lss (.x 5) (.x 6)) (
     .ite (.x 7)
      (.op (.bin .lss (.x 5) (.c (.v (.int .i64 200)))) (
      .jump [(.x 8)]))
      (.jump [(.c (.v (.bool false)))])))) (
    .ite (.x 6)
     (.jump [])
     (.esc (.esc (.jump [(.x 4)]))))) (
   .bind 1 (
    .bind 1 (
     .op (.elem 4 (.x 2) (.x 5)) (
     .chk (.cells (.x 6) 4) (
     .op (.call F.spec_TokenOk [(.x 6)] false) (
     .ite (.x 7)
      (.op (.elem 4 (.x 2) (.x 5)) (
      .chk (.lt (.x 8) 0) (
      .op (.bin .neq (.cell 8 0) (.c (.v (.int .i64 8)))) (
      .jump [(.x 9)]))))
      (.jump [(.c (.v (.bool false)))]))))) (
    .ite (.x 6)
     (.op (.elem 4 (.x 2) (.x 5)) (
     .chk (.cells (.x 7) 4) (
     .chk (.cells (.x 7) 4) (
     .op (.mkl (.agg [(.v (.int .i64 0)), (.v (.string ⟨#[]⟩)), (.v (.int .i64 0)), (.v (.int .i64 0))]) 1 [(0, (.x 7))]) (
     .op (.app 4 40 (.x 4) (.sl (.x 8))) (
     .jump [(.x 9)]))))))
     (.jump [(.x 4)]))) (
   .op (.bin .add (.x 5) (.c (.v (.int .i64 1)))) (
   .jump [(.x 6), (.x 7)]))))) (
 .op (.call F.impl_Spell [(.sl (.x 4))] true) (
 .op (.scall F.impl_Lex G.impl_Lex [(.x 5)]) (
 .op (.val (.ext 6 1)) (
 .chk (.cells (.x 7) 2) (
 .bind 0 (
  .op (.bin .neq (.cell 7 0) (.c (.v (.int .i64 0)))) (
  .ite (.x 8)
   (.bind 1 (
    .op (.bin .eql (.cell 7 0) (.c (.v (.int .i64 5)))) (
    .ite (.x 9)
     (.op (.lenS (.x 5)) (
     .op (.bin .gtr (.x 10) (.c (.v (.int .i64 4000)))) (
     .jump [(.x 11)])))
     (.jump [(.c (.v (.bool false)))]))) (
   .esc (.ret [(.x 9)])))
   (.jump []))) (
 .bind 0 (
  .bind 1 (
   .op (.lenL (.sl (.ext 6 0))) (
   .op (.lenL (.sl (.x 4))) (
   .op (.bin .add (.x 9) (.c (.v (.int .i64 1)))) (
   .op (.bin .neq (.x 8) (.x 10)) (
   .ite (.x 11)
    (.jump [(.c (.v (.bool true)))])
    (.op (.lenL (.sl (.x 4))) (
    .chk (.idx (.ext 6 0) (.x 12)) (
    .chk (.idx (.ext 6 0) (.x 12)) (
    .op (.get (.ext 6 0) (.x 12) 0 none) (
    .op (.bin .neq (.x 13) (.c (.v (.int .i64 8)))) (
    .jump [(.x 14)]))))))))))) (
  .ite (.x 8)
   (.esc (.ret [(.c (.v (.bool false)))]))
   (.jump []))) (
 .bind 0 (
  .loop [(.c (.v (.int .i64 0)))] (
   .op (.lenL (.sl (.x 4))) (
   .op (.bin .lss (.x 8) (.x 9)) (
   .ite (.x 10)
    (.bind 0 (
     .bind 1 (
      .chk (.idx (.ext 6 0) (.x 8)) (
      .chk (.idx (.ext 6 0) (.x 8)) (
      .op (.get (.ext 6 0) (.x 8) 0 none) (
      .chk (.idx (.x 4) (.x 8)) (
      .op (.get (.x 4) (.x 8) 0 none) (
      .op (.bin .neq (.x 11) (.x 12)) (
      .ite (.x 13)
       (.jump [(.c (.v (.bool true)))])
       (.chk (.idx (.ext 6 0) (.x 8)) (
       .chk (.idx (.ext 6 0) (.x 8)) (
       .op (.get (.ext 6 0) (.x 8) 1 none) (
       .chk (.idx (.x 4) (.x 8)) (
       .op (.get (.x 4) (.x 8) 1 none) (
       .op (.bin .neq (.x 14) (.x 15)) (
       .ite (.x 16)
        (.jump [(.c (.v (.bool true)))])
        (.chk (.idx (.ext 6 0) (.x 8)) (
        .chk (.idx (.ext 6 0) (.x 8)) (
        .op (.get (.ext 6 0) (.x 8) 2 none) (
        .chk (.idx (.x 4) (.x 8)) (
        .op (.get (.x 4) (.x 8) 2 none) (
        .op (.bin .neq (.x 17) (.x 18)) (
        .ite (.x 19)
         (.jump [(.c (.v (.bool true)))])
         (.chk (.idx (.ext 6 0) (.x 8)) (
         .op (.get (.ext 6 0) (.x 8) 0 (some 4)) (
         .op (.call F.impl_TokenOk [(.x 20)] true) (
         .op (.un .not (.x 21)) (
         .jump [(.x 22)])))))))))))))))))))))))))) (
     .ite (.x 11)
      (.esc (.esc (.esc (.ret [(.c (.v (.bool false)))]))))
      (.jump []))) (
    .op (.bin .add (.x 8) (.c (.v (.int .i64 1)))) (
    .jump [(.x 11)])))
    (.esc (.jump [])))))) (
 .ret [(.c (.v (.bool true)))]))))))))))))
theorem T.laws_FnSpelled_l : leftF Tryd.prog CF Tryd.f5 = some (1, T.laws_FnSpelled) := by kernel_rfl
theorem T.laws_FnSpelled_con {args : List AV} {res : AV} (hl : args.length = 1) (hn : AV.norefs args = true) (hw : wpT Tryd.prog (fun _ _ _ => False) (fun a => a = res) T.laws_FnSpelled args []) : PCon Tryd.prog F.laws_FnSpelled args res :=
  con_auto Tryd.func5 T.laws_FnSpelled_l hl hn hw
def T.impl_Lex : T :=
.op (.lenS (.x 0)) (
.op (.bin .gtr (.x 1) (.c (.v (.int .i64 4000)))) (
.ite (.x 2)
 (.chk (.one (.c (.v (.int .i64 5)))) (
 .chk (.cells (.agg [(.c (.v (.int .i64 5))), (.c (.v (.int .i64 0)))]) 2) (
 .ret [(.c (.sl [])), (.agg [(.c (.v (.int .i64 5))), (.c (.v (.int .i64 0)))])])))
 (.op (.scall F.impl_lexAll G.impl_lexAll [(.x 0), (.c (.v (.int .i64 1200)))]) (
 .op (.val (.ext 3 1)) (
 .chk (.cells (.x 4) 2) (
 .ret [(.ext 3 0), (.agg [(.cell 4 0), (.cell 4 1)])]))))))
theorem T.impl_Lex_l : leftS Tryd.prog CF G.impl_Lex Tryd.f12 = some T.impl_Lex := by kernel_rfl
theorem T.impl_Lex_scon {ins outs : List AV} (hl : ins.length = 1) (ho : outs.length = 2) (hn : AV.norefs ins = true) (hw : wpT Tryd.prog (fun _ _ _ => False) (fun a => a = packR outs) T.impl_Lex ins []) : SCon Tryd.prog F.impl_Lex G.impl_Lex ins outs :=
  scon_auto Tryd.func12 T.impl_Lex_l hl hn ho hw
def T.laws_big : T :=
.op (.lenL (.x 0)) (
.op (.bin .gtr (.x 1) (.c (.v (.int .i64 1048576)))) (
.ret [(.x 2)]))
theorem T.laws_big_l : leftF Tryd.prog CF Tryd.f17 = some (1, T.laws_big) := by kernel_rfl
theorem T.laws_big_con {args : List AV} {res : AV} (hl : args.length = 1) (hn : AV.norefs args = true) (hw : wpT Tryd.prog (fun _ _ _ => False) (fun a => a = res) T.laws_big args []) : PCon Tryd.prog F.laws_big args res :=
  con_auto Tryd.func17 T.laws_big_l hl hn hw
def T.spec_DrawSpell : T :=
.op (.scall F.spec_l1New G.spec_l1New [(.x 0)]) (
.op (.mkl (.agg [(.v (.int .i64 0)), (.v (.string ⟨#[]⟩)), (.v (.int .i64 0)), (.v (.int .i64 0))]) 0 []) (
.bind 4 (
 .op (.call F.spec_l1Size [(.x 0), (.c (.v (.int .i64 30)))] false) (
 .op (.scall F.spec_l1Below G.spec_l1Below [(.ext 1 0), (.ext 1 1), (.ext 1 2), (.x 3)]) (
 .loop [(.ext 4 1), (.ext 4 2), (.ext 4 3), (.x 2), (.ext 4 0)] (
  .op (.bin .gtr (.x 9) (.c (.v (.int .i64 0)))) (
  .ite (.x 10)
   (.bind 8 (
    .op (.scall F.spec_l1DrawToken G.spec_l1DrawToken [(.x 5), (.x 6), (.x 7)]) (
    .op (.val (.ext 11 0)) (
    .chk (.cells (.x 12) 4) (
    .bind 4 (
     .chk (.cells (.x 12) 4) (
     .op (.call F.spec_TokenOk [(.x 12)] false) (
     .ite (.x 13)
      (.op (.bin .neq (.cell 12 0) (.c (.v (.int .i64 8)))) (
      .ite (.x 14)
       (.jump [(.ext 11 1), (.ext 11 2), (.ext 11 3), (.c (.v (.bool true)))])
       (.op (.scall F.spec_l1Once G.spec_l1Once [(.ext 11 1), (.ext 11 2), (.ext 11 3), (.c (.v (.int .i64 8)))]) (
       .jump [(.ext 15 1), (.ext 15 2), (.ext 15 3), (.ext 15 0)]))))
      (.op (.scall F.spec_l1Once G.spec_l1Once [(.ext 11 1), (.ext 11 2), (.ext 11 3), (.c (.v (.int .i64 8)))]) (
      .jump [(.ext 14 1), (.ext 14 2), (.ext 14 3), (.ext 14 0)]))))) (
    .ite (.x 16)
     (.chk (.cells (.x 12) 4) (
     .chk (.cells (.x 12) 4) (
     .op (.mkl (.agg [(.v (.int .i64 0)), (.v (.string ⟨#[]⟩)), (.v (.int .i64 0)), (.v (.int .i64 0))]) 1 [(0, (.x 12))]) (
     .op (.app 4 40 (.x 8) (.sl (.x 17))) (
     .jump [(.x 13), (.x 14), (.x 15), (.x 18), (.cell 12 0), (.cell 12 1), (.cell 12 2), (.cell 12 3)])))))
     (.jump [(.x 13), (.x 14), (.x 15), (.x 8), (.cell 12 0), (.cell 12 1), (.cell 12 2), (.cell 12 3)])))))) (
   .op (.bin .sub (.x 9) (.c (.v (.int .i64 1)))) (
   .jump [(.x 11), (.x 12), (.x 13), (.x 14), (.x 19)])))
   (.esc (.jump [(.x 5), (.x 6), (.x 7), (.x 8)]))))))) (
.op (.scall F.spec_l1Once G.spec_l1Once [(.x 3), (.x 4), (.x 5), (.c (.v (.int .i64 60)))]) (
.ite (.ext 7 0)
 (.op (.scall F.spec_l1Below G.spec_l1Below [(.ext 7 1), (.ext 7 2), (.ext 7 3), (.c (.v (.int .i64 2)))]) (
 .op (.bin .add (.c (.v (.int .i64 1200))) (.ext 8 0)) (
 .op (.rep 40 (.agg [(.v (.int .i64 0)), (.v (.string ⟨#[]⟩)), (.v (.int .i64 0)), (.v (.int .i64 0))]) (.x 9) (.x 9)) (
 .loop [(.x 10), (.c (.v (.int .i64 0)))] (
  .op (.lenL (.sl (.x 11))) (
  .op (.bin .lss (.x 12) (.x 13)) (
  .ite (.x 14)
   (.chk (.idx (.x 11) (.x 12)) (
   .chk (.one (.c (.v (.int .i64 1)))) (
   .op (.set (.x 11) (.x 12) 0 1 (.c (.v (.int .i64 1)))) (
   .op (.bin .add (.x 12) (.c (.v (.int .i64 1)))) (
   .jump [(.x 15), (.x 16)])))))
   (.esc (.ret [(.sl (.x 11))])))))))))
 (.ret [(.sl (.x 6))])))))
theorem T.spec_DrawSpell_l : leftF Tryd.prog CF Tryd.f18 = some (1, T.spec_DrawSpell) := by kernel_rfl
theorem T.spec_DrawSpell_con {args : List AV} {res : AV} (hl : args.length = 1) (hn : AV.norefs args = true) (hw : wpT Tryd.prog (fun _ _ _ => False) (fun a => a = res) T.spec_DrawSpell args []) : PCon Tryd.prog F.spec_DrawSpell args res :=
  con_auto Tryd.func18 T.spec_DrawSpell_l hl hn hw
def T.spec_TokenOk : T :=
.chk (.cells (.x 0) 4) (
.bind 0 (
 .bind 1 (
  .op (.bin .lss (.cell 0 3) (.c (.v (.int .i64 0)))) (
  .ite (.x 1)
   (.jump [(.c (.v (.bool true)))])
   (.op (.bin .neq (.cell 0 0) (.c (.v (.int .i64 1)))) (
   .ite (.x 2)
    (.op (.bin .neq (.cell 0 2) (.c (.v (.int .i64 0)))) (
    .jump [(.x 3)]))
    (.jump [(.c (.v (.bool false)))]))))) (
 .ite (.x 1)
  (.esc (.ret [(.c (.v (.bool false)))]))
  (.jump []))) (
.bind 0 (
 .op (.bin .eql (.cell 0 0) (.c (.v (.int .i64 1)))) (
 .ite (.x 1)
  (.bind 1 (
   .op (.bin .geq (.cell 0 2) (.c (.v (.int .i64 0)))) (
   .ite (.x 2)
    (.op (.bin .eql (.cell 0 1) (.c (.v (.string ⟨#[]⟩)))) (
    .jump [(.x 3)]))
    (.jump [(.c (.v (.bool false)))]))) (
  .esc (.ret [(.x 2)])))
  (.op (.bin .eql (.cell 0 0) (.c (.v (.int .i64 2)))) (
  .ite (.x 2)
   (.op (.call F.spec_l1Chars [(.cell 0 1)] false) (
   .esc (.ret [(.x 3)])))
   (.op (.bin .eql (.cell 0 0) (.c (.v (.int .i64 3)))) (
   .ite (.x 3)
    (.op (.call F.spec_l1Low [(.cell 0 1)] false) (
    .esc (.ret [(.x 4)])))
    (.op (.bin .eql (.cell 0 0) (.c (.v (.int .i64 4)))) (
    .ite (.x 4)
     (.op (.call F.spec_l1Name [(.cell 0 1), (.c (.v (.bool true)))] false) (
     .esc (.ret [(.x 5)])))
     (.op (.bin .eql (.cell 0 0) (.c (.v (.int .i64 5)))) (
     .ite (.x 5)
      (.op (.call F.spec_l1Name [(.cell 0 1), (.c (.v (.bool false)))] false) (
      .esc (.ret [(.x 6)])))
      (.op (.bin .eql (.cell 0 0) (.c (.v (.int .i64 6)))) (
      .ite (.x 6)
       (.op (.call F.spec_l1Key [(.cell 0 1)] false) (
       .esc (.ret [(.x 7)])))
       (.op (.bin .eql (.cell 0 0) (.c (.v (.int .i64 7)))) (
       .ite (.x 7)
        (.op (.call F.spec_l1Sign [(.cell 0 1)] false) (
        .esc (.ret [(.x 8)])))
        (.op (.bin .eql (.cell 0 0) (.c (.v (.int .i64 8)))) (
        .ite (.x 8)
         (.op (.bin .eql (.cell 0 1) (.c (.v (.string ⟨#[]⟩)))) (
         .esc (.ret [(.x 9)])))
         (.jump []))))))))))))))))) (
.ret [(.c (.v (.bool false)))])))
theorem T.spec_TokenOk_l : leftF Tryd.prog CF Tryd.f19 = some (1, T.spec_TokenOk) := by kernel_rfl
theorem T.spec_TokenOk_con {args : List AV} {res : AV} (hl : args.length = 1) (hn : AV.norefs args = true) (hw : wpT Tryd.prog (fun _ _ _ => False) (fun a => a = res) T.spec_TokenOk args []) : PCon Tryd.prog F.spec_TokenOk args res :=
  con_auto Tryd.func19 T.spec_TokenOk_l hl hn hw
def T.impl_Spell : T :=
.op (.lenL (.x 0)) (
.op (.bin .gtr (.x 1) (.c (.v (.int .i64 1200)))) (
.ite (.x 2)
 (.ret [(.c (.v (.string ⟨#[]⟩)))])
 (.bind 1 (
  .op (.lenL (.x 0)) (
  .loop [(.c (.sl [])), (.c (.v (.int .i64 0)))] (
   .op (.bin .lss (.x 5) (.x 3)) (
   .ite (.x 6)
    (.bind 6 (
     .op (.elem 4 (.x 0) (.x 5)) (
     .chk (.cells (.x 7) 4) (
     .chk (.cells (.x 7) 4) (
     .bind 0 (
      .bind 1 (
       .chk (.cells (.x 7) 4) (
       .op (.call F.impl_TokenOk [(.x 7)] false) (
       .op (.un .not (.x 8)) (
       .ite (.x 9)
        (.jump [(.c (.v (.bool true)))])
        (.op (.bin .eql (.cell 7 0) (.c (.v (.int .i64 8)))) (
        .jump [(.x 10)])))))) (
      .ite (.x 8)
       (.esc (.esc (.esc (.esc (.ret [(.c (.v (.string ⟨#[]⟩)))])))))
       (.jump []))) (
     .chk (.cells (.x 7) 4) (
     .op (.call F.impl_SpellToken [(.x 7)] false) (
     .chk (.one (.x 8)) (
     .op (.mkl (.v (.string ⟨#[]⟩)) 1 [(0, (.x 8))]) (
     .op (.app 1 16 (.x 4) (.sl (.x 9))) (
     .jump [(.x 10), (.cell 7 0), (.cell 7 1), (.cell 7 2), (.cell 7 3), (.x 9)])))))))))) (
    .op (.bin .add (.x 5) (.c (.v (.int .i64 1)))) (
    .jump [(.x 7), (.x 13)])))
    (.esc (.jump [(.x 4)])))))) (
 .op (.call F.strings_Join [(.sl (.x 3)), (.c (.v (.string ⟨#[32]⟩)))] true) (
 .ret [(.x 4)])))))
theorem T.impl_Spell_l : leftF Tryd.prog CF Tryd.f20 = some (1, T.impl_Spell) := by kernel_rfl
theorem T.impl_Spell_con {args : List AV} {res : AV} (hl : args.length = 1) (hn : AV.norefs args = true) (hw : wpT Tryd.prog (fun _ _ _ => False) (fun a => a = res) T.impl_Spell args []) : PCon Tryd.prog F.impl_Spell args res :=
  con_auto Tryd.func20 T.impl_Spell_l hl hn hw
def T.impl_TokenOk : T :=
.chk (.cells (.x 0) 4) (
.bind 0 (
 .bind 1 (
  .op (.bin .lss (.cell 0 3) (.c (.v (.int .i64 0)))) (
  .ite (.x 1)
   (.jump [(.c (.v (.bool true)))])
   (.op (.bin .lss (.cell 0 2) (.c (.v (.int .i64 0)))) (
   .ite (.x 2)
    (.jump [(.c (.v (.bool true)))])
    (.op (.bin .neq (.cell 0 0) (.c (.v (.int .i64 1)))) (
    .ite (.x 3)
     (.op (.bin .neq (.cell 0 2) (.c (.v (.int .i64 0)))) (
     .jump [(.x 4)]))
     (.jump [(.c (.v (.bool false)))]))))))) (
 .ite (.x 1)
  (.esc (.ret [(.c (.v (.bool false)))]))
  (.jump []))) (
.bind 0 (
 .bind 1 (
  .op (.bin .eql (.cell 0 0) (.c (.v (.int .i64 1)))) (
  .ite (.x 1)
   (.jump [(.x 1)])
   (.op (.bin .eql (.cell 0 0) (.c (.v (.int .i64 8)))) (
   .jump [(.x 2)])))) (
 .ite (.x 1)
  (.op (.bin .eql (.cell 0 1) (.c (.v (.string ⟨#[]⟩)))) (
  .esc (.ret [(.x 2)])))
  (.op (.bin .eql (.cell 0 0) (.c (.v (.int .i64 2)))) (
  .ite (.x 2)
   (.op (.call F.impl_plain [(.cell 0 1)] false) (
   .esc (.ret [(.x 3)])))
   (.op (.bin .eql (.cell 0 0) (.c (.v (.int .i64 3)))) (
   .ite (.x 3)
    (.op (.call F.impl_lowOk [(.cell 0 1)] false) (
    .esc (.ret [(.x 4)])))
    (.op (.bin .eql (.cell 0 0) (.c (.v (.int .i64 4)))) (
    .ite (.x 4)
     (.op (.call F.impl_upOk [(.cell 0 1)] false) (
     .esc (.ret [(.x 5)])))
     (.op (.bin .eql (.cell 0 0) (.c (.v (.int .i64 5)))) (
     .ite (.x 5)
      (.op (.call F.impl_isName [(.cell 0 1), (.c (.fn F.impl_small []))] false) (
      .esc (.ret [(.x 6)])))
      (.op (.bin .eql (.cell 0 0) (.c (.v (.int .i64 6)))) (
      .ite (.x 6)
       (.op (.call F.impl_isKey [(.cell 0 1)] false) (
       .esc (.ret [(.x 7)])))
       (.op (.bin .eql (.cell 0 0) (.c (.v (.int .i64 7)))) (
       .ite (.x 7)
        (.op (.call F.impl_signs [] false) (
        .op (.call F.slices_Contains__string_string [(.x 8), (.cell 0 1)] true) (
        .esc (.ret [(.x 9)]))))
        (.jump []))))))))))))))) (
.ret [(.c (.v (.bool false)))])))
theorem T.impl_TokenOk_l : leftF Tryd.prog CF Tryd.f21 = some (1, T.impl_TokenOk) := by kernel_rfl
theorem T.impl_TokenOk_con {args : List AV} {res : AV} (hl : args.length = 1) (hn : AV.norefs args = true) (hw : wpT Tryd.prog (fun _ _ _ => False) (fun a => a = res) T.impl_TokenOk args []) : PCon Tryd.prog F.impl_TokenOk args res :=
  con_auto Tryd.func21 T.impl_TokenOk_l hl hn hw
def T.impl_lexAll : T :=
.bind 1 (
 .loop [(.c (.sl [])), (.c (.v (.int .i64 0)))] (
  .op (.lenS (.x 0)) (
  .op (.bin .lss (.x 3) (.x 4)) (
  .ite (.x 5)
   (.bind 0 (
    .op (.idxS (.x 0) (.x 3)) (
    .bind 1 (
     .op (.bin .eql (.x 6) (.c (.v (.int .u8 32)))) (
     .ite (.x 7)
      (.jump [(.x 7)])
      (.op (.bin .eql (.x 6) (.c (.v (.int .u8 9)))) (
      .ite (.x 8)
       (.jump [(.x 8)])
       (.op (.bin .eql (.x 6) (.c (.v (.int .u8 10)))) (
       .jump [(.x 9)])))))) (
    .ite (.x 7)
     (.op (.bin .add (.x 3) (.c (.v (.int .i64 1)))) (
     .esc (.jump [(.x 2), (.x 8)])))
     (.op (.bin .eql (.x 6) (.c (.v (.int .u8 35)))) (
     .ite (.x 8)
      (.op (.call F.impl_run [(.x 0), (.x 3), (.c (.fn F.impl_lexAll_1 []))] false) (
      .esc (.jump [(.x 2), (.x 9)])))
      (.jump [])))))) (
   .op (.call F.impl_lexOne [(.x 0), (.x 3)] false) (
   .chk (.tup (.x 6) 0) (
   .chk (.tup (.x 6) 1) (
   .chk (.tup (.x 6) 2) (
   .op (.val (.ext 6 0)) (
   .chk (.cells (.x 7) 4) (
   .op (.val (.ext 6 2)) (
   .chk (.cells (.x 8) 2) (
   .op (.bin .neq (.cell 8 0) (.c (.v (.int .i64 0)))) (
   .ite (.x 9)
    (.chk (.cells (.x 8) 2) (
    .chk (.cells (.x 8) 2) (
    .esc (.esc (.ret [(.c (.sl [])), (.agg [(.cell 8 0), (.cell 8 1)])])))))
    (.op (.lenL (.sl (.x 2))) (
    .op (.bin .eql (.x 10) (.x 1)) (
    .ite (.x 11)
     (.chk (.one (.c (.v (.int .i64 5)))) (
     .chk (.one (.x 3)) (
     .chk (.cells (.agg [(.c (.v (.int .i64 5))), (.x 3)]) 2) (
     .esc (.esc (.ret [(.c (.sl [])), (.agg [(.c (.v (.int .i64 5))), (.x 3)])]))))))
     (.chk (.cells (.x 7) 4) (
     .chk (.cells (.x 7) 4) (
     .op (.mkl (.agg [(.v (.int .i64 0)), (.v (.string ⟨#[]⟩)), (.v (.int .i64 0)), (.v (.int .i64 0))]) 1 [(0, (.x 7))]) (
     .op (.app 4 40 (.x 2) (.sl (.x 12))) (
     .jump [(.x 13), (.ext 6 1)])))))))))))))))))))
   (.esc (.jump [(.x 2)])))))) (
.op (.lenS (.x 0)) (
.chk (.one (.c (.v (.int .i64 8)))) (
.chk (.one (.x 3)) (
.chk (.cells (.agg [(.c (.v (.int .i64 8))), (.c (.v (.string ⟨#[]⟩))), (.c (.v (.int .i64 0))), (.x 3)]) 4) (
.op (.mkl (.agg [(.v (.int .i64 0)), (.v (.string ⟨#[]⟩)), (.v (.int .i64 0)), (.v (.int .i64 0))]) 1 [(0, (.agg [(.c (.v (.int .i64 8))), (.c (.v (.string ⟨#[]⟩))), (.c (.v (.int .i64 0))), (.x 3)]))]) (
.op (.app 4 40 (.x 2) (.sl (.x 4))) (
.chk (.cells (.agg [(.c (.v (.int .i64 0))), (.c (.v (.int .i64 0)))]) 2) (
.ret [(.x 5), (.agg [(.c (.v (.int .i64 0))), (.c (.v (.int .i64 0)))])]))))))))
theorem T.impl_lexAll_l : leftS Tryd.prog CF G.impl_lexAll Tryd.f36 = some T.impl_lexAll := by kernel_rfl
theorem T.impl_lexAll_scon {ins outs : List AV} (hl : ins.length = 2) (ho : outs.length = 2) (hn : AV.norefs ins = true) (hw : wpT Tryd.prog (fun _ _ _ => False) (fun a => a = packR outs) T.impl_lexAll ins []) : SCon Tryd.prog F.impl_lexAll G.impl_lexAll ins outs :=
  scon_auto Tryd.func36 T.impl_lexAll_l hl hn ho hw
def T.spec_l1New : T :=
.op (.lenL (.x 0)) (
.op (.bin .add (.c (.v (.int .i64 80080))) (.x 1)) (
.bind 1 (
 .loop [(.x 2), (.c (.v (.int .i64 0)))] (
  .bind 0 (
   .bind 1 (
    .op (.lenL (.x 0)) (
    .op (.bin .lss (.x 4) (.x 5)) (
    .ite (.x 6)
     (.op (.bin .lss (.x 4) (.c (.v (.int .i64 4000)))) (
     .jump [(.x 7)]))
     (.jump [(.c (.v (.bool false)))])))) (
   .ite (.x 5)
    (.jump [])
    (.esc (.esc (.jump [(.x 3)]))))) (
  .op (.bin .mul (.x 3) (.c (.v (.int .i64 137)))) (
  .op (.elem 1 (.x 0) (.x 4)) (
  .chk (.lt (.x 6) 0) (
  .op (.conv .i64 (.cell 6 0)) (
  .op (.bin .add (.x 5) (.x 7)) (
  .op (.bin .add (.x 8) (.c (.v (.int .i64 11)))) (
  .op (.bin .and (.x 9) (.c (.v (.int .i64 1073741823)))) (
  .op (.bin .add (.x 4) (.c (.v (.int .i64 1)))) (
  .jump [(.x 10), (.x 11)]))))))))))) (
.chk (.one (.x 0)) (
.chk (.one (.x 3)) (
.chk (.cells (.agg [(.x 0), (.c (.v (.int .i64 0))), (.x 3)]) 3) (
.ret [(.x 0), (.c (.v (.int .i64 0))), (.x 3)]))))))
theorem T.spec_l1New_l : leftS Tryd.prog CF G.spec_l1New Tryd.f39 = some T.spec_l1New := by kernel_rfl
theorem T.spec_l1New_scon {ins outs : List AV} (hl : ins.length = 1) (ho : outs.length = 3) (hn : AV.norefs ins = true) (hw : wpT Tryd.prog (fun _ _ _ => False) (fun a => a = packR outs) T.spec_l1New ins []) : SCon Tryd.prog F.spec_l1New G.spec_l1New ins outs :=
  scon_auto Tryd.func39 T.spec_l1New_l hl hn ho hw
def T.spec_l1Below : T :=
.op (.bin .leq (.x 3) (.c (.v (.int .i64 0)))) (
.ite (.x 4)
 (.ret [(.c (.v (.int .i64 0))), (.x 0), (.x 1), (.x 2)])
 (.op (.bin .leq (.x 3) (.c (.v (.int .i64 256)))) (
 .ite (.x 5)
  (.op (.scall F.spec_l1Byte G.spec_l1Byte [(.x 0), (.x 1), (.x 2)]) (
  .op (.bin .rem (.ext 6 0) (.x 3)) (
  .ret [(.x 7), (.ext 6 1), (.ext 6 2), (.ext 6 3)])))
  (.op (.scall F.spec_l1Byte G.spec_l1Byte [(.x 0), (.x 1), (.x 2)]) (
  .op (.scall F.spec_l1Byte G.spec_l1Byte [(.ext 6 1), (.ext 6 2), (.ext 6 3)]) (
  .op (.scall F.spec_l1Byte G.spec_l1Byte [(.ext 7 1), (.ext 7 2), (.ext 7 3)]) (
  .op (.bin .mul (.ext 6 0) (.c (.v (.int .i64 65536)))) (
  .op (.bin .mul (.ext 7 0) (.c (.v (.int .i64 256)))) (
  .op (.bin .add (.x 9) (.x 10)) (
  .op (.bin .add (.x 11) (.ext 8 0)) (
  .op (.bin .rem (.x 12) (.x 3)) (
  .ret [(.x 13), (.ext 8 1), (.ext 8 2), (.ext 8 3)]))))))))))))
theorem T.spec_l1Below_l : leftS Tryd.prog CF G.spec_l1Below Tryd.f40 = some T.spec_l1Below := by kernel_rfl
theorem T.spec_l1Below_scon {ins outs : List AV} (hl : ins.length = 4) (ho : outs.length = 4) (hn : AV.norefs ins = true) (hw : wpT Tryd.prog (fun _ _ _ => False) (fun a => a = packR outs) T.spec_l1Below ins []) : SCon Tryd.prog F.spec_l1Below G.spec_l1Below ins outs :=
  scon_auto Tryd.func40 T.spec_l1Below_l hl hn ho hw
def T.spec_l1Size : T :=
.op (.lenL (.x 0)) (
.op (.bin .quo (.x 2) (.c (.v (.int .i64 12)))) (
.op (.bin .add (.c (.v (.int .i64 3))) (.x 3)) (
.op (.bin .gtr (.x 4) (.x 1)) (
.ite (.x 5)
 (.ret [(.x 1)])
 (.ret [(.x 4)])))))
theorem T.spec_l1Size_l : leftF Tryd.prog CF Tryd.f41 = some (2, T.spec_l1Size) := by kernel_rfl
theorem T.spec_l1Size_con {args : List AV} {res : AV} (hl : args.length = 2) (hn : AV.norefs args = true) (hw : wpT Tryd.prog (fun _ _ _ => False) (fun a => a = res) T.spec_l1Size args []) : PCon Tryd.prog F.spec_l1Size args res :=
  con_auto Tryd.func41 T.spec_l1Size_l hl hn hw
def T.spec_l1DrawToken : T :=
.op (.scall F.spec_l1Below G.spec_l1Below [(.x 0), (.x 1), (.x 2), (.c (.v (.int .i64 7)))]) (
.op (.bin .add (.c (.v (.int .i64 1))) (.ext 3 0)) (
.op (.scall F.spec_l1Below G.spec_l1Below [(.ext 3 1), (.ext 3 2), (.ext 3 3), (.c (.v (.int .i64 50)))]) (
.chk (.one (.x 4)) (
.chk (.one (.ext 5 0)) (
.chk (.cells (.agg [(.x 4), (.c (.v (.string ⟨#[]⟩))), (.c (.v (.int .i64 0))), (.ext 5 0)]) 4) (
.bind 5 (
 .op (.bin .eql (.x 4) (.c (.v (.int .i64 1)))) (
 .ite (.x 6)
  (.op (.scall F.spec_l1Below G.spec_l1Below [(.ext 5 1), (.ext 5 2), (.ext 5 3), (.c (.v (.int .i64 1000)))]) (
  .chk (.one (.c (.v (.int .i64 0)))) (
  .chk (.one (.c (.v (.int .i64 7)))) (
  .chk (.one (.c (.v (.int .i64 42)))) (
  .chk (.one (.c (.v (.int .i64 9223372036854775807)))) (
  .chk (.one (.ext 7 0)) (
  .op (.mkl (.v (.int .i64 0)) 5 [(0, (.c (.v (.int .i64 0)))), (1, (.c (.v (.int .i64 7)))), (2, (.c (.v (.int .i64 42)))), (3, (.c (.v (.int .i64 9223372036854775807)))), (4, (.ext 7 0))]) (
  .op (.scall F.spec_l1Int G.spec_l1Int [(.ext 7 1), (.ext 7 2), (.ext 7 3), (.sl (.x 8))]) (
  .chk (.one (.ext 9 0)) (
  .jump [(.ext 9 1), (.ext 9 2), (.ext 9 3), (.c (.v (.string ⟨#[]⟩))), (.ext 9 0)]))))))))))
  (.op (.bin .eql (.x 4) (.c (.v (.int .i64 2)))) (
  .ite (.x 7)
   (.chk (.one (.c (.v (.string ⟨#[]⟩)))) (
   .chk (.one (.c (.v (.string ⟨#[97, 98, 32, 99]⟩)))) (
   .chk (.one (.c (.v (.string ⟨#[34]⟩)))) (
   .chk (.one (.c (.v (.string ⟨#[92]⟩)))) (
   .chk (.one (.c (.v (.string ⟨#[10]⟩)))) (
   .chk (.one (.c (.v (.string ⟨#[35, 120]⟩)))) (
   .op (.mkl (.v (.string ⟨#[]⟩)) 6 [(0, (.c (.v (.string ⟨#[]⟩)))), (1, (.c (.v (.string ⟨#[97, 98, 32, 99]⟩)))), (2, (.c (.v (.string ⟨#[34]⟩)))), (3, (.c (.v (.string ⟨#[92]⟩)))), (4, (.c (.v (.string ⟨#[10]⟩)))), (5, (.c (.v (.string ⟨#[35, 120]⟩))))]) (
   .op (.scall F.spec_l1Str G.spec_l1Str [(.ext 5 1), (.ext 5 2), (.ext 5 3), (.sl (.x 8))]) (
   .chk (.one (.ext 9 0)) (
   .jump [(.ext 9 1), (.ext 9 2), (.ext 9 3), (.ext 9 0), (.c (.v (.int .i64 0)))]))))))))))
   (.op (.bin .eql (.x 4) (.c (.v (.int .i64 3)))) (
   .ite (.x 8)
    (.chk (.one (.c (.v (.string ⟨#[120]⟩)))) (
    .chk (.one (.c (.v (.string ⟨#[102, 111, 111]⟩)))) (
    .chk (.one (.c (.v (.string ⟨#[108, 101, 116, 115]⟩)))) (
    .chk (.one (.c (.v (.string ⟨#[97, 98, 99, 100, 101, 102, 103, 104, 105, 106, 107, 108]⟩)))) (
    .chk (.one (.c (.v (.string ⟨#[97, 95, 49]⟩)))) (
    .op (.mkl (.v (.string ⟨#[]⟩)) 5 [(0, (.c (.v (.string ⟨#[120]⟩)))), (1, (.c (.v (.string ⟨#[102, 111, 111]⟩)))), (2, (.c (.v (.string ⟨#[108, 101, 116, 115]⟩)))), (3, (.c (.v (.string ⟨#[97, 98, 99, 100, 101, 102, 103, 104, 105, 106, 107, 108]⟩)))), (4, (.c (.v (.string ⟨#[97, 95, 49]⟩))))]) (
    .op (.scall F.spec_l1Str G.spec_l1Str [(.ext 5 1), (.ext 5 2), (.ext 5 3), (.sl (.x 9))]) (
    .chk (.one (.ext 10 0)) (
    .jump [(.ext 10 1), (.ext 10 2), (.ext 10 3), (.ext 10 0), (.c (.v (.int .i64 0)))])))))))))
    (.op (.bin .eql (.x 4) (.c (.v (.int .i64 4)))) (
    .ite (.x 9)
     (.chk (.one (.c (.v (.string ⟨#[78, 105, 108]⟩)))) (
     .chk (.one (.c (.v (.string ⟨#[67, 111, 110, 115]⟩)))) (
     .chk (.one (.c (.v (.string ⟨#[65]⟩)))) (
     .chk (.one (.c (.v (.string ⟨#[66, 50]⟩)))) (
     .op (.mkl (.v (.string ⟨#[]⟩)) 4 [(0, (.c (.v (.string ⟨#[78, 105, 108]⟩)))), (1, (.c (.v (.string ⟨#[67, 111, 110, 115]⟩)))), (2, (.c (.v (.string ⟨#[65]⟩)))), (3, (.c (.v (.string ⟨#[66, 50]⟩))))]) (
     .op (.scall F.spec_l1Str G.spec_l1Str [(.ext 5 1), (.ext 5 2), (.ext 5 3), (.sl (.x 10))]) (
     .chk (.one (.ext 11 0)) (
     .jump [(.ext 11 1), (.ext 11 2), (.ext 11 3), (.ext 11 0), (.c (.v (.int .i64 0)))]))))))))
     (.op (.bin .eql (.x 4) (.c (.v (.int .i64 5)))) (
     .ite (.x 10)
      (.chk (.one (.c (.v (.string ⟨#[97]⟩)))) (
      .chk (.one (.c (.v (.string ⟨#[98]⟩)))) (
      .chk (.one (.c (.v (.string ⟨#[108, 101, 116]⟩)))) (
      .op (.mkl (.v (.string ⟨#[]⟩)) 3 [(0, (.c (.v (.string ⟨#[97]⟩)))), (1, (.c (.v (.string ⟨#[98]⟩)))), (2, (.c (.v (.string ⟨#[108, 101, 116]⟩))))]) (
      .op (.scall F.spec_l1Str G.spec_l1Str [(.ext 5 1), (.ext 5 2), (.ext 5 3), (.sl (.x 11))]) (
      .chk (.one (.ext 12 0)) (
      .jump [(.ext 12 1), (.ext 12 2), (.ext 12 3), (.ext 12 0), (.c (.v (.int .i64 0)))])))))))
      (.op (.bin .eql (.x 4) (.c (.v (.int .i64 6)))) (
      .ite (.x 11)
       (.chk (.one (.c (.v (.string ⟨#[108, 101, 116]⟩)))) (
       .chk (.one (.c (.v (.string ⟨#[105, 110]⟩)))) (
       .chk (.one (.c (.v (.string ⟨#[102, 117, 110]⟩)))) (
       .chk (.one (.c (.v (.string ⟨#[109, 97, 116, 99, 104]⟩)))) (
       .chk (.one (.c (.v (.string ⟨#[114, 101, 97, 100]⟩)))) (
       .chk (.one (.c (.v (.string ⟨#[115, 105, 122, 101]⟩)))) (
       .op (.mkl (.v (.string ⟨#[]⟩)) 6 [(0, (.c (.v (.string ⟨#[108, 101, 116]⟩)))), (1, (.c (.v (.string ⟨#[105, 110]⟩)))), (2, (.c (.v (.string ⟨#[102, 117, 110]⟩)))), (3, (.c (.v (.string ⟨#[109, 97, 116, 99, 104]⟩)))), (4, (.c (.v (.string ⟨#[114, 101, 97, 100]⟩)))), (5, (.c (.v (.string ⟨#[115, 105, 122, 101]⟩))))]) (
       .op (.scall F.spec_l1Str G.spec_l1Str [(.ext 5 1), (.ext 5 2), (.ext 5 3), (.sl (.x 12))]) (
       .chk (.one (.ext 13 0)) (
       .jump [(.ext 13 1), (.ext 13 2), (.ext 13 3), (.ext 13 0), (.c (.v (.int .i64 0)))]))))))))))
       (.op (.bin .eql (.x 4) (.c (.v (.int .i64 7)))) (
       .ite (.x 12)
        (.op (.call F.spec_l1Signs [] false) (
        .op (.scall F.spec_l1Str G.spec_l1Str [(.ext 5 1), (.ext 5 2), (.ext 5 3), (.x 13)]) (
        .chk (.one (.ext 14 0)) (
        .jump [(.ext 14 1), (.ext 14 2), (.ext 14 3), (.ext 14 0), (.c (.v (.int .i64 0)))]))))
        (.jump [(.ext 5 1), (.ext 5 2), (.ext 5 3), (.c (.v (.string ⟨#[]⟩))), (.c (.v (.int .i64 0)))]))))))))))))))) (
.bind 7 (
 .op (.scall F.spec_l1Below G.spec_l1Below [(.x 6), (.x 7), (.x 8), (.c (.v (.int .i64 40)))]) (
 .op (.bin .eql (.ext 11 0) (.c (.v (.int .i64 0)))) (
 .ite (.x 12)
  (.chk (.one (.c (.v (.int .i64 0)))) (
  .chk (.one (.c (.v (.int .i64 8)))) (
  .chk (.one (.c (.v (.int .i64 9)))) (
  .op (.mkl (.v (.int .i64 0)) 3 [(0, (.c (.v (.int .i64 0)))), (1, (.c (.v (.int .i64 8)))), (2, (.c (.v (.int .i64 9))))]) (
  .op (.scall F.spec_l1Int G.spec_l1Int [(.ext 11 1), (.ext 11 2), (.ext 11 3), (.sl (.x 13))]) (
  .chk (.one (.ext 14 0)) (
  .jump [(.ext 14 1), (.ext 14 2), (.ext 14 3), (.ext 14 0), (.x 9), (.x 10), (.ext 5 0)])))))))
  (.op (.bin .eql (.ext 11 0) (.c (.v (.int .i64 1)))) (
  .ite (.x 13)
   (.op (.scall F.spec_l1Odd G.spec_l1Odd [(.ext 11 1), (.ext 11 2), (.ext 11 3)]) (
   .chk (.one (.ext 14 0)) (
   .jump [(.ext 14 1), (.ext 14 2), (.ext 14 3), (.x 4), (.x 9), (.ext 14 0), (.ext 5 0)])))
   (.op (.bin .eql (.ext 11 0) (.c (.v (.int .i64 2)))) (
   .ite (.x 14)
    (.chk (.one (.c (.v (.string ⟨#[]⟩)))) (
    .chk (.one (.c (.v (.string ⟨#[120, 32, 121]⟩)))) (
    .chk (.one (.c (.v (.string ⟨#[9]⟩)))) (
    .chk (.one (.c (.v (.string ⟨#[97, 98, 99, 100, 101, 102, 103, 104, 105, 106, 107, 108, 109]⟩)))) (
    .chk (.one (.c (.v (.string ⟨#[88]⟩)))) (
    .chk (.one (.c (.v (.string ⟨#[39, 97]⟩)))) (
    .chk (.one (.c (.v (.string ⟨#[108, 101, 116]⟩)))) (
    .op (.mkl (.v (.string ⟨#[]⟩)) 7 [(0, (.c (.v (.string ⟨#[]⟩)))), (1, (.c (.v (.string ⟨#[120, 32, 121]⟩)))), (2, (.c (.v (.string ⟨#[9]⟩)))), (3, (.c (.v (.string ⟨#[97, 98, 99, 100, 101, 102, 103, 104, 105, 106, 107, 108, 109]⟩)))), (4, (.c (.v (.string ⟨#[88]⟩)))), (5, (.c (.v (.string ⟨#[39, 97]⟩)))), (6, (.c (.v (.string ⟨#[108, 101, 116]⟩))))]) (
    .op (.scall F.spec_l1Str G.spec_l1Str [(.ext 11 1), (.ext 11 2), (.ext 11 3), (.sl (.x 15))]) (
    .chk (.one (.ext 16 0)) (
    .jump [(.ext 16 1), (.ext 16 2), (.ext 16 3), (.x 4), (.ext 16 0), (.x 10), (.ext 5 0)])))))))))))
    (.op (.bin .eql (.ext 11 0) (.c (.v (.int .i64 3)))) (
    .ite (.x 15)
     (.chk (.one (.c (.v (.int .i64 (-1))))) (
     .chk (.one (.c (.v (.int .i64 0)))) (
     .op (.mkl (.v (.int .i64 0)) 2 [(0, (.c (.v (.int .i64 (-1))))), (1, (.c (.v (.int .i64 0))))]) (
     .op (.scall F.spec_l1Int G.spec_l1Int [(.ext 11 1), (.ext 11 2), (.ext 11 3), (.sl (.x 16))]) (
     .chk (.one (.ext 17 0)) (
     .jump [(.ext 17 1), (.ext 17 2), (.ext 17 3), (.x 4), (.x 9), (.x 10), (.ext 17 0)]))))))
     (.jump [(.ext 11 1), (.ext 11 2), (.ext 11 3), (.x 4), (.x 9), (.x 10), (.ext 5 0)])))))))))) (
.chk (.cells (.agg [(.x 14), (.x 15), (.x 16), (.x 17)]) 4) (
.ret [(.agg [(.x 14), (.x 15), (.x 16), (.x 17)]), (.x 11), (.x 12), (.x 13)])))))))))
theorem T.spec_l1DrawToken_l : leftS Tryd.prog CF G.spec_l1DrawToken Tryd.f42 = some T.spec_l1DrawToken := by kernel_rfl
theorem T.spec_l1DrawToken_scon {ins outs : List AV} (hl : ins.length = 3) (ho : outs.length = 4) (hn : AV.norefs ins = true) (hw : wpT Tryd.prog (fun _ _ _ => False) (fun a => a = packR outs) T.spec_l1DrawToken ins []) : SCon Tryd.prog F.spec_l1DrawToken G.spec_l1DrawToken ins outs :=
  scon_auto Tryd.func42 T.spec_l1DrawToken_l hl hn ho hw
def T.spec_l1Once : T :=
.op (.scall F.spec_l1Below G.spec_l1Below [(.x 0), (.x 1), (.x 2), (.x 3)]) (
.op (.bin .eql (.ext 4 0) (.c (.v (.int .i64 0)))) (
.ret [(.x 5), (.ext 4 1), (.ext 4 2), (.ext 4 3)]))
theorem T.spec_l1Once_l : leftS Tryd.prog CF G.spec_l1Once Tryd.f43 = some T.spec_l1Once := by kernel_rfl
theorem T.spec_l1Once_scon {ins outs : List AV} (hl : ins.length = 4) (ho : outs.length = 4) (hn : AV.norefs ins = true) (hw : wpT Tryd.prog (fun _ _ _ => False) (fun a => a = packR outs) T.spec_l1Once ins []) : SCon Tryd.prog F.spec_l1Once G.spec_l1Once ins outs :=
  scon_auto Tryd.func43 T.spec_l1Once_l hl hn ho hw
def T.spec_l1Chars : T :=
.bind 0 (
 .loop [(.c (.v (.int .i64 0)))] (
  .op (.lenS (.x 0)) (
  .op (.bin .lss (.x 1) (.x 2)) (
  .ite (.x 3)
   (.bind 0 (
    .bind 1 (
     .op (.idxS (.x 0) (.x 1)) (
     .op (.bin .neq (.x 4) (.c (.v (.int .u8 10)))) (
     .ite (.x 5)
      (.op (.idxS (.x 0) (.x 1)) (
      .op (.conv .i64 (.x 6)) (
      .op (.call F.spec_l1In [(.x 7), (.c (.v (.int .i64 32))), (.c (.v (.int .i64 126)))] false) (
      .op (.un .not (.x 8)) (
      .jump [(.x 9)])))))
      (.jump [(.c (.v (.bool false)))])))) (
    .ite (.x 4)
     (.esc (.esc (.esc (.ret [(.c (.v (.bool false)))]))))
     (.jump []))) (
   .op (.bin .add (.x 1) (.c (.v (.int .i64 1)))) (
   .jump [(.x 4)])))
   (.esc (.jump [])))))) (
.ret [(.c (.v (.bool true)))])
theorem T.spec_l1Chars_l : leftF Tryd.prog CF Tryd.f44 = some (1, T.spec_l1Chars) := by kernel_rfl
theorem T.spec_l1Chars_con {args : List AV} {res : AV} (hl : args.length = 1) (hn : AV.norefs args = true) (hw : wpT Tryd.prog (fun _ _ _ => False) (fun a => a = res) T.spec_l1Chars args []) : PCon Tryd.prog F.spec_l1Chars args res :=
  con_auto Tryd.func44 T.spec_l1Chars_l hl hn hw
def T.spec_l1Low : T :=
.bind 1 (
 .op (.call F.spec_l1Name [(.x 0), (.c (.v (.bool false)))] false) (
 .ite (.x 1)
  (.op (.call F.spec_l1Key [(.x 0)] false) (
  .op (.un .not (.x 2)) (
  .jump [(.x 3)])))
  (.jump [(.c (.v (.bool false)))]))) (
.ret [(.x 1)])
theorem T.spec_l1Low_l : leftF Tryd.prog CF Tryd.f45 = some (1, T.spec_l1Low) := by kernel_rfl
theorem T.spec_l1Low_con {args : List AV} {res : AV} (hl : args.length = 1) (hn : AV.norefs args = true) (hw : wpT Tryd.prog (fun _ _ _ => False) (fun a => a = res) T.spec_l1Low args []) : PCon Tryd.prog F.spec_l1Low args res :=
  con_auto Tryd.func45 T.spec_l1Low_l hl hn hw
def T.spec_l1Name : T :=
.bind 0 (
 .bind 1 (
  .op (.lenS (.x 0)) (
  .op (.call F.spec_l1In [(.x 2), (.c (.v (.int .i64 1))), (.c (.v (.int .i64 12)))] false) (
  .op (.un .not (.x 3)) (
  .ite (.x 4)
   (.jump [(.c (.v (.bool true)))])
   (.op (.idxS (.x 0) (.c (.v (.int .i64 0)))) (
   .op (.conv .i64 (.x 5)) (
   .op (.call F.spec_l1Upper [(.x 6)] false) (
   .op (.beq true (.x 1) (.x 7)) (
   .ite (.x 8)
    (.jump [(.c (.v (.bool true)))])
    (.op (.un .not (.x 1)) (
    .ite (.x 9)
     (.op (.idxS (.x 0) (.c (.v (.int .i64 0)))) (
     .op (.conv .i64 (.x 10)) (
     .op (.call F.spec_l1Lower [(.x 11)] false) (
     .op (.un .not (.x 12)) (
     .jump [(.x 13)])))))
     (.jump [(.c (.v (.bool false)))])))))))))))) (
 .ite (.x 2)
  (.esc (.ret [(.c (.v (.bool false)))]))
  (.jump []))) (
.bind 0 (
 .loop [(.c (.v (.int .i64 0)))] (
  .op (.lenS (.x 0)) (
  .op (.bin .lss (.x 2) (.x 3)) (
  .ite (.x 4)
   (.op (.idxS (.x 0) (.x 2)) (
   .op (.conv .i64 (.x 5)) (
   .op (.call F.spec_l1NameByte [(.x 6)] false) (
   .op (.un .not (.x 7)) (
   .ite (.x 8)
    (.esc (.esc (.ret [(.c (.v (.bool false)))])))
    (.op (.bin .add (.x 2) (.c (.v (.int .i64 1)))) (
    .jump [(.x 9)])))))))
   (.esc (.jump [])))))) (
.ret [(.c (.v (.bool true)))]))
theorem T.spec_l1Name_l : leftF Tryd.prog CF Tryd.f46 = some (2, T.spec_l1Name) := by kernel_rfl
theorem T.spec_l1Name_con {args : List AV} {res : AV} (hl : args.length = 2) (hn : AV.norefs args = true) (hw : wpT Tryd.prog (fun _ _ _ => False) (fun a => a = res) T.spec_l1Name args []) : PCon Tryd.prog F.spec_l1Name args res :=
  con_auto Tryd.func46 T.spec_l1Name_l hl hn hw
def T.spec_l1Key : T :=
.chk (.one (.c (.v (.string ⟨#[116, 121, 112, 101]⟩)))) (
.chk (.one (.c (.v (.string ⟨#[111, 102]⟩)))) (
.chk (.one (.c (.v (.string ⟨#[108, 101, 116]⟩)))) (
.chk (.one (.c (.v (.string ⟨#[114, 101, 99]⟩)))) (
.chk (.one (.c (.v (.string ⟨#[105, 110]⟩)))) (
.chk (.one (.c (.v (.string ⟨#[102, 117, 110]⟩)))) (
.chk (.one (.c (.v (.string ⟨#[105, 102]⟩)))) (
.chk (.one (.c (.v (.string ⟨#[116, 104, 101, 110]⟩)))) (
.chk (.one (.c (.v (.string ⟨#[101, 108, 115, 101]⟩)))) (
.chk (.one (.c (.v (.string ⟨#[109, 97, 116, 99, 104]⟩)))) (
.chk (.one (.c (.v (.string ⟨#[119, 105, 116, 104]⟩)))) (
.chk (.one (.c (.v (.string ⟨#[101, 110, 100]⟩)))) (
.chk (.one (.c (.v (.string ⟨#[116, 114, 117, 101]⟩)))) (
.chk (.one (.c (.v (.string ⟨#[102, 97, 108, 115, 101]⟩)))) (
.chk (.one (.c (.v (.string ⟨#[114, 101, 102]⟩)))) (
.chk (.one (.c (.v (.string ⟨#[114, 101, 97, 100]⟩)))) (
.chk (.one (.c (.v (.string ⟨#[112, 114, 105, 110, 116]⟩)))) (
.chk (.one (.c (.v (.string ⟨#[101, 120, 105, 116]⟩)))) (
.chk (.one (.c (.v (.string ⟨#[115, 105, 122, 101]⟩)))) (
.op (.mkl (.v (.string ⟨#[]⟩)) 19 [(0, (.c (.v (.string ⟨#[116, 121, 112, 101]⟩)))), (1, (.c (.v (.string ⟨#[111, 102]⟩)))), (2, (.c (.v (.string ⟨#[108, 101, 116]⟩)))), (3, (.c (.v (.string ⟨#[114, 101, 99]⟩)))), (4, (.c (.v (.string ⟨#[105, 110]⟩)))), (5, (.c (.v (.string ⟨#[102, 117, 110]⟩)))), (6, (.c (.v (.string ⟨#[105, 102]⟩)))), (7, (.c (.v (.string ⟨#[116, 104, 101, 110]⟩)))), (8, (.c (.v (.string ⟨#[101, 108, 115, 101]⟩)))), (9, (.c (.v (.string ⟨#[109, 97, 116, 99, 104]⟩)))), (10, (.c (.v (.string ⟨#[119, 105, 116, 104]⟩)))), (11, (.c (.v (.string ⟨#[101, 110, 100]⟩)))), (12, (.c (.v (.string ⟨#[116, 114, 117, 101]⟩)))), (13, (.c (.v (.string ⟨#[102, 97, 108, 115, 101]⟩)))), (14, (.c (.v (.string ⟨#[114, 101, 102]⟩)))), (15, (.c (.v (.string ⟨#[114, 101, 97, 100]⟩)))), (16, (.c (.v (.string ⟨#[112, 114, 105, 110, 116]⟩)))), (17, (.c (.v (.string ⟨#[101, 120, 105, 116]⟩)))), (18, (.c (.v (.string ⟨#[115, 105, 122, 101]⟩))))]) (
.bind 0 (
 .loop [(.c (.v (.int .i64 0)))] (
  .op (.lenL (.sl (.x 1))) (
  .op (.bin .lss (.x 2) (.x 3)) (
  .ite (.x 4)
   (.chk (.idx (.x 1) (.x 2)) (
   .op (.get (.x 1) (.x 2) 0 none) (
   .op (.bin .eql (.x 5) (.x 0)) (
   .ite (.x 6)
    (.esc (.esc (.ret [(.c (.v (.bool true)))])))
    (.op (.bin .add (.x 2) (.c (.v (.int .i64 1)))) (
    .jump [(.x 7)]))))))
   (.esc (.jump [])))))) (
.ret [(.c (.v (.bool false)))])))))))))))))))))))))
theorem T.spec_l1Key_l : leftF Tryd.prog CF Tryd.f47 = some (1, T.spec_l1Key) := by kernel_rfl
theorem T.spec_l1Key_con {args : List AV} {res : AV} (hl : args.length = 1) (hn : AV.norefs args = true) (hw : wpT Tryd.prog (fun _ _ _ => False) (fun a => a = res) T.spec_l1Key args []) : PCon Tryd.prog F.spec_l1Key args res :=
  con_auto Tryd.func47 T.spec_l1Key_l hl hn hw
def T.spec_l1Sign : T :=
.op (.call F.spec_l1Signs [] false) (
.bind 0 (
 .loop [(.c (.v (.int .i64 0)))] (
  .op (.lenL (.x 1)) (
  .op (.bin .lss (.x 2) (.x 3)) (
  .ite (.x 4)
   (.op (.elem 1 (.x 1) (.x 2)) (
   .chk (.lt (.x 5) 0) (
   .op (.bin .eql (.cell 5 0) (.x 0)) (
   .ite (.x 6)
    (.esc (.esc (.ret [(.c (.v (.bool true)))])))
    (.op (.bin .add (.x 2) (.c (.v (.int .i64 1)))) (
    .jump [(.x 7)]))))))
   (.esc (.jump [])))))) (
.ret [(.c (.v (.bool false)))]))
theorem T.spec_l1Sign_l : leftF Tryd.prog CF Tryd.f48 = some (1, T.spec_l1Sign) := by kernel_rfl
theorem T.spec_l1Sign_con {args : List AV} {res : AV} (hl : args.length = 1) (hn : AV.norefs args = true) (hw : wpT Tryd.prog (fun _ _ _ => False) (fun a => a = res) T.spec_l1Sign args []) : PCon Tryd.prog F.spec_l1Sign args res :=
  con_auto Tryd.func48 T.spec_l1Sign_l hl hn hw
def T.impl_SpellToken : T :=
.chk (.cells (.x 0) 4) (
.chk (.cells (.x 0) 4) (
.op (.call F.impl_TokenOk [(.x 0)] false) (
.op (.un .not (.x 1)) (
.ite (.x 2)
 (.ret [(.c (.v (.string ⟨#[]⟩)))])
 (.op (.bin .eql (.cell 0 0) (.c (.v (.int .i64 1)))) (
 .ite (.x 3)
  (.op (.call F.strconv_Itoa [(.cell 0 2)] false) (
  .ret [(.x 4)]))
  (.op (.bin .eql (.cell 0 0) (.c (.v (.int .i64 2)))) (
  .ite (.x 4)
   (.op (.call F.impl_quoted [(.cell 0 1)] false) (
   .ret [(.x 5)]))
   (.op (.bin .eql (.cell 0 0) (.c (.v (.int .i64 5)))) (
   .ite (.x 5)
    (.op (.bin .add (.c (.v (.string ⟨#[39]⟩))) (.cell 0 1)) (
    .ret [(.x 6)]))
    (.ret [(.cell 0 1)])))))))))))
theorem T.impl_SpellToken_l : leftF Tryd.prog CF Tryd.f49 = some (1, T.impl_SpellToken) := by kernel_rfl
theorem T.impl_SpellToken_con {args : List AV} {res : AV} (hl : args.length = 1) (hn : AV.norefs args = true) (hw : wpT Tryd.prog (fun _ _ _ => False) (fun a => a = res) T.impl_SpellToken args []) : PCon Tryd.prog F.impl_SpellToken args res :=
  con_auto Tryd.func49 T.impl_SpellToken_l hl hn hw
-- strings_Join: no walk
def T.impl_plain : T :=
.bind 0 (
 .loop [(.c (.v (.int .i64 0)))] (
  .op (.lenS (.x 0)) (
  .op (.bin .lss (.x 1) (.x 2)) (
  .ite (.x 3)
   (.bind 0 (
    .bind 1 (
     .op (.idxS (.x 0) (.x 1)) (
     .op (.conv .i64 (.x 4)) (
     .op (.call F.impl_within [(.x 5), (.c (.v (.int .i64 32))), (.c (.v (.int .i64 126)))] false) (
     .op (.un .not (.x 6)) (
     .ite (.x 7)
      (.op (.idxS (.x 0) (.x 1)) (
      .op (.bin .neq (.x 8) (.c (.v (.int .u8 10)))) (
      .jump [(.x 9)])))
      (.jump [(.c (.v (.bool false)))])))))) (
    .ite (.x 4)
     (.esc (.esc (.esc (.ret [(.c (.v (.bool false)))]))))
     (.jump []))) (
   .op (.bin .add (.x 1) (.c (.v (.int .i64 1)))) (
   .jump [(.x 4)])))
   (.esc (.jump [])))))) (
.ret [(.c (.v (.bool true)))])
theorem T.impl_plain_l : leftF Tryd.prog CF Tryd.f51 = some (1, T.impl_plain) := by kernel_rfl
theorem T.impl_plain_con {args : List AV} {res : AV} (hl : args.length = 1) (hn : AV.norefs args = true) (hw : wpT Tryd.prog (fun _ _ _ => False) (fun a => a = res) T.impl_plain args []) : PCon Tryd.prog F.impl_plain args res :=
  con_auto Tryd.func51 T.impl_plain_l hl hn hw
def T.impl_lowOk : T :=
.bind 1 (
 .op (.call F.impl_isName [(.x 0), (.c (.fn F.impl_small []))] false) (
 .ite (.x 1)
  (.op (.call F.impl_isKey [(.x 0)] false) (
  .op (.un .not (.x 2)) (
  .jump [(.x 3)])))
  (.jump [(.c (.v (.bool false)))]))) (
.ret [(.x 1)])
theorem T.impl_lowOk_l : leftF Tryd.prog CF Tryd.f52 = some (1, T.impl_lowOk) := by kernel_rfl
theorem T.impl_lowOk_con {args : List AV} {res : AV} (hl : args.length = 1) (hn : AV.norefs args = true) (hw : wpT Tryd.prog (fun _ _ _ => False) (fun a => a = res) T.impl_lowOk args []) : PCon Tryd.prog F.impl_lowOk args res :=
  con_auto Tryd.func52 T.impl_lowOk_l hl hn hw
def T.impl_upOk : T :=
.op (.call F.impl_isName [(.x 0), (.c (.fn F.impl_great []))] false) (
.ret [(.x 1)])
theorem T.impl_upOk_l : leftF Tryd.prog CF Tryd.f53 = some (1, T.impl_upOk) := by kernel_rfl
theorem T.impl_upOk_con {args : List AV} {res : AV} (hl : args.length = 1) (hn : AV.norefs args = true) (hw : wpT Tryd.prog (fun _ _ _ => False) (fun a => a = res) T.impl_upOk args []) : PCon Tryd.prog F.impl_upOk args res :=
  con_auto Tryd.func53 T.impl_upOk_l hl hn hw
def T.impl_isName : T :=
.bind 1 (
 .op (.lenS (.x 0)) (
 .op (.call F.impl_within [(.x 2), (.c (.v (.int .i64 1))), (.c (.v (.int .i64 12)))] false) (
 .ite (.x 3)
  (.op (.idxS (.x 0) (.c (.v (.int .i64 0)))) (
  .op (.callv (.x 1) [(.x 4)] false) (
  .ite (.x 5)
   (.op (.call F.impl_run [(.x 0), (.c (.v (.int .i64 0))), (.c (.fn F.impl_nameByte []))] false) (
   .op (.lenS (.x 0)) (
   .op (.bin .eql (.x 6) (.x 7)) (
   .jump [(.x 8)]))))
   (.jump [(.c (.v (.bool false)))]))))
  (.jump [(.c (.v (.bool false)))])))) (
.ret [(.x 2)])
theorem T.impl_isName_l : leftF Tryd.prog CF Tryd.f54 = some (2, T.impl_isName) := by kernel_rfl
theorem T.impl_isName_con {args : List AV} {res : AV} (hl : args.length = 2) (hn : AV.norefs args = true) (hw : wpT Tryd.prog (fun _ _ _ => False) (fun a => a = res) T.impl_isName args []) : PCon Tryd.prog F.impl_isName args res :=
  con_auto Tryd.func54 T.impl_isName_l hl hn hw
def T.impl_small : T :=
.bind 1 (
 .op (.bin .geq (.x 0) (.c (.v (.int .u8 97)))) (
 .ite (.x 1)
  (.op (.bin .leq (.x 0) (.c (.v (.int .u8 122)))) (
  .jump [(.x 2)]))
  (.jump [(.c (.v (.bool false)))]))) (
.ret [(.x 1)])
theorem T.impl_small_l : leftF Tryd.prog CF Tryd.f55 = some (1, T.impl_small) := by kernel_rfl
theorem T.impl_small_con {args : List AV} {res : AV} (hl : args.length = 1) (hn : AV.norefs args = true) (hw : wpT Tryd.prog (fun _ _ _ => False) (fun a => a = res) T.impl_small args []) : PCon Tryd.prog F.impl_small args res :=
  con_auto Tryd.func55 T.impl_small_l hl hn hw
def T.impl_isKey : T :=
.chk (.one (.c (.v (.string ⟨#[116, 121, 112, 101]⟩)))) (
.chk (.one (.c (.v (.string ⟨#[111, 102]⟩)))) (
.chk (.one (.c (.v (.string ⟨#[108, 101, 116]⟩)))) (
.chk (.one (.c (.v (.string ⟨#[114, 101, 99]⟩)))) (
.chk (.one (.c (.v (.string ⟨#[105, 110]⟩)))) (
.chk (.one (.c (.v (.string ⟨#[102, 117, 110]⟩)))) (
.chk (.one (.c (.v (.string ⟨#[105, 102]⟩)))) (
.chk (.one (.c (.v (.string ⟨#[116, 104, 101, 110]⟩)))) (
.chk (.one (.c (.v (.string ⟨#[101, 108, 115, 101]⟩)))) (
.chk (.one (.c (.v (.string ⟨#[109, 97, 116, 99, 104]⟩)))) (
.chk (.one (.c (.v (.string ⟨#[119, 105, 116, 104]⟩)))) (
.chk (.one (.c (.v (.string ⟨#[101, 110, 100]⟩)))) (
.chk (.one (.c (.v (.string ⟨#[116, 114, 117, 101]⟩)))) (
.chk (.one (.c (.v (.string ⟨#[102, 97, 108, 115, 101]⟩)))) (
.chk (.one (.c (.v (.string ⟨#[114, 101, 102]⟩)))) (
.chk (.one (.c (.v (.string ⟨#[114, 101, 97, 100]⟩)))) (
.chk (.one (.c (.v (.string ⟨#[112, 114, 105, 110, 116]⟩)))) (
.chk (.one (.c (.v (.string ⟨#[101, 120, 105, 116]⟩)))) (
.chk (.one (.c (.v (.string ⟨#[115, 105, 122, 101]⟩)))) (
.op (.mkl (.v (.string ⟨#[]⟩)) 19 [(0, (.c (.v (.string ⟨#[116, 121, 112, 101]⟩)))), (1, (.c (.v (.string ⟨#[111, 102]⟩)))), (2, (.c (.v (.string ⟨#[108, 101, 116]⟩)))), (3, (.c (.v (.string ⟨#[114, 101, 99]⟩)))), (4, (.c (.v (.string ⟨#[105, 110]⟩)))), (5, (.c (.v (.string ⟨#[102, 117, 110]⟩)))), (6, (.c (.v (.string ⟨#[105, 102]⟩)))), (7, (.c (.v (.string ⟨#[116, 104, 101, 110]⟩)))), (8, (.c (.v (.string ⟨#[101, 108, 115, 101]⟩)))), (9, (.c (.v (.string ⟨#[109, 97, 116, 99, 104]⟩)))), (10, (.c (.v (.string ⟨#[119, 105, 116, 104]⟩)))), (11, (.c (.v (.string ⟨#[101, 110, 100]⟩)))), (12, (.c (.v (.string ⟨#[116, 114, 117, 101]⟩)))), (13, (.c (.v (.string ⟨#[102, 97, 108, 115, 101]⟩)))), (14, (.c (.v (.string ⟨#[114, 101, 102]⟩)))), (15, (.c (.v (.string ⟨#[114, 101, 97, 100]⟩)))), (16, (.c (.v (.string ⟨#[112, 114, 105, 110, 116]⟩)))), (17, (.c (.v (.string ⟨#[101, 120, 105, 116]⟩)))), (18, (.c (.v (.string ⟨#[115, 105, 122, 101]⟩))))]) (
.op (.call F.slices_Contains__string_string [(.sl (.x 1)), (.x 0)] true) (
.ret [(.x 2)])))))))))))))))))))))
theorem T.impl_isKey_l : leftF Tryd.prog CF Tryd.f56 = some (1, T.impl_isKey) := by kernel_rfl
theorem T.impl_isKey_con {args : List AV} {res : AV} (hl : args.length = 1) (hn : AV.norefs args = true) (hw : wpT Tryd.prog (fun _ _ _ => False) (fun a => a = res) T.impl_isKey args []) : PCon Tryd.prog F.impl_isKey args res :=
  con_auto Tryd.func56 T.impl_isKey_l hl hn hw
def T.slices_Contains__string_string : T :=
.op (.call F.slices_Index__string_string [(.x 0), (.x 1)] false) (
.op (.bin .geq (.x 2) (.c (.v (.int .i64 0)))) (
.ret [(.x 3)]))
theorem T.slices_Contains__string_string_l : leftF Tryd.prog CF Tryd.f57 = some (2, T.slices_Contains__string_string) := by kernel_rfl
theorem T.slices_Contains__string_string_con {args : List AV} {res : AV} (hl : args.length = 2) (hn : AV.norefs args = true) (hw : wpT Tryd.prog (fun _ _ _ => False) (fun a => a = res) T.slices_Contains__string_string args []) : PCon Tryd.prog F.slices_Contains__string_string args res :=
  con_auto Tryd.func57 T.slices_Contains__string_string_l hl hn hw
def T.impl_signs : T :=
.chk (.one (.c (.v (.string ⟨#[45, 62]⟩)))) (
.chk (.one (.c (.v (.string ⟨#[58, 61]⟩)))) (
.chk (.one (.c (.v (.string ⟨#[61]⟩)))) (
.chk (.one (.c (.v (.string ⟨#[60]⟩)))) (
.chk (.one (.c (.v (.string ⟨#[43]⟩)))) (
.chk (.one (.c (.v (.string ⟨#[45]⟩)))) (
.chk (.one (.c (.v (.string ⟨#[42]⟩)))) (
.chk (.one (.c (.v (.string ⟨#[94]⟩)))) (
.chk (.one (.c (.v (.string ⟨#[59]⟩)))) (
.chk (.one (.c (.v (.string ⟨#[124]⟩)))) (
.chk (.one (.c (.v (.string ⟨#[40]⟩)))) (
.chk (.one (.c (.v (.string ⟨#[41]⟩)))) (
.chk (.one (.c (.v (.string ⟨#[44]⟩)))) (
.chk (.one (.c (.v (.string ⟨#[95]⟩)))) (
.chk (.one (.c (.v (.string ⟨#[33]⟩)))) (
.op (.mkl (.v (.string ⟨#[]⟩)) 15 [(0, (.c (.v (.string ⟨#[45, 62]⟩)))), (1, (.c (.v (.string ⟨#[58, 61]⟩)))), (2, (.c (.v (.string ⟨#[61]⟩)))), (3, (.c (.v (.string ⟨#[60]⟩)))), (4, (.c (.v (.string ⟨#[43]⟩)))), (5, (.c (.v (.string ⟨#[45]⟩)))), (6, (.c (.v (.string ⟨#[42]⟩)))), (7, (.c (.v (.string ⟨#[94]⟩)))), (8, (.c (.v (.string ⟨#[59]⟩)))), (9, (.c (.v (.string ⟨#[124]⟩)))), (10, (.c (.v (.string ⟨#[40]⟩)))), (11, (.c (.v (.string ⟨#[41]⟩)))), (12, (.c (.v (.string ⟨#[44]⟩)))), (13, (.c (.v (.string ⟨#[95]⟩)))), (14, (.c (.v (.string ⟨#[33]⟩))))]) (
.ret [(.sl (.x 0))]))))))))))))))))
theorem T.impl_signs_l : leftF Tryd.prog CF Tryd.f58 = some (0, T.impl_signs) := by kernel_rfl
theorem T.impl_signs_con {args : List AV} {res : AV} (hl : args.length = 0) (hn : AV.norefs args = true) (hw : wpT Tryd.prog (fun _ _ _ => False) (fun a => a = res) T.impl_signs args []) : PCon Tryd.prog F.impl_signs args res :=
  con_auto Tryd.func58 T.impl_signs_l hl hn hw
def T.spec_l1In : T :=
.bind 1 (
 .op (.bin .geq (.x 0) (.x 1)) (
 .ite (.x 3)
  (.op (.bin .leq (.x 0) (.x 2)) (
  .jump [(.x 4)]))
  (.jump [(.c (.v (.bool false)))]))) (
.ret [(.x 3)])
theorem T.spec_l1In_l : leftF Tryd.prog CF Tryd.f60 = some (3, T.spec_l1In) := by kernel_rfl
theorem T.spec_l1In_con {args : List AV} {res : AV} (hl : args.length = 3) (hn : AV.norefs args = true) (hw : wpT Tryd.prog (fun _ _ _ => False) (fun a => a = res) T.spec_l1In args []) : PCon Tryd.prog F.spec_l1In args res :=
  con_auto Tryd.func60 T.spec_l1In_l hl hn hw
def T.spec_l1Figures : T :=
.op (.bin .lss (.x 0) (.c (.v (.int .u64 10)))) (
.ite (.x 1)
 (.op (.bin .add (.c (.v (.int .u64 48))) (.x 0)) (
 .op (.conv .u8 (.x 2)) (
 .chk (.one (.x 3)) (
 .op (.mkl (.v (.int .u8 0)) 1 [(0, (.x 3))]) (
 .op (.pu .b2s [(.sl (.x 4))]) (
 .ret [(.x 5)]))))))
 (.op (.bin .quo (.x 0) (.c (.v (.int .u64 10)))) (
 .op (.call F.spec_l1Figures [(.x 2)] true) (
 .op (.bin .rem (.x 0) (.c (.v (.int .u64 10)))) (
 .op (.bin .add (.c (.v (.int .u64 48))) (.x 4)) (
 .op (.conv .u8 (.x 5)) (
 .chk (.one (.x 6)) (
 .op (.mkl (.v (.int .u8 0)) 1 [(0, (.x 6))]) (
 .op (.pu .b2s [(.x 7)]) (
 .op (.bin .add (.x 3) (.x 8)) (
 .ret [(.x 9)])))))))))))
theorem T.spec_l1Figures_l : leftF Tryd.prog CF Tryd.f62 = some (1, T.spec_l1Figures) := by kernel_rfl
theorem T.spec_l1Figures_con {args : List AV} {res : AV} (hl : args.length = 1) (hn : AV.norefs args = true) (hw : wpT Tryd.prog (fun _ _ _ => False) (fun a => a = res) T.spec_l1Figures args []) : PCon Tryd.prog F.spec_l1Figures args res :=
  con_auto Tryd.func62 T.spec_l1Figures_l hl hn hw
def T.impl_within : T :=
.bind 1 (
 .op (.bin .geq (.x 0) (.x 1)) (
 .ite (.x 3)
  (.op (.bin .leq (.x 0) (.x 2)) (
  .jump [(.x 4)]))
  (.jump [(.c (.v (.bool false)))]))) (
.ret [(.x 3)])
theorem T.impl_within_l : leftF Tryd.prog CF Tryd.f68 = some (3, T.impl_within) := by kernel_rfl
theorem T.impl_within_con {args : List AV} {res : AV} (hl : args.length = 3) (hn : AV.norefs args = true) (hw : wpT Tryd.prog (fun _ _ _ => False) (fun a => a = res) T.impl_within args []) : PCon Tryd.prog F.impl_within args res :=
  con_auto Tryd.func68 T.impl_within_l hl hn hw
def T.impl_quoted : T :=
.chk (.one (.c (.v (.int .u8 34)))) (
.op (.mkl (.v (.int .u8 0)) 1 [(0, (.c (.v (.int .u8 34))))]) (
.bind 1 (
 .loop [(.x 1), (.c (.v (.int .i64 0)))] (
  .op (.lenS (.x 0)) (
  .op (.bin .lss (.x 3) (.x 4)) (
  .ite (.x 5)
   (.bind 2 (
    .op (.idxS (.x 0) (.x 3)) (
    .op (.bin .eql (.x 6) (.c (.v (.int .u8 10)))) (
    .ite (.x 7)
     (.chk (.one (.c (.v (.int .u8 92)))) (
     .chk (.one (.c (.v (.int .u8 110)))) (
     .op (.mkl (.v (.int .u8 0)) 2 [(0, (.c (.v (.int .u8 92)))), (1, (.c (.v (.int .u8 110))))]) (
     .op (.app 1 1 (.x 2) (.sl (.x 8))) (
     .jump [(.x 9), (.x 8)])))))
     (.bind 1 (
      .op (.bin .eql (.x 6) (.c (.v (.int .u8 34)))) (
      .ite (.x 8)
       (.jump [(.x 8)])
       (.op (.bin .eql (.x 6) (.c (.v (.int .u8 92)))) (
       .jump [(.x 9)])))) (
     .ite (.x 8)
      (.op (.idxS (.x 0) (.x 3)) (
      .chk (.one (.c (.v (.int .u8 92)))) (
      .chk (.one (.x 9)) (
      .op (.mkl (.v (.int .u8 0)) 2 [(0, (.c (.v (.int .u8 92)))), (1, (.x 9))]) (
      .op (.app 1 1 (.x 2) (.sl (.x 10))) (
      .jump [(.x 11), (.x 10)]))))))
      (.op (.idxS (.x 0) (.x 3)) (
      .chk (.one (.x 9)) (
      .op (.mkl (.v (.int .u8 0)) 1 [(0, (.x 9))]) (
      .op (.app 1 1 (.x 2) (.sl (.x 10))) (
      .jump [(.x 11), (.x 10)])))))))))) (
   .op (.bin .add (.x 3) (.c (.v (.int .i64 1)))) (
   .jump [(.x 6), (.x 8)])))
   (.esc (.jump [(.x 2)])))))) (
.chk (.one (.c (.v (.int .u8 34)))) (
.op (.mkl (.v (.int .u8 0)) 1 [(0, (.c (.v (.int .u8 34))))]) (
.op (.app 1 1 (.x 2) (.sl (.x 3))) (
.op (.pu .b2s [(.sl (.x 4))]) (
.ret [(.x 5)])))))))
theorem T.impl_quoted_l : leftF Tryd.prog CF Tryd.f76 = some (1, T.impl_quoted) := by kernel_rfl
theorem T.impl_quoted_con {args : List AV} {res : AV} (hl : args.length = 1) (hn : AV.norefs args = true) (hw : wpT Tryd.prog (fun _ _ _ => False) (fun a => a = res) T.impl_quoted args []) : PCon Tryd.prog F.impl_quoted args res :=
  con_auto Tryd.func76 T.impl_quoted_l hl hn hw
def T.spec_l1Num : T :=
.op (.call F.spec_l1In [(.x 0), (.c (.v (.int .i64 48))), (.c (.v (.int .i64 57)))] false) (
.ret [(.x 1)])
theorem T.spec_l1Num_l : leftF Tryd.prog CF Tryd.f78 = some (1, T.spec_l1Num) := by kernel_rfl
theorem T.spec_l1Num_con {args : List AV} {res : AV} (hl : args.length = 1) (hn : AV.norefs args = true) (hw : wpT Tryd.prog (fun _ _ _ => False) (fun a => a = res) T.spec_l1Num args []) : PCon Tryd.prog F.spec_l1Num args res :=
  con_auto Tryd.func78 T.spec_l1Num_l hl hn hw
def T.spec_l1Lower : T :=
.op (.call F.spec_l1In [(.x 0), (.c (.v (.int .i64 97))), (.c (.v (.int .i64 122)))] false) (
.ret [(.x 1)])
theorem T.spec_l1Lower_l : leftF Tryd.prog CF Tryd.f80 = some (1, T.spec_l1Lower) := by kernel_rfl
theorem T.spec_l1Lower_con {args : List AV} {res : AV} (hl : args.length = 1) (hn : AV.norefs args = true) (hw : wpT Tryd.prog (fun _ _ _ => False) (fun a => a = res) T.spec_l1Lower args []) : PCon Tryd.prog F.spec_l1Lower args res :=
  con_auto Tryd.func80 T.spec_l1Lower_l hl hn hw
def T.spec_l1Upper : T :=
.op (.call F.spec_l1In [(.x 0), (.c (.v (.int .i64 65))), (.c (.v (.int .i64 90)))] false) (
.ret [(.x 1)])
theorem T.spec_l1Upper_l : leftF Tryd.prog CF Tryd.f81 = some (1, T.spec_l1Upper) := by kernel_rfl
theorem T.spec_l1Upper_con {args : List AV} {res : AV} (hl : args.length = 1) (hn : AV.norefs args = true) (hw : wpT Tryd.prog (fun _ _ _ => False) (fun a => a = res) T.spec_l1Upper args []) : PCon Tryd.prog F.spec_l1Upper args res :=
  con_auto Tryd.func81 T.spec_l1Upper_l hl hn hw
def T.spec_l1Signs : T :=
.chk (.one (.c (.v (.string ⟨#[45, 62]⟩)))) (
.chk (.one (.c (.v (.string ⟨#[58, 61]⟩)))) (
.chk (.one (.c (.v (.string ⟨#[61]⟩)))) (
.chk (.one (.c (.v (.string ⟨#[60]⟩)))) (
.chk (.one (.c (.v (.string ⟨#[43]⟩)))) (
.chk (.one (.c (.v (.string ⟨#[45]⟩)))) (
.chk (.one (.c (.v (.string ⟨#[42]⟩)))) (
.chk (.one (.c (.v (.string ⟨#[94]⟩)))) (
.chk (.one (.c (.v (.string ⟨#[59]⟩)))) (
.chk (.one (.c (.v (.string ⟨#[124]⟩)))) (
.chk (.one (.c (.v (.string ⟨#[40]⟩)))) (
.chk (.one (.c (.v (.string ⟨#[41]⟩)))) (
.chk (.one (.c (.v (.string ⟨#[44]⟩)))) (
.chk (.one (.c (.v (.string ⟨#[95]⟩)))) (
.chk (.one (.c (.v (.string ⟨#[33]⟩)))) (
.op (.mkl (.v (.string ⟨#[]⟩)) 15 [(0, (.c (.v (.string ⟨#[45, 62]⟩)))), (1, (.c (.v (.string ⟨#[58, 61]⟩)))), (2, (.c (.v (.string ⟨#[61]⟩)))), (3, (.c (.v (.string ⟨#[60]⟩)))), (4, (.c (.v (.string ⟨#[43]⟩)))), (5, (.c (.v (.string ⟨#[45]⟩)))), (6, (.c (.v (.string ⟨#[42]⟩)))), (7, (.c (.v (.string ⟨#[94]⟩)))), (8, (.c (.v (.string ⟨#[59]⟩)))), (9, (.c (.v (.string ⟨#[124]⟩)))), (10, (.c (.v (.string ⟨#[40]⟩)))), (11, (.c (.v (.string ⟨#[41]⟩)))), (12, (.c (.v (.string ⟨#[44]⟩)))), (13, (.c (.v (.string ⟨#[95]⟩)))), (14, (.c (.v (.string ⟨#[33]⟩))))]) (
.ret [(.sl (.x 0))]))))))))))))))))
theorem T.spec_l1Signs_l : leftF Tryd.prog CF Tryd.f84 = some (0, T.spec_l1Signs) := by kernel_rfl
theorem T.spec_l1Signs_con {args : List AV} {res : AV} (hl : args.length = 0) (hn : AV.norefs args = true) (hw : wpT Tryd.prog (fun _ _ _ => False) (fun a => a = res) T.spec_l1Signs args []) : PCon Tryd.prog F.spec_l1Signs args res :=
  con_auto Tryd.func84 T.spec_l1Signs_l hl hn hw
def T.impl_run : T :=
.bind 1 (
 .loop [(.x 1)] (
  .bind 0 (
   .bind 1 (
    .op (.lenS (.x 0)) (
    .op (.bin .lss (.x 3) (.x 4)) (
    .ite (.x 5)
     (.op (.idxS (.x 0) (.x 3)) (
     .op (.callv (.x 2) [(.x 6)] false) (
     .jump [(.x 7)])))
     (.jump [(.c (.v (.bool false)))])))) (
   .ite (.x 4)
    (.jump [])
    (.esc (.esc (.jump [(.x 3)]))))) (
  .op (.bin .add (.x 3) (.c (.v (.int .i64 1)))) (
  .jump [(.x 4)])))) (
.ret [(.x 3)])
theorem T.impl_run_l : leftF Tryd.prog CF Tryd.f85 = some (3, T.impl_run) := by kernel_rfl
theorem T.impl_run_con {args : List AV} {res : AV} (hl : args.length = 3) (hn : AV.norefs args = true) (hw : wpT Tryd.prog (fun _ _ _ => False) (fun a => a = res) T.impl_run args []) : PCon Tryd.prog F.impl_run args res :=
  con_auto Tryd.func85 T.impl_run_l hl hn hw
def T.impl_lexAll_1 : T :=
.op (.bin .neq (.x 0) (.c (.v (.int .u8 10)))) (
.ret [(.x 1)])
theorem T.impl_lexAll_1_l : leftF Tryd.prog CF Tryd.f86 = some (1, T.impl_lexAll_1) := by kernel_rfl
theorem T.impl_lexAll_1_con {args : List AV} {res : AV} (hl : args.length = 1) (hn : AV.norefs args = true) (hw : wpT Tryd.prog (fun _ _ _ => False) (fun a => a = res) T.impl_lexAll_1 args []) : PCon Tryd.prog F.impl_lexAll_1 args res :=
  con_auto Tryd.func86 T.impl_lexAll_1_l hl hn hw
def T.impl_lexOne : T :=
.bind 0 (
 .op (.idxS (.x 0) (.x 1)) (
 .op (.call F.impl_digit [(.x 2)] false) (
 .ite (.x 3)
  (.op (.call F.impl_lexNum [(.x 0), (.x 1)] false) (
  .chk (.tup (.x 4) 0) (
  .chk (.tup (.x 4) 1) (
  .chk (.tup (.x 4) 2) (
  .op (.val (.ext 4 0)) (
  .chk (.cells (.x 5) 4) (
  .op (.val (.ext 4 2)) (
  .chk (.cells (.x 6) 2) (
  .esc (.ret [(.agg [(.cell 5 0), (.cell 5 1), (.cell 5 2), (.cell 5 3)]), (.ext 4 1), (.agg [(.cell 6 0), (.cell 6 1)])]))))))))))
  (.bind 1 (
   .op (.call F.impl_small [(.x 2)] false) (
   .ite (.x 4)
    (.jump [(.x 4)])
    (.op (.call F.impl_great [(.x 2)] false) (
    .ite (.x 5)
     (.jump [(.x 5)])
     (.op (.bin .eql (.x 2) (.c (.v (.int .u8 39)))) (
     .ite (.x 6)
      (.op (.bin .add (.x 1) (.c (.v (.int .i64 1)))) (
      .op (.lenS (.x 0)) (
      .op (.bin .lss (.x 7) (.x 8)) (
      .ite (.x 9)
       (.op (.bin .add (.x 1) (.c (.v (.int .i64 1)))) (
       .op (.idxS (.x 0) (.x 10)) (
       .op (.call F.impl_small [(.x 11)] false) (
       .jump [(.x 12)]))))
       (.jump [(.c (.v (.bool false)))])))))
      (.jump [(.c (.v (.bool false)))]))))))) (
  .ite (.x 4)
   (.op (.call F.impl_lexWord [(.x 0), (.x 1)] false) (
   .chk (.tup (.x 5) 0) (
   .chk (.tup (.x 5) 1) (
   .chk (.tup (.x 5) 2) (
   .op (.val (.ext 5 0)) (
   .chk (.cells (.x 6) 4) (
   .op (.val (.ext 5 2)) (
   .chk (.cells (.x 7) 2) (
   .esc (.ret [(.agg [(.cell 6 0), (.cell 6 1), (.cell 6 2), (.cell 6 3)]), (.ext 5 1), (.agg [(.cell 7 0), (.cell 7 1)])]))))))))))
   (.op (.bin .eql (.x 2) (.c (.v (.int .u8 34)))) (
   .ite (.x 5)
    (.op (.call F.impl_lexString [(.x 0), (.x 1)] false) (
    .chk (.tup (.x 6) 0) (
    .chk (.tup (.x 6) 1) (
    .chk (.tup (.x 6) 2) (
    .op (.un .not (.ext 6 2)) (
    .ite (.x 7)
     (.chk (.one (.c (.v (.int .i64 4)))) (
     .chk (.one (.x 1)) (
     .chk (.cells (.agg [(.c (.v (.int .i64 0))), (.c (.v (.string ⟨#[]⟩))), (.c (.v (.int .i64 0))), (.c (.v (.int .i64 0)))]) 4) (
     .chk (.cells (.agg [(.c (.v (.int .i64 4))), (.x 1)]) 2) (
     .esc (.ret [(.agg [(.c (.v (.int .i64 0))), (.c (.v (.string ⟨#[]⟩))), (.c (.v (.int .i64 0))), (.c (.v (.int .i64 0)))]), (.c (.v (.int .i64 0))), (.agg [(.c (.v (.int .i64 4))), (.x 1)])]))))))
     (.chk (.one (.c (.v (.int .i64 2)))) (
     .chk (.one (.ext 6 0)) (
     .chk (.one (.x 1)) (
     .chk (.cells (.agg [(.c (.v (.int .i64 2))), (.ext 6 0), (.c (.v (.int .i64 0))), (.x 1)]) 4) (
     .chk (.cells (.agg [(.c (.v (.int .i64 0))), (.c (.v (.int .i64 0)))]) 2) (
     .esc (.ret [(.agg [(.c (.v (.int .i64 2))), (.ext 6 0), (.c (.v (.int .i64 0))), (.x 1)]), (.ext 6 1), (.agg [(.c (.v (.int .i64 0))), (.c (.v (.int .i64 0)))])])))))))))))))
    (.jump [])))))))) (
.op (.call F.impl_signAt [(.x 0), (.x 1)] false) (
.op (.bin .eql (.x 2) (.c (.v (.string ⟨#[]⟩)))) (
.ite (.x 3)
 (.chk (.one (.c (.v (.int .i64 1)))) (
 .chk (.one (.x 1)) (
 .chk (.cells (.agg [(.c (.v (.int .i64 0))), (.c (.v (.string ⟨#[]⟩))), (.c (.v (.int .i64 0))), (.c (.v (.int .i64 0)))]) 4) (
 .chk (.cells (.agg [(.c (.v (.int .i64 1))), (.x 1)]) 2) (
 .ret [(.agg [(.c (.v (.int .i64 0))), (.c (.v (.string ⟨#[]⟩))), (.c (.v (.int .i64 0))), (.c (.v (.int .i64 0)))]), (.c (.v (.int .i64 0))), (.agg [(.c (.v (.int .i64 1))), (.x 1)])])))))
 (.chk (.one (.c (.v (.int .i64 7)))) (
 .chk (.one (.x 2)) (
 .chk (.one (.x 1)) (
 .op (.lenS (.x 2)) (
 .op (.bin .add (.x 1) (.x 4)) (
 .chk (.cells (.agg [(.c (.v (.int .i64 7))), (.x 2), (.c (.v (.int .i64 0))), (.x 1)]) 4) (
 .chk (.cells (.agg [(.c (.v (.int .i64 0))), (.c (.v (.int .i64 0)))]) 2) (
 .ret [(.agg [(.c (.v (.int .i64 7))), (.x 2), (.c (.v (.int .i64 0))), (.x 1)]), (.x 5), (.agg [(.c (.v (.int .i64 0))), (.c (.v (.int .i64 0)))])])))))))))))
theorem T.impl_lexOne_l : leftF Tryd.prog CF Tryd.f87 = some (2, T.impl_lexOne) := by kernel_rfl
theorem T.impl_lexOne_con {args : List AV} {res : AV} (hl : args.length = 2) (hn : AV.norefs args = true) (hw : wpT Tryd.prog (fun _ _ _ => False) (fun a => a = res) T.impl_lexOne args []) : PCon Tryd.prog F.impl_lexOne args res :=
  con_auto Tryd.func87 T.impl_lexOne_l hl hn hw
def T.spec_l1Byte : T :=
.op (.bin .mul (.x 2) (.c (.v (.int .i64 6364136223846793005)))) (
.op (.bin .add (.x 3) (.c (.v (.int .i64 1442695040888963407)))) (
.chk (.one (.x 4)) (
.op (.bin .shr (.x 4) (.c (.v (.int .u64 33)))) (
.op (.bin .shr (.x 4) (.c (.v (.int .u64 47)))) (
.op (.bin .xor (.x 5) (.x 6)) (
.op (.bin .and (.x 7) (.c (.v (.int .i64 255)))) (
.bind 2 (
 .op (.lenL (.x 0)) (
 .op (.bin .lss (.x 1) (.x 9)) (
 .ite (.x 10)
  (.op (.elem 1 (.x 0) (.x 1)) (
  .chk (.lt (.x 11) 0) (
  .op (.conv .i64 (.cell 11 0)) (
  .op (.bin .add (.x 8) (.x 12)) (
  .op (.bin .and (.x 13) (.c (.v (.int .i64 255)))) (
  .op (.bin .add (.x 1) (.c (.v (.int .i64 1)))) (
  .chk (.one (.x 15)) (
  .jump [(.x 15), (.x 14)]))))))))
  (.jump [(.x 1), (.x 8)])))) (
.ret [(.x 10), (.x 0), (.x 9), (.x 4)]))))))))
theorem T.spec_l1Byte_l : leftS Tryd.prog CF G.spec_l1Byte Tryd.f88 = some T.spec_l1Byte := by kernel_rfl
theorem T.spec_l1Byte_scon {ins outs : List AV} (hl : ins.length = 3) (ho : outs.length = 4) (hn : AV.norefs ins = true) (hw : wpT Tryd.prog (fun _ _ _ => False) (fun a => a = packR outs) T.spec_l1Byte ins []) : SCon Tryd.prog F.spec_l1Byte G.spec_l1Byte ins outs :=
  scon_auto Tryd.func88 T.spec_l1Byte_l hl hn ho hw
def T.spec_l1Int : T :=
.op (.lenL (.x 3)) (
.op (.scall F.spec_l1Below G.spec_l1Below [(.x 0), (.x 1), (.x 2), (.x 4)]) (
.op (.elem 1 (.x 3) (.ext 5 0)) (
.chk (.lt (.x 6) 0) (
.ret [(.cell 6 0), (.ext 5 1), (.ext 5 2), (.ext 5 3)]))))
theorem T.spec_l1Int_l : leftS Tryd.prog CF G.spec_l1Int Tryd.f89 = some T.spec_l1Int := by kernel_rfl
theorem T.spec_l1Int_scon {ins outs : List AV} (hl : ins.length = 4) (ho : outs.length = 4) (hn : AV.norefs ins = true) (hw : wpT Tryd.prog (fun _ _ _ => False) (fun a => a = packR outs) T.spec_l1Int ins []) : SCon Tryd.prog F.spec_l1Int G.spec_l1Int ins outs :=
  scon_auto Tryd.func89 T.spec_l1Int_l hl hn ho hw
def T.spec_l1Str : T :=
.op (.lenL (.x 3)) (
.op (.scall F.spec_l1Below G.spec_l1Below [(.x 0), (.x 1), (.x 2), (.x 4)]) (
.op (.elem 1 (.x 3) (.ext 5 0)) (
.chk (.lt (.x 6) 0) (
.ret [(.cell 6 0), (.ext 5 1), (.ext 5 2), (.ext 5 3)]))))
theorem T.spec_l1Str_l : leftS Tryd.prog CF G.spec_l1Str Tryd.f90 = some T.spec_l1Str := by kernel_rfl
theorem T.spec_l1Str_scon {ins outs : List AV} (hl : ins.length = 4) (ho : outs.length = 4) (hn : AV.norefs ins = true) (hw : wpT Tryd.prog (fun _ _ _ => False) (fun a => a = packR outs) T.spec_l1Str ins []) : SCon Tryd.prog F.spec_l1Str G.spec_l1Str ins outs :=
  scon_auto Tryd.func90 T.spec_l1Str_l hl hn ho hw
def T.spec_l1Odd : T :=
.chk (.one (.c (.v (.int .i64 (-1))))) (
.chk (.one (.c (.v (.int .i64 0)))) (
.chk (.one (.c (.v (.int .i64 1)))) (
.chk (.one (.c (.v (.int .i64 2)))) (
.chk (.one (.c (.v (.int .i64 255)))) (
.chk (.one (.c (.v (.int .i64 256)))) (
.chk (.one (.c (.v (.int .i64 65535)))) (
.chk (.one (.c (.v (.int .i64 2147483647)))) (
.chk (.one (.c (.v (.int .i64 2147483648)))) (
.chk (.one (.c (.v (.int .i64 4294967295)))) (
.chk (.one (.c (.v (.int .i64 4294967296)))) (
.chk (.one (.c (.v (.int .i64 (-2147483648))))) (
.chk (.one (.c (.v (.int .i64 9223372036854775807)))) (
.chk (.one (.c (.v (.int .i64 (-9223372036854775808))))) (
.op (.mkl (.v (.int .i64 0)) 14 [(0, (.c (.v (.int .i64 (-1))))), (1, (.c (.v (.int .i64 0)))), (2, (.c (.v (.int .i64 1)))), (3, (.c (.v (.int .i64 2)))), (4, (.c (.v (.int .i64 255)))), (5, (.c (.v (.int .i64 256)))), (6, (.c (.v (.int .i64 65535)))), (7, (.c (.v (.int .i64 2147483647)))), (8, (.c (.v (.int .i64 2147483648)))), (9, (.c (.v (.int .i64 4294967295)))), (10, (.c (.v (.int .i64 4294967296)))), (11, (.c (.v (.int .i64 (-2147483648))))), (12, (.c (.v (.int .i64 9223372036854775807)))), (13, (.c (.v (.int .i64 (-9223372036854775808)))))]) (
.op (.scall F.spec_l1Int G.spec_l1Int [(.x 0), (.x 1), (.x 2), (.sl (.x 3))]) (
.ret [(.ext 4 0), (.ext 4 1), (.ext 4 2), (.ext 4 3)]))))))))))))))))
theorem T.spec_l1Odd_l : leftS Tryd.prog CF G.spec_l1Odd Tryd.f91 = some T.spec_l1Odd := by kernel_rfl
theorem T.spec_l1Odd_scon {ins outs : List AV} (hl : ins.length = 3) (ho : outs.length = 4) (hn : AV.norefs ins = true) (hw : wpT Tryd.prog (fun _ _ _ => False) (fun a => a = packR outs) T.spec_l1Odd ins []) : SCon Tryd.prog F.spec_l1Odd G.spec_l1Odd ins outs :=
  scon_auto Tryd.func91 T.spec_l1Odd_l hl hn ho hw
def T.spec_l1NameByte : T :=
.bind 1 (
 .op (.call F.spec_l1Lower [(.x 0)] false) (
 .ite (.x 1)
  (.jump [(.c (.v (.bool true)))])
  (.op (.call F.spec_l1Upper [(.x 0)] false) (
  .ite (.x 2)
   (.jump [(.c (.v (.bool true)))])
   (.op (.call F.spec_l1Num [(.x 0)] false) (
   .ite (.x 3)
    (.jump [(.c (.v (.bool true)))])
    (.op (.bin .eql (.x 0) (.c (.v (.int .i64 95)))) (
    .jump [(.x 4)])))))))) (
.ret [(.x 1)])
theorem T.spec_l1NameByte_l : leftF Tryd.prog CF Tryd.f92 = some (1, T.spec_l1NameByte) := by kernel_rfl
theorem T.spec_l1NameByte_con {args : List AV} {res : AV} (hl : args.length = 1) (hn : AV.norefs args = true) (hw : wpT Tryd.prog (fun _ _ _ => False) (fun a => a = res) T.spec_l1NameByte args []) : PCon Tryd.prog F.spec_l1NameByte args res :=
  con_auto Tryd.func92 T.spec_l1NameByte_l hl hn hw
-- strings_Builder_Grow: no walk
-- strings_Builder_WriteString: no walk
def T.impl_great : T :=
.bind 1 (
 .op (.bin .geq (.x 0) (.c (.v (.int .u8 65)))) (
 .ite (.x 1)
  (.op (.bin .leq (.x 0) (.c (.v (.int .u8 90)))) (
  .jump [(.x 2)]))
  (.jump [(.c (.v (.bool false)))]))) (
.ret [(.x 1)])
theorem T.impl_great_l : leftF Tryd.prog CF Tryd.f96 = some (1, T.impl_great) := by kernel_rfl
theorem T.impl_great_con {args : List AV} {res : AV} (hl : args.length = 1) (hn : AV.norefs args = true) (hw : wpT Tryd.prog (fun _ _ _ => False) (fun a => a = res) T.impl_great args []) : PCon Tryd.prog F.impl_great args res :=
  con_auto Tryd.func96 T.impl_great_l hl hn hw
def T.impl_nameByte : T :=
.bind 1 (
 .op (.call F.impl_small [(.x 0)] false) (
 .ite (.x 1)
  (.jump [(.c (.v (.bool true)))])
  (.op (.call F.impl_great [(.x 0)] false) (
  .ite (.x 2)
   (.jump [(.c (.v (.bool true)))])
   (.op (.call F.impl_digit [(.x 0)] false) (
   .ite (.x 3)
    (.jump [(.c (.v (.bool true)))])
    (.op (.bin .eql (.x 0) (.c (.v (.int .u8 95)))) (
    .jump [(.x 4)])))))))) (
.ret [(.x 1)])
theorem T.impl_nameByte_l : leftF Tryd.prog CF Tryd.f97 = some (1, T.impl_nameByte) := by kernel_rfl
theorem T.impl_nameByte_con {args : List AV} {res : AV} (hl : args.length = 1) (hn : AV.norefs args = true) (hw : wpT Tryd.prog (fun _ _ _ => False) (fun a => a = res) T.impl_nameByte args []) : PCon Tryd.prog F.impl_nameByte args res :=
  con_auto Tryd.func97 T.impl_nameByte_l hl hn hw
def T.slices_Index__string_string : T :=
.bind 0 (
 .op (.lenL (.x 0)) (
 .loop [(.c (.v (.int .i64 0)))] (
  .op (.bin .lss (.x 3) (.x 2)) (
  .ite (.x 4)
   (.op (.elem 1 (.x 0) (.x 3)) (
   .chk (.lt (.x 5) 0) (
   .op (.bin .eql (.x 1) (.cell 5 0)) (
   .ite (.x 6)
    (.esc (.esc (.ret [(.x 3)])))
    (.op (.bin .add (.x 3) (.c (.v (.int .i64 1)))) (
    .jump [(.x 7)]))))))
   (.esc (.jump [])))))) (
.ret [(.c (.v (.int .i64 (-1))))])
theorem T.slices_Index__string_string_l : leftF Tryd.prog CF Tryd.f98 = some (2, T.slices_Index__string_string) := by kernel_rfl
theorem T.slices_Index__string_string_con {args : List AV} {res : AV} (hl : args.length = 2) (hn : AV.norefs args = true) (hw : wpT Tryd.prog (fun _ _ _ => False) (fun a => a = res) T.slices_Index__string_string args []) : PCon Tryd.prog F.slices_Index__string_string args res :=
  con_auto Tryd.func98 T.slices_Index__string_string_l hl hn hw
def T.impl_digit : T :=
.bind 1 (
 .op (.bin .geq (.x 0) (.c (.v (.int .u8 48)))) (
 .ite (.x 1)
  (.op (.bin .leq (.x 0) (.c (.v (.int .u8 57)))) (
  .jump [(.x 2)]))
  (.jump [(.c (.v (.bool false)))]))) (
.ret [(.x 1)])
theorem T.impl_digit_l : leftF Tryd.prog CF Tryd.f110 = some (1, T.impl_digit) := by kernel_rfl
theorem T.impl_digit_con {args : List AV} {res : AV} (hl : args.length = 1) (hn : AV.norefs args = true) (hw : wpT Tryd.prog (fun _ _ _ => False) (fun a => a = res) T.impl_digit args []) : PCon Tryd.prog F.impl_digit args res :=
  con_auto Tryd.func110 T.impl_digit_l hl hn hw
def T.impl_lexNum : T :=
.op (.call F.impl_run [(.x 0), (.x 1), (.c (.fn F.impl_digit []))] false) (
.op (.sliceS (.x 0) (some (.x 1)) (some (.x 2))) (
.op (.call F.strconv_Atoi [(.x 3)] false) (
.chk (.tup (.x 4) 0) (
.chk (.tup (.x 4) 1) (
.bind 0 (
 .bind 1 (
  .op (.pu (.isNilI true) [(.ext 4 1)]) (
  .ite (.x 5)
   (.jump [(.c (.v (.bool true)))])
   (.op (.bin .sub (.x 2) (.x 1)) (
   .op (.bin .gtr (.x 6) (.c (.v (.int .i64 1)))) (
   .ite (.x 7)
    (.op (.idxS (.x 0) (.x 1)) (
    .op (.bin .eql (.x 8) (.c (.v (.int .u8 48)))) (
    .jump [(.x 9)])))
    (.jump [(.c (.v (.bool false)))])))))) (
 .ite (.x 5)
  (.chk (.one (.c (.v (.int .i64 3)))) (
  .chk (.one (.x 1)) (
  .chk (.cells (.agg [(.c (.v (.int .i64 0))), (.c (.v (.string ⟨#[]⟩))), (.c (.v (.int .i64 0))), (.c (.v (.int .i64 0)))]) 4) (
  .chk (.cells (.agg [(.c (.v (.int .i64 3))), (.x 1)]) 2) (
  .esc (.ret [(.agg [(.c (.v (.int .i64 0))), (.c (.v (.string ⟨#[]⟩))), (.c (.v (.int .i64 0))), (.c (.v (.int .i64 0)))]), (.c (.v (.int .i64 0))), (.agg [(.c (.v (.int .i64 3))), (.x 1)])]))))))
  (.jump []))) (
.chk (.one (.c (.v (.int .i64 1)))) (
.chk (.one (.ext 4 0)) (
.chk (.one (.x 1)) (
.chk (.cells (.agg [(.c (.v (.int .i64 1))), (.c (.v (.string ⟨#[]⟩))), (.ext 4 0), (.x 1)]) 4) (
.chk (.cells (.agg [(.c (.v (.int .i64 0))), (.c (.v (.int .i64 0)))]) 2) (
.ret [(.agg [(.c (.v (.int .i64 1))), (.c (.v (.string ⟨#[]⟩))), (.ext 4 0), (.x 1)]), (.x 2), (.agg [(.c (.v (.int .i64 0))), (.c (.v (.int .i64 0)))])])))))))))))
theorem T.impl_lexNum_l : leftF Tryd.prog CF Tryd.f111 = some (2, T.impl_lexNum) := by kernel_rfl
theorem T.impl_lexNum_con {args : List AV} {res : AV} (hl : args.length = 2) (hn : AV.norefs args = true) (hw : wpT Tryd.prog (fun _ _ _ => False) (fun a => a = res) T.impl_lexNum args []) : PCon Tryd.prog F.impl_lexNum args res :=
  con_auto Tryd.func111 T.impl_lexNum_l hl hn hw
def T.impl_lexWord : T :=
.chk (.one (.x 1)) (
.chk (.one (.c (.v (.int .i64 3)))) (
.chk (.cells (.agg [(.c (.v (.int .i64 3))), (.c (.v (.string ⟨#[]⟩))), (.c (.v (.int .i64 0))), (.x 1)]) 4) (
.bind 2 (
 .op (.idxS (.x 0) (.x 1)) (
 .op (.bin .eql (.x 2) (.c (.v (.int .u8 39)))) (
 .ite (.x 3)
  (.chk (.one (.c (.v (.int .i64 5)))) (
  .op (.bin .add (.x 1) (.c (.v (.int .i64 1)))) (
  .jump [(.c (.v (.int .i64 5))), (.x 4)])))
  (.op (.idxS (.x 0) (.x 1)) (
  .op (.call F.impl_great [(.x 4)] false) (
  .ite (.x 5)
   (.chk (.one (.c (.v (.int .i64 4)))) (
   .jump [(.c (.v (.int .i64 4))), (.x 1)]))
   (.jump [(.c (.v (.int .i64 3))), (.x 1)]))))))) (
.op (.call F.impl_run [(.x 0), (.x 3), (.c (.fn F.impl_nameByte []))] false) (
.op (.bin .sub (.x 4) (.x 3)) (
.op (.bin .gtr (.x 5) (.c (.v (.int .i64 12)))) (
.ite (.x 6)
 (.chk (.one (.c (.v (.int .i64 2)))) (
 .chk (.one (.x 1)) (
 .chk (.cells (.agg [(.c (.v (.int .i64 0))), (.c (.v (.string ⟨#[]⟩))), (.c (.v (.int .i64 0))), (.c (.v (.int .i64 0)))]) 4) (
 .chk (.cells (.agg [(.c (.v (.int .i64 2))), (.x 1)]) 2) (
 .ret [(.agg [(.c (.v (.int .i64 0))), (.c (.v (.string ⟨#[]⟩))), (.c (.v (.int .i64 0))), (.c (.v (.int .i64 0)))]), (.c (.v (.int .i64 0))), (.agg [(.c (.v (.int .i64 2))), (.x 1)])])))))
 (.op (.sliceS (.x 0) (some (.x 3)) (some (.x 4))) (
 .chk (.one (.x 7)) (
 .bind 1 (
  .bind 1 (
   .op (.bin .eql (.x 2) (.c (.v (.int .i64 3)))) (
   .ite (.x 8)
    (.op (.call F.impl_isKey [(.x 7)] false) (
    .jump [(.x 9)]))
    (.jump [(.c (.v (.bool false)))]))) (
  .ite (.x 8)
   (.chk (.one (.c (.v (.int .i64 6)))) (
   .jump [(.c (.v (.int .i64 6)))]))
   (.jump [(.x 2)]))) (
 .chk (.cells (.agg [(.x 8), (.x 7), (.c (.v (.int .i64 0))), (.x 1)]) 4) (
 .chk (.cells (.agg [(.c (.v (.int .i64 0))), (.c (.v (.int .i64 0)))]) 2) (
 .ret [(.agg [(.x 8), (.x 7), (.c (.v (.int .i64 0))), (.x 1)]), (.x 4), (.agg [(.c (.v (.int .i64 0))), (.c (.v (.int .i64 0)))])])))))))))))))
theorem T.impl_lexWord_l : leftF Tryd.prog CF Tryd.f112 = some (2, T.impl_lexWord) := by kernel_rfl
theorem T.impl_lexWord_con {args : List AV} {res : AV} (hl : args.length = 2) (hn : AV.norefs args = true) (hw : wpT Tryd.prog (fun _ _ _ => False) (fun a => a = res) T.impl_lexWord args []) : PCon Tryd.prog F.impl_lexWord args res :=
  con_auto Tryd.func112 T.impl_lexWord_l hl hn hw
def T.impl_lexString : T :=
.bind 1 (
 .op (.bin .add (.x 1) (.c (.v (.int .i64 1)))) (
 .loop [(.c (.sl [])), (.x 2)] (
  .op (.lenS (.x 0)) (
  .op (.bin .lss (.x 4) (.x 5)) (
  .ite (.x 6)
   (.bind 3 (
    .op (.idxS (.x 0) (.x 4)) (
    .bind 2 (
     .op (.bin .eql (.x 7) (.c (.v (.int .u8 34)))) (
     .ite (.x 8)
      (.op (.pu .b2s [(.sl (.x 3))]) (
      .op (.bin .add (.x 4) (.c (.v (.int .i64 1)))) (
      .esc (.esc (.esc (.esc (.ret [(.x 9), (.x 10), (.c (.v (.bool true)))])))))))
      (.op (.bin .eql (.x 7) (.c (.v (.int .u8 92)))) (
      .ite (.x 9)
       (.op (.bin .add (.x 4) (.c (.v (.int .i64 1)))) (
       .op (.lenS (.x 0)) (
       .op (.bin .eql (.x 10) (.x 11)) (
       .ite (.x 12)
        (.esc (.esc (.esc (.esc (.ret [(.c (.v (.string ⟨#[]⟩))), (.c (.v (.int .i64 0))), (.c (.v (.bool false)))])))))
        (.op (.idxS (.x 0) (.x 10)) (
        .op (.bin .eql (.x 13) (.c (.v (.int .u8 110)))) (
        .ite (.x 14)
         (.jump [(.x 10), (.c (.v (.int .u8 10)))])
         (.bind 1 (
          .op (.bin .eql (.x 13) (.c (.v (.int .u8 34)))) (
          .ite (.x 15)
           (.jump [(.x 15)])
           (.op (.bin .eql (.x 13) (.c (.v (.int .u8 92)))) (
           .jump [(.x 16)])))) (
         .ite (.x 15)
          (.op (.idxS (.x 0) (.x 10)) (
          .jump [(.x 10), (.x 16)]))
          (.esc (.esc (.esc (.esc (.ret [(.c (.v (.string ⟨#[]⟩))), (.c (.v (.int .i64 0))), (.c (.v (.bool false)))]))))))))))))))
       (.op (.conv .i64 (.x 7)) (
       .op (.call F.impl_within [(.x 10), (.c (.v (.int .i64 32))), (.c (.v (.int .i64 126)))] false) (
       .op (.un .not (.x 11)) (
       .ite (.x 12)
        (.esc (.esc (.esc (.esc (.ret [(.c (.v (.string ⟨#[]⟩))), (.c (.v (.int .i64 0))), (.c (.v (.bool false)))])))))
        (.jump [(.x 4), (.x 7)]))))))))) (
    .chk (.one (.x 9)) (
    .op (.mkl (.v (.int .u8 0)) 1 [(0, (.x 9))]) (
    .op (.app 1 1 (.x 3) (.sl (.x 10))) (
    .jump [(.x 11), (.x 10), (.x 8)])))))) (
   .op (.bin .add (.x 9) (.c (.v (.int .i64 1)))) (
   .jump [(.x 7), (.x 10)])))
   (.esc (.jump [(.x 3)]))))))) (
.ret [(.c (.v (.string ⟨#[]⟩))), (.c (.v (.int .i64 0))), (.c (.v (.bool false)))])
theorem T.impl_lexString_l : leftF Tryd.prog CF Tryd.f113 = some (2, T.impl_lexString) := by kernel_rfl
theorem T.impl_lexString_con {args : List AV} {res : AV} (hl : args.length = 2) (hn : AV.norefs args = true) (hw : wpT Tryd.prog (fun _ _ _ => False) (fun a => a = res) T.impl_lexString args []) : PCon Tryd.prog F.impl_lexString args res :=
  con_auto Tryd.func113 T.impl_lexString_l hl hn hw
def T.impl_signAt : T :=
.bind 0 (
 .op (.call F.impl_signs [] false) (
 .op (.lenL (.x 2)) (
 .loop [(.c (.v (.int .i64 0)))] (
  .op (.bin .lss (.x 4) (.x 3)) (
  .ite (.x 5)
   (.op (.elem 1 (.x 2) (.x 4)) (
   .chk (.lt (.x 6) 0) (
   .op (.sliceS (.x 0) (some (.x 1)) none) (
   .op (.call F.strings_HasPrefix [(.x 7), (.cell 6 0)] false) (
   .ite (.x 8)
    (.esc (.esc (.ret [(.cell 6 0)])))
    (.op (.bin .add (.x 4) (.c (.v (.int .i64 1)))) (
    .jump [(.x 9)])))))))
   (.esc (.jump []))))))) (
.ret [(.c (.v (.string ⟨#[]⟩)))])
theorem T.impl_signAt_l : leftF Tryd.prog CF Tryd.f114 = some (2, T.impl_signAt) := by kernel_rfl
theorem T.impl_signAt_con {args : List AV} {res : AV} (hl : args.length = 2) (hn : AV.norefs args = true) (hw : wpT Tryd.prog (fun _ _ _ => False) (fun a => a = res) T.impl_signAt args []) : PCon Tryd.prog F.impl_signAt args res :=
  con_auto Tryd.func114 T.impl_signAt_l hl hn hw
-- strings_Builder_copyCheck: code not covered
-- strings_Builder_grow: no walk
def T.strings_HasPrefix : T :=
.op (.call F.internalstringslite_HasPrefix [(.x 0), (.x 1)] false) (
.ret [(.x 2)])
theorem T.strings_HasPrefix_l : leftF Tryd.prog CF Tryd.f123 = some (2, T.strings_HasPrefix) := by kernel_rfl
theorem T.strings_HasPrefix_con {args : List AV} {res : AV} (hl : args.length = 2) (hn : AV.norefs args = true) (hw : wpT Tryd.prog (fun _ _ _ => False) (fun a => a = res) T.strings_HasPrefix args []) : PCon Tryd.prog F.strings_HasPrefix args res :=
  con_auto Tryd.func123 T.strings_HasPrefix_l hl hn hw
def T.internalstringslite_HasPrefix : T :=
.bind 1 (
 .op (.lenS (.x 0)) (
 .op (.lenS (.x 1)) (
 .op (.bin .geq (.x 2) (.x 3)) (
 .ite (.x 4)
  (.op (.lenS (.x 1)) (
  .op (.sliceS (.x 0) none (some (.x 5))) (
  .op (.bin .eql (.x 6) (.x 1)) (
  .jump [(.x 7)]))))
  (.jump [(.c (.v (.bool false)))]))))) (
.ret [(.x 2)])
theorem T.internalstringslite_HasPrefix_l : leftF Tryd.prog CF Tryd.f134 = some (2, T.internalstringslite_HasPrefix) := by kernel_rfl
theorem T.internalstringslite_HasPrefix_con {args : List AV} {res : AV} (hl : args.length = 2) (hn : AV.norefs args = true) (hw : wpT Tryd.prog (fun _ _ _ => False) (fun a => a = res) T.internalstringslite_HasPrefix args []) : PCon Tryd.prog F.internalstringslite_HasPrefix args res :=
  con_auto Tryd.func134 T.internalstringslite_HasPrefix_l hl hn hw
end Go.Proofs.Ab
